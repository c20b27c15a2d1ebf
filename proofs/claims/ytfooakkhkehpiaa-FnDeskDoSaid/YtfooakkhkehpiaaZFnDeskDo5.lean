/- FnDeskDo: for every input the law holds. No condition. -/
import Derived.Test.YtfooakkhkehpiaaZFnDeskDo1
import Derived.Test.YtfooakkhkehpiaaZFnDeskDo2
import Derived.Test.YtfooakkhkehpiaaZFnDeskDo3
import Derived.Test.YtfooakkhkehpiaaZFnDeskDo4
namespace Go.Proofs.Ytfooakkhkehpiaa.PU
open Go.RowKit Go.Proofs.YtfooakkhkehpiaaW.PrintWords Go.Proofs.YtfooakkhkehpiaaW.PrintLast Go.Proofs.YtfooakkhkehpiaaW.PrintMore Go.Proofs.Ytfooakkhkehpiaa.Qd
attribute [local go_sem] max2_int min2_int max_two min_two max_three min_three max_four min_four
set_option linter.unusedVariables false
set_option linter.unusedSimpArgs false
mutual
def Fh.j0:Nat->List Int->Int->Int->Int->Int->Int->Option (Int × Int × Int × Int × Int)
 | 0,_,_,_,_,_,_=>none
 | k + 1,io,ld,dm2,dm3,dm4,dm5=>(F7.f k io ld 40).bind fun bt643=>(if bt643.1=true then((Fa.f k io bt643.2 120).bind fun bt645=>(Fh.j1 k io bt645.2 dm2 dm3 dm4 (wrap64 ((wrap64 (dm5 + bt645.1)) - 10)))) else(Fh.j1 k io bt643.2 dm2 dm3 dm4 dm5))
def Fh.j1:Nat->List Int->Int->Int->Int->Int->Int->Option (Int × Int × Int × Int × Int)
 | 0,_,_,_,_,_,_=>none
 | k + 1,io,ld,dm2,dm3,dm4,dm5=>(F7.f k io ld 40).bind fun bt647=>(if bt647.1=true then((Fa.f k io bt647.2 7).bind fun bt649=>(some (dm2,wrap64 ((wrap64 (dm3 + bt649.1)) - 2),dm4,dm5,bt649.2))) else(some (dm2,dm3,dm4,dm5,bt647.2)))
end
def Fh.f (k:Nat) (ah:List Int) (dp:Int) (bg:List Int) (b5:List (List Int)) (dt:List (S25)):Option (Int × Int × Int × Int × Int):=(some (([0,0,1,1,1,1,2,3,4]:List Int):List Int)).bind fun a9=>((Fa.f k ah dp 9).bind fun bt627=>(if 0<=bt627.1 then(if bt627.1 < (a9.length:Int) then((Fa.f k ah bt627.2 60).bind fun bt630=>(if (wrap64 ((rd a9 bt627.1) + (wrap64 ((wrap64 (Int.tdiv bt630.1 59)) * 5))))=0 then((Fa.f k ah bt630.2 (mx (bg.length:Int) 1)).bind fun bt633=>((Fa.f k ah bt633.2 21).bind fun bt635=>(Fh.j0 k ah bt635.2 (wrap64 ((rd a9 bt627.1) + (wrap64 ((wrap64 (Int.tdiv bt630.1 59)) * 5)))) bt633.1 0 bt635.1))) else(if (wrap64 ((rd a9 bt627.1) + (wrap64 ((wrap64 (Int.tdiv bt630.1 59)) * 5))))=1 then((Fa.f k ah bt630.2 (mx (bg.length:Int) 1)).bind fun bt637=>((Fa.f k ah bt637.2 (mx (bg.length:Int) 1)).bind fun bt639=>((Fa.f k ah bt639.2 10).bind fun bt641=>(Fh.j0 k ah bt641.2 (wrap64 ((rd a9 bt627.1) + (wrap64 ((wrap64 (Int.tdiv bt630.1 59)) * 5)))) bt637.1 bt639.1 bt641.1)))) else(Fh.j0 k ah bt630.2 (wrap64 ((rd a9 bt627.1) + (wrap64 ((wrap64 (Int.tdiv bt630.1 59)) * 5)))) 0 0 0)))) else(none)) else(none)))
def Fh.T2:Bool × List (List Nat × List Nat):=(true,[([],[]),([],[]),([1],[1]),([0,2],[0,2]),([3],[3]),([],[]),([5,2],[5]),([6],[6]),([7],[7]),([4,8],[4,8]),([9],[9]),([],[]),([11,10,6,0,1,2,3,4,5,6,7,8,9,10,11],[10,11])])
def Fh.B2:List Nat:=[0,0,2,7,15,0,38,102,230,511,1023,0,4095]
theorem Fh.tab2:rtab .any (opsOf Try.f103 2)=Fh.T2:=by kernel_rfl
theorem Fh.bits2:waitsOk Fh.T2.2 Fh.B2=true:=by kernel_rfl
def Fh.T12:Bool × List (List Nat × List Nat):=(true,[([],[]),([0],[0]),([],[]),([2],[2]),([1,3],[1,3]),([4],[4]),([0,1,2,3,4,5],[]),([6,5,3,0,1,2,3,4,5],[5,6])])
def Fh.B12:List Nat:=[0,1,0,4,15,31,63,127]
theorem Fh.tab12:rtab .any (opsOf Try.f103 12)=Fh.T12:=by kernel_rfl
theorem Fh.bits12:waitsOk Fh.T12.2 Fh.B12=true:=by kernel_rfl
def Fh.T14:Bool × List (List Nat × List Nat):=(true,[([],[]),([0],[0]),([],[]),([2],[2]),([1,3],[1,3]),([4],[4]),([0,1,2,3,4,5],[]),([6,5,3,0,1,2,3,4,5],[5,6])])
def Fh.B14:List Nat:=[0,1,0,4,15,31,63,127]
theorem Fh.tab14:rtab .any (opsOf Try.f103 14)=Fh.T14:=by kernel_rfl
theorem Fh.bits14:waitsOk Fh.T14.2 Fh.B14=true:=by kernel_rfl
theorem cr {p:Prop} (h:p:=by repeat(first|(with_reducible first|exact HI0.out|apply Jp.alloc|apply Jp.drewN|apply Jp.drew|apply Jp.set_1|refine Jp.far ?_ id6.out _|refine Jp.far ?_ fw2.out _|refine Jp.far ?_ jn.out _)|exact HI0.out)):p:=h
theorem ec {p:Prop} (h:p:=by repeat(first|(with_reducible first|exact HK.out|apply Jb.set_|apply Jj|apply Jk|apply keep_alloc|refine Jl ?_ lc2.out _|refine Jl ?_ lc3.out _|refine Jl ?_ ks.out _)|exact HK.out)):p:=h
theorem e6 {p:Prop} (h:p:=by repeat(first|(with_reducible first|exact HB.out|apply G4|apply G3|apply G2|refine G1 ?_ (Jp.ge HI0.out)|refine G1 ?_ lc4.out|refine G1 ?_ lc5.out|refine G1 ?_ kt.out)|exact HB.out)):p:=h
set_option maxHeartbeats 8000000 in
set_option maxRecDepth 100000 in
theorem Fh.calls (k:Nat) (g:Nat) (ah:List Int) (dp:Int) (eu:Option Addr) (ev:Nat) (bg:List Int) (e7:Option Addr) (e8:Nat) (b5:List (List Int)) (g9:Option Addr) (gz:Nat) (dt:List (S25)) (r1:Int) (r2:Int) (r3:Int) (r4:Int) (r5:Int) (w0 w:World) (hI:Jp w0 w g ah dp) (hB:Below w0.heap.size w0 w) (yn:Kd.C (Kd.int .i64) w eu bg.length bg) (yo:bg.length<=ev) (hf1_0:∀ad,eu=some ad->0 < bg.length->ad.block≠g) (yp:∀W_,Jb w W_ g none->Kd.C (Kd.slice 3 (Kd.int .i64)) W_ e7 b5.length b5) (yq:b5.length<=e8) (cr1:∀W_,Jb w W_ g none->Kd.C k25 W_ g9 dt.length dt) (cr2:dt.length<=gz) (h:Fh.f k ah dp bg b5 dt=some (r1,r2,r3,r4,r5)) :
  Calls Try.prog 103 #[.pointer (some ⟨g,0,none⟩), .agg #[.slice eu bg.length ev, .slice e7 b5.length e8, .slice g9 dt.length gz]] w fun e w'=>e = .returned (.agg #[.int .i64 r1, .int .i64 r2, .int .i64 r3, .int .i64 r4])/\Jp w0 w' g ah r5/\Below w0.heap.size w0 w'/\Jb w w' g none:=by
 have hu28:=Try.underlying28
 have hu69:=Try.underlying69
 have am2:=A_ yn
 have ay4:=A_ yo
 clear yn yo
 have ay5:=A_ yp
 have br0:=A_ yq
 clear yp yq
 have el8:=A_ cr1
 have ij6:=A_ cr2
 clear cr1 cr2
 have HI0:=A_ hI
 have HK:=A_ (Jb.refl w g none)
 have HL:=A_ hB.size
 clear hI
 have HW0:=A_ hB.size
 have HB:=A_ hB
 clear hB
 have H:=h
 unfold Fh.f at H
 clear h
 obtain⟨ji3,hji3⟩:∃j_:Int,(mx (bg.length:Int) 1)=j_:=⟨_,rfl⟩
 first|rw[hji3] at H|simp only[hji3] at H
 (try(have hji3l:1<=ji3:=by(rw[<- hji3];unfold mx;(repeat' split) <;> omega)))
 (try(have hji3m:0<=ji3:=by omega))
 have hji3_:(if (bg.length:Int) < 1 then 1 else(bg.length:Int))=ji3:=hji3
 obtain⟨a9,hyq⟩:∃y_:List Int,y_=(([0,0,1,1,1,1,2,3,4]:List Int)):=⟨_,rfl⟩
 replace H:((Fa.f k ah dp 9).bind fun bt627=>(if 0<=bt627.1 then(if bt627.1 < (a9.length:Int) then((Fa.f k ah bt627.2 60).bind fun bt630=>(if (wrap64 ((rd a9 bt627.1) + (wrap64 ((wrap64 (Int.tdiv bt630.1 59)) * 5))))=0 then((Fa.f k ah bt630.2 (ji3)).bind fun bt633=>((Fa.f k ah bt633.2 21).bind fun bt635=>(Fh.j0 k ah bt635.2 (wrap64 ((rd a9 bt627.1) + (wrap64 ((wrap64 (Int.tdiv bt630.1 59)) * 5)))) bt633.1 0 bt635.1))) else(if (wrap64 ((rd a9 bt627.1) + (wrap64 ((wrap64 (Int.tdiv bt630.1 59)) * 5))))=1 then((Fa.f k ah bt630.2 (ji3)).bind fun bt637=>((Fa.f k ah bt637.2 (ji3)).bind fun bt639=>((Fa.f k ah bt639.2 10).bind fun bt641=>(Fh.j0 k ah bt641.2 (wrap64 ((rd a9 bt627.1) + (wrap64 ((wrap64 (Int.tdiv bt630.1 59)) * 5)))) bt637.1 bt639.1 bt641.1)))) else(Fh.j0 k ah bt630.2 (wrap64 ((rd a9 bt627.1) + (wrap64 ((wrap64 (Int.tdiv bt630.1 59)) * 5)))) 0 0 0)))) else(none)) else(none)))=some (r1,r2,r3,r4,r5):=qh_
 have ag1:=A_ hyq
 clear hyq
 replace H:=Option.bind_eq_some_iff.mp H
 obtain⟨⟨dq,lf⟩,oc,H⟩:=H
 try dsimp only at H
 have A4:=A_ oc
 clear oc
 obtain⟨ij,H⟩:=pd_ H
 obtain⟨nk,H⟩:=pd_ H
 replace H:=Option.bind_eq_some_iff.mp H
 obtain⟨⟨ff,ms⟩,A70,H⟩:=H
 try dsimp only at H
 have A7:=A_ A70
 clear A70
 have HC8:=A_ H
 clear H
 go_enter Try.func103,Try.ntmps103
 try go_wp2_with (first|((with_reducible refine gd_ 3 ?_);refine bx_ (N:=3) #[.slice eu bg.length ev, .slice e7 b5.length e8, .slice g9 dt.length gz] 28 ?_;intro de hg w9 hbox hb;replace HB:=hs_ (e6) hb;have bk:=A_ (hbox);have lc2:=A_ ((g15_:w.heap.size<=de));have lc4:=A_ (Nat.le_trans HW0.out lc2.out);replace HK:=kt_ (ec) hb;have id6:=A_ ((by rw[hg];exact Nat.ne_of_lt (Jp.lt (show Jp w0 _ g ah dp from cr)):g≠de));have qy:=A_ ((by rw[hg];exact Nat.ne_of_gt (Jp.lt (show Jp w0 _ g ah dp from cr)):de≠g));replace HI0:=A_ (Jp.below (cr) hb);clear hb hbox hg)|((with_reducible refine gd_ 4 ?_);refine bx_ (N:=4) #[.int .i64 0, .int .i64 0, .int .i64 0, .int .i64 0] 69 ?_;intro da hg w10 hbox hb;replace HB:=hs_ (e6) hb;have bi:=A_ (hbox);have lc3:=A_ ((g15_:w.heap.size<=da));have lc5:=A_ (Nat.le_trans HW0.out lc3.out);replace HK:=kt_ (ec) hb;have fw3:=A_ ((g30_:de≠da));have fw4:=A_ ((g31_:da≠de));replace bk:=bb_ bk hb;have fw2:=A_ ((by rw[hg];exact Nat.ne_of_lt (Jp.lt (show Jp w0 _ g ah dp from cr)):g≠da));have qk:=A_ ((by rw[hg];exact Nat.ne_of_gt (Jp.lt (show Jp w0 _ g ah dp from cr)):da≠g));replace HI0:=A_ (Jp.below (cr) hb);clear hb hbox hg;have ah3:=fw3.out;have ah4:=fw4.out;have bv1:=qy.out;have bv2:=id6.out;obtain⟨tc,td,cz0,te,tf,cz1⟩:=blk3_ bk))
 have pi629:(0<=(dq:Int))=True:=eq_true (od_)
 have qi629:(dq < (a9.length:Int))=True:=eq_true (od_)
 replace bk:=bd_ bk
 replace bi:=bd_ bi
 replace HI0:=A_ (Jp.drew HI0.out)
 replace HK:=A_ (Jk HK.out)
 replace HB:=A_ (G2 HB.out)
 refine start_ (n:=13) (S:=fun w'=>True) (ds:=[]) (tl_ 13 0) (g1_) rfl (g1_) trivial (fun hHeld=>?_);refine Jm Fh.tab2 Fh.bits2 (fun HT_ HW_=>?_)
 generalize w10.drew=w14 at bk bi HI0 HK HB hHeld |-
 refine pw_ 1 13 (tl_ 13 2) ?_
 refine pw_ 5 17 (tl_ 13 34) ?_
 refine join_ (σ:=Value × Addr × Nat) 1 (tl_ 13 4095) (fun s_=>[(12,s_.1),(14, .int .i64 dq),(16, .int .i64 (rd a9 dq)),(18, .int .i64 ff),(6, .pointer (some ⟨s_.2.2,0,none⟩)),(15, .pointer (some (s_.2.1.add (dq).toNat))),(19, .int .i64 (wrap64 (Int.tdiv ff 59))),(20, .int .i64 (wrap64 ((wrap64 (Int.tdiv ff 59)) * 5))),(21, .int .i64 (wrap64 ((rd a9 dq) + (wrap64 ((wrap64 (Int.tdiv ff 59)) * 5))))),(22, .agg #[.int .i64 (wrap64 ((rd a9 dq) + (wrap64 ((wrap64 (Int.tdiv ff 59)) * 5)))), .int .i64 0, .int .i64 0, .int .i64 0])]) (fun s_ w'=>(Kd.R (Kd.int .i64) 3 w' w.heap.size (fun _=>True) s_.1 a9)/\(∃c_,(s_.1:Value) = .slice (some s_.2.1) a9.length c_)/\(hc_ w' de #[.slice eu bg.length ev, .slice e7 b5.length e8, .slice g9 dt.length gz] 28)/\(hc_ w' da #[.int .i64 0, .int .i64 0, .int .i64 0, .int .i64 0] 69)/\(hc_ w' s_.2.2 #[.int .i64 0, .int .i64 0, .int .i64 0, .int .i64 0] 69)/\(w.heap.size<=s_.2.2)/\(w0.heap.size<=s_.2.2)/\(g≠s_.2.2)/\(s_.2.2≠g)/\(de≠s_.2.2)/\(s_.2.2≠de)/\(da≠s_.2.2)/\(s_.2.2≠da)/\(Jp w0 w' g ah ms)/\(Jb w w' g none)/\(Below w0.heap.size w0 w')) ?_ ?_
 rotate_left
 ·intro hJ0_2_4_6_11
  refine join_ (σ:=Value × Addr) 2 (tl_ 13 2047) (fun s_=>[(12,s_.1),(14, .int .i64 dq),(16, .int .i64 (rd a9 dq)),(18, .int .i64 ff),(15, .pointer (some (s_.2.add (dq).toNat))),(19, .int .i64 (wrap64 (Int.tdiv ff 59))),(20, .int .i64 (wrap64 ((wrap64 (Int.tdiv ff 59)) * 5))),(21, .int .i64 (wrap64 ((rd a9 dq) + (wrap64 ((wrap64 (Int.tdiv ff 59)) * 5))))),(22, .agg #[.int .i64 (wrap64 ((rd a9 dq) + (wrap64 ((wrap64 (Int.tdiv ff 59)) * 5)))), .int .i64 0, .int .i64 0, .int .i64 0])]) (fun s_ w'=>(Kd.R (Kd.int .i64) 3 w' w.heap.size (fun _=>True) s_.1 a9)/\(∃c_,(s_.1:Value) = .slice (some s_.2) a9.length c_)/\(hc_ w' de #[.slice eu bg.length ev, .slice e7 b5.length e8, .slice g9 dt.length gz] 28)/\(hc_ w' da #[.int .i64 0, .int .i64 0, .int .i64 0, .int .i64 0] 69)/\(Jp w0 w' g ah ms)/\(Jb w w' g none)/\(Below w0.heap.size w0 w')) ?_ ?_
  ·skip
   rintro⟨kl,adz_v625⟩ hf ⟨h0_,h1_,h2_,h3_,h4_,h5_,h6_⟩
   have dw:Gy (Kd.R (Kd.int .i64) 3 hf w.heap.size (fun _=>True) kl a9):=⟨h0_⟩
   have HA_HO626:Gy (∃c_,(kl:Value) = .slice (some adz_v625) a9.length c_):=⟨h1_⟩
   replace bk:Gy (hc_ hf de #[.slice eu bg.length ev, .slice e7 b5.length e8, .slice g9 dt.length gz] 28):=⟨h2_⟩
   replace bi:Gy (hc_ hf da #[.int .i64 0, .int .i64 0, .int .i64 0, .int .i64 0] 69):=⟨h3_⟩
   replace HI0:Gy (Jp w0 hf g ah ms):=⟨h4_⟩
   replace HK:Gy (Jb w hf g none):=⟨h5_⟩
   replace HB:Gy (Below w0.heap.size w0 hf):=⟨h6_⟩
   clear h0_ h1_ h2_ h3_ h4_ h5_ h6_
   have hHeld:=trivial
   obtain⟨as3,bg4⟩:=HA_HO626.out
   clear HA_HO626
   subst bg4
   refine norm_ (a':=?_) ?_ ?_
   rotate_left
   ·simp only[putAll,Act.put,List.setIfInBounds_toArray,List.set_cons_zero,List.set_cons_succ]
    rfl
   refine one_ (i:=11) (N:=some 6) (tl_ 13 4095) rfl rfl (Jo HT_.out (g1_)) (by decide) (fun K hK=>?_)
   refine bs_ (N:=6) #[.int .i64 0, .int .i64 0, .int .i64 0, .int .i64 0] 69 ?_
   intro ao hg ug hbox hb
   replace dw:=rb_ dw hb
   replace HB:=hs_ (e6) hb
   have bp:=A_ (hbox)
   have ks:=A_ ((g15_:w.heap.size<=ao))
   have kt:=A_ (Nat.le_trans HW0.out ks.out)
   replace HK:=kt_ (ec) hb
   have g7:=A_ ((g30_:de≠ao))
   have iw:=A_ ((g31_:ao≠de))
   replace bk:=bb_ bk hb
   have g5:=A_ ((g44_:da≠ao))
   have ix:=A_ ((g45_:ao≠da))
   replace bi:=bb_ bi hb
   have jn:=A_ ((by rw[hg];exact Nat.ne_of_lt (Jp.lt (show Jp w0 _ g ah ms from cr)):g≠ao))
   have gq:=A_ ((by rw[hg];exact Nat.ne_of_gt (Jp.lt (show Jp w0 _ g ah ms from cr)):ao≠g))
   replace HI0:=A_ (Jp.below (cr) hb)
   clear hb hbox hg
   refine hK.out _ _ trivial (fun hHeld=>?_)
   clear hK K
   refine nm_ ?_
   exact norm_ (g7_) (hJ0_2_4_6_11 (.slice (some adz_v625) a9.length as3,adz_v625,ao) _ ⟨(uf2_ dw),⟨_,rfl⟩,(uf0_ bk),(uf0_ bi),(uf0_ bp),ks.out,kt.out,jn.out,gq.out,g7.out,iw.out,g5.out,ix.out,(cr),(ec),(e6)⟩)
  intro hJ0_2_4_6
  refine join_ (σ:=Value × Addr × Nat) 6 (tl_ 13 2111) (fun s_=>[(12,s_.1),(14, .int .i64 dq),(16, .int .i64 (rd a9 dq)),(6, .pointer (some ⟨s_.2.2,0,none⟩)),(15, .pointer (some (s_.2.1.add (dq).toNat)))]) (fun s_ w'=>(Kd.R (Kd.int .i64) 3 w' w.heap.size (fun _=>True) s_.1 a9)/\(∃c_,(s_.1:Value) = .slice (some s_.2.1) a9.length c_)/\(hc_ w' de #[.slice eu bg.length ev, .slice e7 b5.length e8, .slice g9 dt.length gz] 28)/\(hc_ w' da #[.int .i64 0, .int .i64 0, .int .i64 0, .int .i64 0] 69)/\(hc_ w' s_.2.2 #[.int .i64 0, .int .i64 0, .int .i64 0, .int .i64 0] 69)/\(w.heap.size<=s_.2.2)/\(w0.heap.size<=s_.2.2)/\(g≠s_.2.2)/\(s_.2.2≠g)/\(de≠s_.2.2)/\(s_.2.2≠de)/\(da≠s_.2.2)/\(s_.2.2≠da)/\(Jp w0 w' g ah lf)/\(Jb w w' g none)/\(Below w0.heap.size w0 w')) ?_ ?_
  ·skip
   rintro⟨kl,adz_v625,ao⟩ hf ⟨h0_,h1_,h2_,h3_,h4_,h5_,h6_,h7_,h8_,h9_,h10_,h11_,h12_,h13_,h14_,h15_⟩
   have dw:Gy (Kd.R (Kd.int .i64) 3 hf w.heap.size (fun _=>True) kl a9):=⟨h0_⟩
   have HA_HO626:Gy (∃c_,(kl:Value) = .slice (some adz_v625) a9.length c_):=⟨h1_⟩
   replace bk:Gy (hc_ hf de #[.slice eu bg.length ev, .slice e7 b5.length e8, .slice g9 dt.length gz] 28):=⟨h2_⟩
   replace bi:Gy (hc_ hf da #[.int .i64 0, .int .i64 0, .int .i64 0, .int .i64 0] 69):=⟨h3_⟩
   have bp:Gy (hc_ hf ao #[.int .i64 0, .int .i64 0, .int .i64 0, .int .i64 0] 69):=⟨h4_⟩
   have ks:Gy (w.heap.size<=ao):=⟨h5_⟩
   have kt:Gy (w0.heap.size<=ao):=⟨h6_⟩
   have jn:Gy (g≠ao):=⟨h7_⟩
   have gq:Gy (ao≠g):=⟨h8_⟩
   have g7:Gy (de≠ao):=⟨h9_⟩
   have iw:Gy (ao≠de):=⟨h10_⟩
   have g5:Gy (da≠ao):=⟨h11_⟩
   have ix:Gy (ao≠da):=⟨h12_⟩
   replace HI0:Gy (Jp w0 hf g ah lf):=⟨h13_⟩
   replace HK:Gy (Jb w hf g none):=⟨h14_⟩
   replace HB:Gy (Below w0.heap.size w0 hf):=⟨h15_⟩
   clear h0_ h1_ h2_ h3_ h4_ h5_ h6_ h7_ h8_ h9_ h10_ h11_ h12_ h13_ h14_ h15_
   have hHeld:=trivial
   obtain⟨as3,bg4⟩:=HA_HO626.out
   clear HA_HO626
   subst bg4
   refine norm_ (a':=?_) ?_ ?_
   rotate_left
   ·simp only[putAll,Act.put,List.setIfInBounds_toArray,List.set_cons_zero,List.set_cons_succ]
    rfl
   refine one_ (i:=6) (N:=some 18) (tl_ 13 2175) rfl rfl (Jo HT_.out (g1_)) (by decide) (fun K hK=>?_)
   refine goes_ Try.func70 (g1_) rfl #[.pointer (some ⟨g,0,none⟩), .int .i64 60] (by rfl) rfl rfl (g3_) ?_
   refine(Fa.calls k g ah lf 60 ff ms w0 _ cr e6 A7.out).mono ?_
   rintro e ug ⟨rfl,hi,hb,hk⟩
   refine⟨_,rfl,?_⟩
   replace bk:=kb_ hk bk qy
   replace bi:=kb_ hk bi qk
   replace dw:=A_ (Kd.R_mono (Kd.R_keep (Jp.apart (show Jp w0 _ g ah lf from cr) (uf2_ dw) (by decide)) hk (fun _ h=>h.2)) (fun _ h=>h.1))
   replace bp:=kb_ hk bp gq
   replace HK:=A_ (Jb.trans (ec) hk (.inl rfl))
   replace HB:=A_ (hb)
   replace HI0:=A_ (hi)
   refine hK.out _ _ trivial (fun hHeld=>?_)
   clear hK K
   refine nm_ ?_
   refine pw_ 7 19 (tl_ 13 2303) ?_
   refine pw_ 8 20 (tl_ 13 2559) ?_
   refine pw_ 9 21 (tl_ 13 3071) ?_
   refine pw_ 10 22 (tl_ 13 4095) ?_
   exact norm_ (g7_) (hJ0_2_4_6_11 (.slice (some adz_v625) a9.length as3,adz_v625,ao) _ ⟨(uf2_ dw),⟨_,rfl⟩,(uf0_ bk),(uf0_ bi),(uf0_ bp),ks.out,kt.out,jn.out,gq.out,g7.out,iw.out,g5.out,ix.out,(cr),(ec),(e6)⟩)
  intro hJ0_2_4_11
  refine join_ (σ:=Value × Addr × Nat) 4 (tl_ 13 2543) (fun s_=>[(12,s_.1),(14, .int .i64 dq),(18, .int .i64 ff),(6, .pointer (some ⟨s_.2.2,0,none⟩)),(15, .pointer (some (s_.2.1.add (dq).toNat))),(19, .int .i64 (wrap64 (Int.tdiv ff 59))),(20, .int .i64 (wrap64 ((wrap64 (Int.tdiv ff 59)) * 5)))]) (fun s_ w'=>(Kd.R (Kd.int .i64) 3 w' w.heap.size (fun _=>True) s_.1 a9)/\(∃c_,(s_.1:Value) = .slice (some s_.2.1) a9.length c_)/\(hc_ w' de #[.slice eu bg.length ev, .slice e7 b5.length e8, .slice g9 dt.length gz] 28)/\(hc_ w' da #[.int .i64 0, .int .i64 0, .int .i64 0, .int .i64 0] 69)/\(hc_ w' s_.2.2 #[.int .i64 0, .int .i64 0, .int .i64 0, .int .i64 0] 69)/\(w.heap.size<=s_.2.2)/\(w0.heap.size<=s_.2.2)/\(g≠s_.2.2)/\(s_.2.2≠g)/\(de≠s_.2.2)/\(s_.2.2≠de)/\(da≠s_.2.2)/\(s_.2.2≠da)/\(Jp w0 w' g ah ms)/\(Jb w w' g none)/\(Below w0.heap.size w0 w')) ?_ ?_
  ·skip
   rintro⟨kl,adz_v625,ao⟩ j5 ⟨h0_,h1_,h2_,h3_,h4_,h5_,h6_,h7_,h8_,h9_,h10_,h11_,h12_,h13_,h14_,h15_⟩
   have dw:Gy (Kd.R (Kd.int .i64) 3 j5 w.heap.size (fun _=>True) kl a9):=⟨h0_⟩
   have HA_HO626:Gy (∃c_,(kl:Value) = .slice (some adz_v625) a9.length c_):=⟨h1_⟩
   replace bk:Gy (hc_ j5 de #[.slice eu bg.length ev, .slice e7 b5.length e8, .slice g9 dt.length gz] 28):=⟨h2_⟩
   replace bi:Gy (hc_ j5 da #[.int .i64 0, .int .i64 0, .int .i64 0, .int .i64 0] 69):=⟨h3_⟩
   have bp:Gy (hc_ j5 ao #[.int .i64 0, .int .i64 0, .int .i64 0, .int .i64 0] 69):=⟨h4_⟩
   have ks:Gy (w.heap.size<=ao):=⟨h5_⟩
   have kt:Gy (w0.heap.size<=ao):=⟨h6_⟩
   have jn:Gy (g≠ao):=⟨h7_⟩
   have gq:Gy (ao≠g):=⟨h8_⟩
   have g7:Gy (de≠ao):=⟨h9_⟩
   have iw:Gy (ao≠de):=⟨h10_⟩
   have g5:Gy (da≠ao):=⟨h11_⟩
   have ix:Gy (ao≠da):=⟨h12_⟩
   replace HI0:Gy (Jp w0 j5 g ah ms):=⟨h13_⟩
   replace HK:Gy (Jb w j5 g none):=⟨h14_⟩
   replace HB:Gy (Below w0.heap.size w0 j5):=⟨h15_⟩
   clear h0_ h1_ h2_ h3_ h4_ h5_ h6_ h7_ h8_ h9_ h10_ h11_ h12_ h13_ h14_ h15_
   have hHeld:=trivial
   obtain⟨bc,aq5⟩:=HA_HO626.out
   clear HA_HO626
   subst aq5
   refine norm_ (a':=?_) ?_ ?_
   rotate_left
   ·simp only[putAll,Act.put,List.setIfInBounds_toArray,List.set_cons_zero,List.set_cons_succ]
    rfl
   refine one_ (i:=4) (N:=some 16) (tl_ 13 2559) rfl rfl (Jo HT_.out (g1_)) (by decide) (fun K hK=>?_)
   (have bg1:0<=(dq:Int):=od_;have bg2:dq < (a9.length:Int):=od_;obtain⟨cd1,cd2,bg3⟩:=Kd.at_int (Kd.R_reads' dw.out).2.2 dq bg1 bg2;obtain rfl:adz_v625=cd1:=(by injection cd2))
   refine value_ (w1:=?_) (v:=?_) (by rfl) rfl ?_ ?_
   rotate_left 2
   ·go_simp
    constructor
    ·rfl
    rfl
   clear bg3
   refine hK.out _ _ trivial (fun hHeld=>?_)
   clear hK K
   refine nm_ ?_
   refine pw_ 9 21 (tl_ 13 3071) ?_
   refine pw_ 10 22 (tl_ 13 4095) ?_
   exact norm_ (g7_) (hJ0_2_4_6_11 (.slice (some adz_v625) a9.length bc,adz_v625,ao) _ ⟨(uf2_ dw),⟨_,rfl⟩,(uf0_ bk),(uf0_ bi),(uf0_ bp),ks.out,kt.out,jn.out,gq.out,g7.out,iw.out,g5.out,ix.out,(cr),(ec),(e6)⟩)
  intro hJ0_2_6_11
  refine join_ (σ:=Value × Addr) 7 (tl_ 13 63) (fun s_=>[(12,s_.1),(14, .int .i64 dq),(16, .int .i64 (rd a9 dq)),(15, .pointer (some (s_.2.add (dq).toNat)))]) (fun s_ w'=>(Kd.R (Kd.int .i64) 3 w' w.heap.size (fun _=>True) s_.1 a9)/\(∃c_,(s_.1:Value) = .slice (some s_.2) a9.length c_)/\(hc_ w' de #[.slice eu bg.length ev, .slice e7 b5.length e8, .slice g9 dt.length gz] 28)/\(hc_ w' da #[.int .i64 0, .int .i64 0, .int .i64 0, .int .i64 0] 69)/\(Jp w0 w' g ah lf)/\(Jb w w' g none)/\(Below w0.heap.size w0 w')) ?_ ?_
  ·skip
   rintro⟨kl,adz_v625⟩ iq ⟨h0_,h1_,h2_,h3_,h4_,h5_,h6_⟩
   have dw:Gy (Kd.R (Kd.int .i64) 3 iq w.heap.size (fun _=>True) kl a9):=⟨h0_⟩
   have HA_HO626:Gy (∃c_,(kl:Value) = .slice (some adz_v625) a9.length c_):=⟨h1_⟩
   replace bk:Gy (hc_ iq de #[.slice eu bg.length ev, .slice e7 b5.length e8, .slice g9 dt.length gz] 28):=⟨h2_⟩
   replace bi:Gy (hc_ iq da #[.int .i64 0, .int .i64 0, .int .i64 0, .int .i64 0] 69):=⟨h3_⟩
   replace HI0:Gy (Jp w0 iq g ah lf):=⟨h4_⟩
   replace HK:Gy (Jb w iq g none):=⟨h5_⟩
   replace HB:Gy (Below w0.heap.size w0 iq):=⟨h6_⟩
   clear h0_ h1_ h2_ h3_ h4_ h5_ h6_
   have hHeld:=trivial
   obtain⟨gv,ux⟩:=HA_HO626.out
   clear HA_HO626
   subst ux
   refine norm_ (a':=?_) ?_ ?_
   rotate_left
   ·simp only[putAll,Act.put,List.setIfInBounds_toArray,List.set_cons_zero,List.set_cons_succ]
    rfl
   refine two_ (i:=6) (j:=11) (Ni:=some 18) (Nj:=some 6) (tl_ 13 127) (tl_ 13 2111) rfl rfl rfl rfl (two_of HT_.out (g1_)) (by decide) (by decide) (fun K hK=>?_) (fun K hK=>?_)
   ·skip
    refine goes_ Try.func70 (g1_) rfl #[.pointer (some ⟨g,0,none⟩), .int .i64 60] (by rfl) rfl rfl (g3_) ?_
    refine(Fa.calls k g ah lf 60 ff ms w0 _ cr e6 A7.out).mono ?_
    rintro e j5 ⟨rfl,hi,hb,hk⟩
    refine⟨_,rfl,?_⟩
    replace bk:=kb_ hk bk qy
    replace bi:=kb_ hk bi qk
    replace dw:=A_ (Kd.R_mono (Kd.R_keep (Jp.apart (show Jp w0 _ g ah lf from cr) (uf2_ dw) (by decide)) hk (fun _ h=>h.2)) (fun _ h=>h.1))
    replace HK:=A_ (Jb.trans (ec) hk (.inl rfl))
    replace HB:=A_ (hb)
    replace HI0:=A_ (hi)
    refine hK.out _ _ trivial (fun hHeld=>?_)
    clear hK K
    refine nm_ ?_
    refine pw_ 7 19 (tl_ 13 255) ?_
    refine pw_ 8 20 (tl_ 13 511) ?_
    refine pw_ 9 21 (tl_ 13 1023) ?_
    refine pw_ 10 22 (tl_ 13 2047) ?_
    exact norm_ (g7_) (hJ0_2_4_6 (.slice (some adz_v625) a9.length gv,adz_v625) _ ⟨(uf2_ dw),⟨_,rfl⟩,(uf0_ bk),(uf0_ bi),(cr),(ec),(e6)⟩)
   skip
   refine bs_ (N:=6) #[.int .i64 0, .int .i64 0, .int .i64 0, .int .i64 0] 69 ?_
   intro ao hg j5 hbox hb
   replace dw:=rb_ dw hb
   replace HB:=hs_ (e6) hb
   have bp:=A_ (hbox)
   have ks:=A_ ((g15_:w.heap.size<=ao))
   have kt:=A_ (Nat.le_trans HW0.out ks.out)
   replace HK:=kt_ (ec) hb
   have g7:=A_ ((g30_:de≠ao))
   have iw:=A_ ((g31_:ao≠de))
   replace bk:=bb_ bk hb
   have g5:=A_ ((g44_:da≠ao))
   have ix:=A_ ((g45_:ao≠da))
   replace bi:=bb_ bi hb
   have jn:=A_ ((by rw[hg];exact Nat.ne_of_lt (Jp.lt (show Jp w0 _ g ah lf from cr)):g≠ao))
   have gq:=A_ ((by rw[hg];exact Nat.ne_of_gt (Jp.lt (show Jp w0 _ g ah lf from cr)):ao≠g))
   replace HI0:=A_ (Jp.below (cr) hb)
   clear hb hbox hg
   refine hK.out _ _ trivial (fun hHeld=>?_)
   clear hK K
   refine nm_ ?_
   exact norm_ (g7_) (hJ0_2_4_11 (.slice (some adz_v625) a9.length gv,adz_v625,ao) _ ⟨(uf2_ dw),⟨_,rfl⟩,(uf0_ bk),(uf0_ bi),(uf0_ bp),ks.out,kt.out,jn.out,gq.out,g7.out,iw.out,g5.out,ix.out,(cr),(ec),(e6)⟩)
  intro hJ0_2_4
  refine join_ (σ:=Value × Addr) 5 (tl_ 13 495) (fun s_=>[(12,s_.1),(14, .int .i64 dq),(18, .int .i64 ff),(15, .pointer (some (s_.2.add (dq).toNat))),(19, .int .i64 (wrap64 (Int.tdiv ff 59))),(20, .int .i64 (wrap64 ((wrap64 (Int.tdiv ff 59)) * 5)))]) (fun s_ w'=>(Kd.R (Kd.int .i64) 3 w' w.heap.size (fun _=>True) s_.1 a9)/\(∃c_,(s_.1:Value) = .slice (some s_.2) a9.length c_)/\(hc_ w' de #[.slice eu bg.length ev, .slice e7 b5.length e8, .slice g9 dt.length gz] 28)/\(hc_ w' da #[.int .i64 0, .int .i64 0, .int .i64 0, .int .i64 0] 69)/\(Jp w0 w' g ah ms)/\(Jb w w' g none)/\(Below w0.heap.size w0 w')) ?_ ?_
  ·skip
   rintro⟨kl,adz_v625⟩ hf ⟨h0_,h1_,h2_,h3_,h4_,h5_,h6_⟩
   have dw:Gy (Kd.R (Kd.int .i64) 3 hf w.heap.size (fun _=>True) kl a9):=⟨h0_⟩
   have HA_HO626:Gy (∃c_,(kl:Value) = .slice (some adz_v625) a9.length c_):=⟨h1_⟩
   replace bk:Gy (hc_ hf de #[.slice eu bg.length ev, .slice e7 b5.length e8, .slice g9 dt.length gz] 28):=⟨h2_⟩
   replace bi:Gy (hc_ hf da #[.int .i64 0, .int .i64 0, .int .i64 0, .int .i64 0] 69):=⟨h3_⟩
   replace HI0:Gy (Jp w0 hf g ah ms):=⟨h4_⟩
   replace HK:Gy (Jb w hf g none):=⟨h5_⟩
   replace HB:Gy (Below w0.heap.size w0 hf):=⟨h6_⟩
   clear h0_ h1_ h2_ h3_ h4_ h5_ h6_
   have hHeld:=trivial
   obtain⟨as3,bg4⟩:=HA_HO626.out
   clear HA_HO626
   subst bg4
   refine norm_ (a':=?_) ?_ ?_
   rotate_left
   ·simp only[putAll,Act.put,List.setIfInBounds_toArray,List.set_cons_zero,List.set_cons_succ]
    rfl
   refine two_ (i:=4) (j:=11) (Ni:=some 16) (Nj:=some 6) (tl_ 13 511) (tl_ 13 2543) rfl rfl rfl rfl (two_of HT_.out (g1_)) (by decide) (by decide) (fun K hK=>?_) (fun K hK=>?_)
   ·skip
    (have bg1:0<=(dq:Int):=od_;have bg2:dq < (a9.length:Int):=od_;obtain⟨cd1,cd2,bg3⟩:=Kd.at_int (Kd.R_reads' dw.out).2.2 dq bg1 bg2;obtain rfl:adz_v625=cd1:=(by injection cd2))
    refine value_ (w1:=?_) (v:=?_) (by rfl) rfl ?_ ?_
    rotate_left 2
    ·go_simp
     constructor
     ·rfl
     rfl
    clear bg3
    refine hK.out _ _ trivial (fun hHeld=>?_)
    clear hK K
    refine nm_ ?_
    refine pw_ 9 21 (tl_ 13 1023) ?_
    refine pw_ 10 22 (tl_ 13 2047) ?_
    exact norm_ (g7_) (hJ0_2_4_6 (.slice (some adz_v625) a9.length as3,adz_v625) _ ⟨(uf2_ dw),⟨_,rfl⟩,(uf0_ bk),(uf0_ bi),(cr),(ec),(e6)⟩)
   skip
   refine bs_ (N:=6) #[.int .i64 0, .int .i64 0, .int .i64 0, .int .i64 0] 69 ?_
   intro ao hg ug hbox hb
   replace dw:=rb_ dw hb
   replace HB:=hs_ (e6) hb
   have bp:=A_ (hbox)
   have ks:=A_ ((g15_:w.heap.size<=ao))
   have kt:=A_ (Nat.le_trans HW0.out ks.out)
   replace HK:=kt_ (ec) hb
   have g7:=A_ ((g30_:de≠ao))
   have iw:=A_ ((g31_:ao≠de))
   replace bk:=bb_ bk hb
   have g5:=A_ ((g44_:da≠ao))
   have ix:=A_ ((g45_:ao≠da))
   replace bi:=bb_ bi hb
   have jn:=A_ ((by rw[hg];exact Nat.ne_of_lt (Jp.lt (show Jp w0 _ g ah ms from cr)):g≠ao))
   have gq:=A_ ((by rw[hg];exact Nat.ne_of_gt (Jp.lt (show Jp w0 _ g ah ms from cr)):ao≠g))
   replace HI0:=A_ (Jp.below (cr) hb)
   clear hb hbox hg
   refine hK.out _ _ trivial (fun hHeld=>?_)
   clear hK K
   refine nm_ ?_
   exact norm_ (g7_) (hJ0_2_6_11 (.slice (some adz_v625) a9.length as3,adz_v625,ao) _ ⟨(uf2_ dw),⟨_,rfl⟩,(uf0_ bk),(uf0_ bi),(uf0_ bp),ks.out,kt.out,jn.out,gq.out,g7.out,iw.out,g5.out,ix.out,(cr),(ec),(e6)⟩)
  intro hJ0_2_6
  refine join_ (σ:=Value × Addr × Nat) 7 (tl_ 13 2095) (fun s_=>[(12,s_.1),(14, .int .i64 dq),(6, .pointer (some ⟨s_.2.2,0,none⟩)),(15, .pointer (some (s_.2.1.add (dq).toNat)))]) (fun s_ w'=>(Kd.R (Kd.int .i64) 3 w' w.heap.size (fun _=>True) s_.1 a9)/\(∃c_,(s_.1:Value) = .slice (some s_.2.1) a9.length c_)/\(hc_ w' de #[.slice eu bg.length ev, .slice e7 b5.length e8, .slice g9 dt.length gz] 28)/\(hc_ w' da #[.int .i64 0, .int .i64 0, .int .i64 0, .int .i64 0] 69)/\(hc_ w' s_.2.2 #[.int .i64 0, .int .i64 0, .int .i64 0, .int .i64 0] 69)/\(w.heap.size<=s_.2.2)/\(w0.heap.size<=s_.2.2)/\(g≠s_.2.2)/\(s_.2.2≠g)/\(de≠s_.2.2)/\(s_.2.2≠de)/\(da≠s_.2.2)/\(s_.2.2≠da)/\(Jp w0 w' g ah lf)/\(Jb w w' g none)/\(Below w0.heap.size w0 w')) ?_ ?_
  ·skip
   rintro⟨kl,adz_v625,ao⟩ hf ⟨h0_,h1_,h2_,h3_,h4_,h5_,h6_,h7_,h8_,h9_,h10_,h11_,h12_,h13_,h14_,h15_⟩
   have dw:Gy (Kd.R (Kd.int .i64) 3 hf w.heap.size (fun _=>True) kl a9):=⟨h0_⟩
   have HA_HO626:Gy (∃c_,(kl:Value) = .slice (some adz_v625) a9.length c_):=⟨h1_⟩
   replace bk:Gy (hc_ hf de #[.slice eu bg.length ev, .slice e7 b5.length e8, .slice g9 dt.length gz] 28):=⟨h2_⟩
   replace bi:Gy (hc_ hf da #[.int .i64 0, .int .i64 0, .int .i64 0, .int .i64 0] 69):=⟨h3_⟩
   have bp:Gy (hc_ hf ao #[.int .i64 0, .int .i64 0, .int .i64 0, .int .i64 0] 69):=⟨h4_⟩
   have ks:Gy (w.heap.size<=ao):=⟨h5_⟩
   have kt:Gy (w0.heap.size<=ao):=⟨h6_⟩
   have jn:Gy (g≠ao):=⟨h7_⟩
   have gq:Gy (ao≠g):=⟨h8_⟩
   have g7:Gy (de≠ao):=⟨h9_⟩
   have iw:Gy (ao≠de):=⟨h10_⟩
   have g5:Gy (da≠ao):=⟨h11_⟩
   have ix:Gy (ao≠da):=⟨h12_⟩
   replace HI0:Gy (Jp w0 hf g ah lf):=⟨h13_⟩
   replace HK:Gy (Jb w hf g none):=⟨h14_⟩
   replace HB:Gy (Below w0.heap.size w0 hf):=⟨h15_⟩
   clear h0_ h1_ h2_ h3_ h4_ h5_ h6_ h7_ h8_ h9_ h10_ h11_ h12_ h13_ h14_ h15_
   have hHeld:=trivial
   obtain⟨as3,bg4⟩:=HA_HO626.out
   clear HA_HO626
   subst bg4
   refine norm_ (a':=?_) ?_ ?_
   rotate_left
   ·simp only[putAll,Act.put,List.setIfInBounds_toArray,List.set_cons_zero,List.set_cons_succ]
    rfl
   refine two_ (i:=4) (j:=6) (Ni:=some 16) (Nj:=some 18) (tl_ 13 2111) (tl_ 13 2159) rfl rfl rfl rfl (two_of HT_.out (g1_)) (by decide) (by decide) (fun K hK=>?_) (fun K hK=>?_)
   ·skip
    (have bg1:0<=(dq:Int):=od_;have bg2:dq < (a9.length:Int):=od_;obtain⟨cd1,cd2,bg3⟩:=Kd.at_int (Kd.R_reads' dw.out).2.2 dq bg1 bg2;obtain rfl:adz_v625=cd1:=(by injection cd2))
    refine value_ (w1:=?_) (v:=?_) (by rfl) rfl ?_ ?_
    rotate_left 2
    ·go_simp
     constructor
     ·rfl
     rfl
    clear bg3
    refine hK.out _ _ trivial (fun hHeld=>?_)
    clear hK K
    refine nm_ ?_
    exact norm_ (g7_) (hJ0_2_4_11 (.slice (some adz_v625) a9.length as3,adz_v625,ao) _ ⟨(uf2_ dw),⟨_,rfl⟩,(uf0_ bk),(uf0_ bi),(uf0_ bp),ks.out,kt.out,jn.out,gq.out,g7.out,iw.out,g5.out,ix.out,(cr),(ec),(e6)⟩)
   skip
   refine goes_ Try.func70 (g1_) rfl #[.pointer (some ⟨g,0,none⟩), .int .i64 60] (by rfl) rfl rfl (g3_) ?_
   refine(Fa.calls k g ah lf 60 ff ms w0 _ cr e6 A7.out).mono ?_
   rintro e ug ⟨rfl,hi,hb,hk⟩
   refine⟨_,rfl,?_⟩
   replace bk:=kb_ hk bk qy
   replace bi:=kb_ hk bi qk
   replace dw:=A_ (Kd.R_mono (Kd.R_keep (Jp.apart (show Jp w0 _ g ah lf from cr) (uf2_ dw) (by decide)) hk (fun _ h=>h.2)) (fun _ h=>h.1))
   replace bp:=kb_ hk bp gq
   replace HK:=A_ (Jb.trans (ec) hk (.inl rfl))
   replace HB:=A_ (hb)
   replace HI0:=A_ (hi)
   refine hK.out _ _ trivial (fun hHeld=>?_)
   clear hK K
   refine nm_ ?_
   refine pw_ 7 19 (tl_ 13 2287) ?_
   refine pw_ 8 20 (tl_ 13 2543) ?_
   exact norm_ (g7_) (hJ0_2_6_11 (.slice (some adz_v625) a9.length as3,adz_v625,ao) _ ⟨(uf2_ dw),⟨_,rfl⟩,(uf0_ bk),(uf0_ bi),(uf0_ bp),ks.out,kt.out,jn.out,gq.out,g7.out,iw.out,g5.out,ix.out,(cr),(ec),(e6)⟩)
  intro hJ0_2_11
  refine join_ (σ:=Nat) 6 (tl_ 13 2534) (fun s_=>[(14, .int .i64 dq),(18, .int .i64 ff),(6, .pointer (some ⟨s_,0,none⟩)),(19, .int .i64 (wrap64 (Int.tdiv ff 59))),(20, .int .i64 (wrap64 ((wrap64 (Int.tdiv ff 59)) * 5)))]) (fun s_ w'=>(hc_ w' de #[.slice eu bg.length ev, .slice e7 b5.length e8, .slice g9 dt.length gz] 28)/\(hc_ w' da #[.int .i64 0, .int .i64 0, .int .i64 0, .int .i64 0] 69)/\(hc_ w' s_ #[.int .i64 0, .int .i64 0, .int .i64 0, .int .i64 0] 69)/\(w.heap.size<=s_)/\(w0.heap.size<=s_)/\(g≠s_)/\(s_≠g)/\(de≠s_)/\(s_≠de)/\(da≠s_)/\(s_≠da)/\(Jp w0 w' g ah ms)/\(Jb w w' g none)/\(Below w0.heap.size w0 w')) ?_ ?_
  ·skip
   rintro ao pp ⟨h0_,h1_,h2_,h3_,h4_,h5_,h6_,h7_,h8_,h9_,h10_,h11_,h12_,h13_⟩
   replace bk:Gy (hc_ pp de #[.slice eu bg.length ev, .slice e7 b5.length e8, .slice g9 dt.length gz] 28):=⟨h0_⟩
   replace bi:Gy (hc_ pp da #[.int .i64 0, .int .i64 0, .int .i64 0, .int .i64 0] 69):=⟨h1_⟩
   have bp:Gy (hc_ pp ao #[.int .i64 0, .int .i64 0, .int .i64 0, .int .i64 0] 69):=⟨h2_⟩
   have ks:Gy (w.heap.size<=ao):=⟨h3_⟩
   have kt:Gy (w0.heap.size<=ao):=⟨h4_⟩
   have jn:Gy (g≠ao):=⟨h5_⟩
   have gq:Gy (ao≠g):=⟨h6_⟩
   have g7:Gy (de≠ao):=⟨h7_⟩
   have iw:Gy (ao≠de):=⟨h8_⟩
   have g5:Gy (da≠ao):=⟨h9_⟩
   have ix:Gy (ao≠da):=⟨h10_⟩
   replace HI0:Gy (Jp w0 pp g ah ms):=⟨h11_⟩
   replace HK:Gy (Jb w pp g none):=⟨h12_⟩
   replace HB:Gy (Below w0.heap.size w0 pp):=⟨h13_⟩
   clear h0_ h1_ h2_ h3_ h4_ h5_ h6_ h7_ h8_ h9_ h10_ h11_ h12_ h13_
   have hHeld:=trivial
   refine norm_ (a':=?_) ?_ ?_
   rotate_left
   ·simp only[putAll,Act.put,List.setIfInBounds_toArray,List.set_cons_zero,List.set_cons_succ]
    rfl
   refine one_ (i:=0) (N:=some 12) (tl_ 13 2535) rfl rfl (Jo HT_.out (g1_)) (by decide) (fun K hK=>?_)
   refine rls_ 12 [0,0,1,1,1,1,2,3,4] ?_
   intro kl iq dm7 hb hg_ hnew_
   clear hg_ hnew_
   (first|rw[<- ag1.out] at dm7|(simp only[Int.reduceToNat] at dm7;rw[<- ag1.out] at dm7))
   have dw:=A_ (Kd.R_lower dm7 (Ji (w:=w) (g:=g) (row:=none) (ec)))
   replace bk:=bb_ bk hb
   replace bi:=bb_ bi hb
   replace bp:=bb_ bp hb
   replace HK:=kt_ (ec) hb
   replace HB:=hs_ (e6) hb
   replace HI0:=A_ (Jp.below (cr) hb)
   clear hb dm7
   obtain⟨nj7,as3,bg4⟩:=Kd.R_slice dw.out
   subst bg4
   obtain⟨ado21,lc7,_⟩:=Kd.at_int (Kd.R_reads' dw.out).2.2 0 (by decide) (g74_)
   cases lc7
   refine hK.out _ _ trivial (fun hHeld=>?_)
   clear hK K
   refine nm_ ?_
   refine pw_ 3 15 (tl_ 13 2543) ?_
   exact norm_ (g7_) (hJ0_2_6_11 (.slice (some ado21) a9.length as3,ado21,ao) _ ⟨(uf2_ dw),⟨_,rfl⟩,(uf0_ bk),(uf0_ bi),(uf0_ bp),ks.out,kt.out,jn.out,gq.out,g7.out,iw.out,g5.out,ix.out,(cr),(ec),(e6)⟩)
  intro hJ2_6_11
  refine join_ (σ:=Value × Addr) 8 (tl_ 13 47) (fun s_=>[(12,s_.1),(14, .int .i64 dq),(15, .pointer (some (s_.2.add (dq).toNat)))]) (fun s_ w'=>(Kd.R (Kd.int .i64) 3 w' w.heap.size (fun _=>True) s_.1 a9)/\(∃c_,(s_.1:Value) = .slice (some s_.2) a9.length c_)/\(hc_ w' de #[.slice eu bg.length ev, .slice e7 b5.length e8, .slice g9 dt.length gz] 28)/\(hc_ w' da #[.int .i64 0, .int .i64 0, .int .i64 0, .int .i64 0] 69)/\(Jp w0 w' g ah lf)/\(Jb w w' g none)/\(Below w0.heap.size w0 w')) ?_ ?_
  ·skip
   rintro⟨kl,adz_v625⟩ iq ⟨h0_,h1_,h2_,h3_,h4_,h5_,h6_⟩
   have dw:Gy (Kd.R (Kd.int .i64) 3 iq w.heap.size (fun _=>True) kl a9):=⟨h0_⟩
   have HA_HO626:Gy (∃c_,(kl:Value) = .slice (some adz_v625) a9.length c_):=⟨h1_⟩
   replace bk:Gy (hc_ iq de #[.slice eu bg.length ev, .slice e7 b5.length e8, .slice g9 dt.length gz] 28):=⟨h2_⟩
   replace bi:Gy (hc_ iq da #[.int .i64 0, .int .i64 0, .int .i64 0, .int .i64 0] 69):=⟨h3_⟩
   replace HI0:Gy (Jp w0 iq g ah lf):=⟨h4_⟩
   replace HK:Gy (Jb w iq g none):=⟨h5_⟩
   replace HB:Gy (Below w0.heap.size w0 iq):=⟨h6_⟩
   clear h0_ h1_ h2_ h3_ h4_ h5_ h6_
   have hHeld:=trivial
   obtain⟨gv,ux⟩:=HA_HO626.out
   clear HA_HO626
   subst ux
   refine norm_ (a':=?_) ?_ ?_
   rotate_left
   ·simp only[putAll,Act.put,List.setIfInBounds_toArray,List.set_cons_zero,List.set_cons_succ]
    rfl
   refine three_ (i:=4) (j:=6) (k:=11) (Ni:=some 16) (Nj:=some 18) (Nk:=some 6) (tl_ 13 63) (tl_ 13 111) (tl_ 13 2095) rfl rfl rfl rfl rfl rfl (three_of HT_.out (g1_)) (by decide) (by decide) (by decide) (fun K hK=>?_) (fun K hK=>?_) (fun K hK=>?_)
   ·skip
    (have bg1:0<=(dq:Int):=od_;have bg2:dq < (a9.length:Int):=od_;obtain⟨cd1,cd2,bg3⟩:=Kd.at_int (Kd.R_reads' dw.out).2.2 dq bg1 bg2;obtain rfl:adz_v625=cd1:=(by injection cd2))
    refine value_ (w1:=?_) (v:=?_) (by rfl) rfl ?_ ?_
    rotate_left 2
    ·go_simp
     constructor
     ·rfl
     rfl
    clear bg3
    refine hK.out _ _ trivial (fun hHeld=>?_)
    clear hK K
    refine nm_ ?_
    exact norm_ (g7_) (hJ0_2_4 (.slice (some adz_v625) a9.length gv,adz_v625) _ ⟨(uf2_ dw),⟨_,rfl⟩,(uf0_ bk),(uf0_ bi),(cr),(ec),(e6)⟩)
   ·skip
    refine goes_ Try.func70 (g1_) rfl #[.pointer (some ⟨g,0,none⟩), .int .i64 60] (by rfl) rfl rfl (g3_) ?_
    refine(Fa.calls k g ah lf 60 ff ms w0 _ cr e6 A7.out).mono ?_
    rintro e j5 ⟨rfl,hi,hb,hk⟩
    refine⟨_,rfl,?_⟩
    replace bk:=kb_ hk bk qy
    replace bi:=kb_ hk bi qk
    replace dw:=A_ (Kd.R_mono (Kd.R_keep (Jp.apart (show Jp w0 _ g ah lf from cr) (uf2_ dw) (by decide)) hk (fun _ h=>h.2)) (fun _ h=>h.1))
    replace HK:=A_ (Jb.trans (ec) hk (.inl rfl))
    replace HB:=A_ (hb)
    replace HI0:=A_ (hi)
    refine hK.out _ _ trivial (fun hHeld=>?_)
    clear hK K
    refine nm_ ?_
    refine pw_ 7 19 (tl_ 13 239) ?_
    refine pw_ 8 20 (tl_ 13 495) ?_
    exact norm_ (g7_) (hJ0_2_6 (.slice (some adz_v625) a9.length gv,adz_v625) _ ⟨(uf2_ dw),⟨_,rfl⟩,(uf0_ bk),(uf0_ bi),(cr),(ec),(e6)⟩)
   skip
   refine bs_ (N:=6) #[.int .i64 0, .int .i64 0, .int .i64 0, .int .i64 0] 69 ?_
   intro ao hg j5 hbox hb
   replace dw:=rb_ dw hb
   replace HB:=hs_ (e6) hb
   have bp:=A_ (hbox)
   have ks:=A_ ((g15_:w.heap.size<=ao))
   have kt:=A_ (Nat.le_trans HW0.out ks.out)
   replace HK:=kt_ (ec) hb
   have g7:=A_ ((g30_:de≠ao))
   have iw:=A_ ((g31_:ao≠de))
   replace bk:=bb_ bk hb
   have g5:=A_ ((g44_:da≠ao))
   have ix:=A_ ((g45_:ao≠da))
   replace bi:=bb_ bi hb
   have jn:=A_ ((by rw[hg];exact Nat.ne_of_lt (Jp.lt (show Jp w0 _ g ah lf from cr)):g≠ao))
   have gq:=A_ ((by rw[hg];exact Nat.ne_of_gt (Jp.lt (show Jp w0 _ g ah lf from cr)):ao≠g))
   replace HI0:=A_ (Jp.below (cr) hb)
   clear hb hbox hg
   refine hK.out _ _ trivial (fun hHeld=>?_)
   clear hK K
   refine nm_ ?_
   exact norm_ (g7_) (hJ0_2_11 (.slice (some adz_v625) a9.length gv,adz_v625,ao) _ ⟨(uf2_ dw),⟨_,rfl⟩,(uf0_ bk),(uf0_ bi),(uf0_ bp),ks.out,kt.out,jn.out,gq.out,g7.out,iw.out,g5.out,ix.out,(cr),(ec),(e6)⟩)
  intro hJ0_2
  refine join_ (σ:=Value × Addr × Nat) 9 (tl_ 13 2083) (fun s_=>[(12,s_.1),(6, .pointer (some ⟨s_.2.2,0,none⟩))]) (fun s_ w'=>(Kd.R (Kd.int .i64) 3 w' w.heap.size (fun _=>True) s_.1 a9)/\(∃c_,(s_.1:Value) = .slice (some s_.2.1) a9.length c_)/\(hc_ w' de #[.slice eu bg.length ev, .slice e7 b5.length e8, .slice g9 dt.length gz] 28)/\(hc_ w' da #[.int .i64 0, .int .i64 0, .int .i64 0, .int .i64 0] 69)/\(hc_ w' s_.2.2 #[.int .i64 0, .int .i64 0, .int .i64 0, .int .i64 0] 69)/\(w.heap.size<=s_.2.2)/\(w0.heap.size<=s_.2.2)/\(g≠s_.2.2)/\(s_.2.2≠g)/\(de≠s_.2.2)/\(s_.2.2≠de)/\(da≠s_.2.2)/\(s_.2.2≠da)/\(Jp w0 w' g ah dp)/\(Jb w w' g none)/\(Below w0.heap.size w0 w')) ?_ ?_
  ·skip
   rintro⟨kl,adz_v625,ao⟩ iq ⟨h0_,h1_,h2_,h3_,h4_,h5_,h6_,h7_,h8_,h9_,h10_,h11_,h12_,h13_,h14_,h15_⟩
   have dw:Gy (Kd.R (Kd.int .i64) 3 iq w.heap.size (fun _=>True) kl a9):=⟨h0_⟩
   have HA_HO626:Gy (∃c_,(kl:Value) = .slice (some adz_v625) a9.length c_):=⟨h1_⟩
   replace bk:Gy (hc_ iq de #[.slice eu bg.length ev, .slice e7 b5.length e8, .slice g9 dt.length gz] 28):=⟨h2_⟩
   replace bi:Gy (hc_ iq da #[.int .i64 0, .int .i64 0, .int .i64 0, .int .i64 0] 69):=⟨h3_⟩
   have bp:Gy (hc_ iq ao #[.int .i64 0, .int .i64 0, .int .i64 0, .int .i64 0] 69):=⟨h4_⟩
   have ks:Gy (w.heap.size<=ao):=⟨h5_⟩
   have kt:Gy (w0.heap.size<=ao):=⟨h6_⟩
   have jn:Gy (g≠ao):=⟨h7_⟩
   have gq:Gy (ao≠g):=⟨h8_⟩
   have g7:Gy (de≠ao):=⟨h9_⟩
   have iw:Gy (ao≠de):=⟨h10_⟩
   have g5:Gy (da≠ao):=⟨h11_⟩
   have ix:Gy (ao≠da):=⟨h12_⟩
   replace HI0:Gy (Jp w0 iq g ah dp):=⟨h13_⟩
   replace HK:Gy (Jb w iq g none):=⟨h14_⟩
   replace HB:Gy (Below w0.heap.size w0 iq):=⟨h15_⟩
   clear h0_ h1_ h2_ h3_ h4_ h5_ h6_ h7_ h8_ h9_ h10_ h11_ h12_ h13_ h14_ h15_
   have hHeld:=trivial
   obtain⟨gv,ux⟩:=HA_HO626.out
   clear HA_HO626
   subst ux
   refine norm_ (a':=?_) ?_ ?_
   rotate_left
   ·simp only[putAll,Act.put,List.setIfInBounds_toArray,List.set_cons_zero,List.set_cons_succ]
    rfl
   refine one_ (i:=2) (N:=some 14) (tl_ 13 2087) rfl rfl (Jo HT_.out (g1_)) (by decide) (fun K hK=>?_)
   refine goes_ Try.func70 (g1_) rfl #[.pointer (some ⟨g,0,none⟩), .int .i64 9] (by rfl) rfl rfl (g3_) ?_
   refine(Fa.calls k g ah dp 9 dq lf w0 _ cr e6 A4.out).mono ?_
   rintro e j5 ⟨rfl,hi,hb,hk⟩
   refine⟨_,rfl,?_⟩
   replace bk:=kb_ hk bk qy
   replace bi:=kb_ hk bi qk
   replace dw:=A_ (Kd.R_mono (Kd.R_keep (Jp.apart (show Jp w0 _ g ah dp from cr) (uf2_ dw) (by decide)) hk (fun _ h=>h.2)) (fun _ h=>h.1))
   replace bp:=kb_ hk bp gq
   replace HK:=A_ (Jb.trans (ec) hk (.inl rfl))
   replace HB:=A_ (hb)
   replace HI0:=A_ (hi)
   refine hK.out _ _ trivial (fun hHeld=>?_)
   clear hK K
   refine nm_ ?_
   refine pw_ 3 15 (tl_ 13 2095) ?_
   exact norm_ (g7_) (hJ0_2_11 (.slice (some adz_v625) a9.length gv,adz_v625,ao) _ ⟨(uf2_ dw),⟨_,rfl⟩,(uf0_ bk),(uf0_ bi),(uf0_ bp),ks.out,kt.out,jn.out,gq.out,g7.out,iw.out,g5.out,ix.out,(cr),(ec),(e6)⟩)
  intro hJ0_11
  refine join_ (σ:=Unit) 7 (tl_ 13 486) (fun s_=>[(14, .int .i64 dq),(18, .int .i64 ff),(19, .int .i64 (wrap64 (Int.tdiv ff 59))),(20, .int .i64 (wrap64 ((wrap64 (Int.tdiv ff 59)) * 5)))]) (fun s_ w'=>(hc_ w' de #[.slice eu bg.length ev, .slice e7 b5.length e8, .slice g9 dt.length gz] 28)/\(hc_ w' da #[.int .i64 0, .int .i64 0, .int .i64 0, .int .i64 0] 69)/\(Jp w0 w' g ah ms)/\(Jb w w' g none)/\(Below w0.heap.size w0 w')) ?_ ?_
  ·skip
   rintro _ j4 ⟨h0_,h1_,h2_,h3_,h4_⟩
   replace bk:Gy (hc_ j4 de #[.slice eu bg.length ev, .slice e7 b5.length e8, .slice g9 dt.length gz] 28):=⟨h0_⟩
   replace bi:Gy (hc_ j4 da #[.int .i64 0, .int .i64 0, .int .i64 0, .int .i64 0] 69):=⟨h1_⟩
   replace HI0:Gy (Jp w0 j4 g ah ms):=⟨h2_⟩
   replace HK:Gy (Jb w j4 g none):=⟨h3_⟩
   replace HB:Gy (Below w0.heap.size w0 j4):=⟨h4_⟩
   clear h0_ h1_ h2_ h3_ h4_
   have hHeld:=trivial
   refine norm_ (a':=?_) ?_ ?_
   rotate_left
   ·simp only[putAll,Act.put,List.setIfInBounds_toArray,List.set_cons_zero,List.set_cons_succ]
    rfl
   refine two_ (i:=0) (j:=11) (Ni:=some 12) (Nj:=some 6) (tl_ 13 487) (tl_ 13 2534) rfl rfl rfl rfl (two_of HT_.out (g1_)) (by decide) (by decide) (fun K hK=>?_) (fun K hK=>?_)
   ·skip
    refine rls_ 12 [0,0,1,1,1,1,2,3,4] ?_
    intro kl pp as2 hb hg_ hnew_
    clear hg_ hnew_
    (first|rw[<- ag1.out] at as2|(simp only[Int.reduceToNat] at as2;rw[<- ag1.out] at as2))
    have dw:=A_ (Kd.R_lower as2 (Ji (w:=w) (g:=g) (row:=none) (ec)))
    replace bk:=bb_ bk hb
    replace bi:=bb_ bi hb
    replace HK:=kt_ (ec) hb
    replace HB:=hs_ (e6) hb
    replace HI0:=A_ (Jp.below (cr) hb)
    clear hb as2
    obtain⟨jc,gv,ux⟩:=Kd.R_slice dw.out
    subst ux
    obtain⟨ado20,fw6,_⟩:=Kd.at_int (Kd.R_reads' dw.out).2.2 0 (by decide) (g74_)
    cases fw6
    refine hK.out _ _ trivial (fun hHeld=>?_)
    clear hK K
    refine nm_ ?_
    refine pw_ 3 15 (tl_ 13 495) ?_
    exact norm_ (g7_) (hJ0_2_6 (.slice (some ado20) a9.length gv,ado20) _ ⟨(uf2_ dw),⟨_,rfl⟩,(uf0_ bk),(uf0_ bi),(cr),(ec),(e6)⟩)
   skip
   refine bs_ (N:=6) #[.int .i64 0, .int .i64 0, .int .i64 0, .int .i64 0] 69 ?_
   intro ao hg pp hbox hb
   replace HB:=hs_ (e6) hb
   have bp:=A_ (hbox)
   have ks:=A_ ((g15_:w.heap.size<=ao))
   have kt:=A_ (Nat.le_trans HW0.out ks.out)
   replace HK:=kt_ (ec) hb
   have g7:=A_ ((g30_:de≠ao))
   have iw:=A_ ((g31_:ao≠de))
   replace bk:=bb_ bk hb
   have g5:=A_ ((g44_:da≠ao))
   have ix:=A_ ((g45_:ao≠da))
   replace bi:=bb_ bi hb
   have jn:=A_ ((by rw[hg];exact Nat.ne_of_lt (Jp.lt (show Jp w0 _ g ah ms from cr)):g≠ao))
   have gq:=A_ ((by rw[hg];exact Nat.ne_of_gt (Jp.lt (show Jp w0 _ g ah ms from cr)):ao≠g))
   replace HI0:=A_ (Jp.below (cr) hb)
   clear hb hbox hg
   refine hK.out _ _ trivial (fun hHeld=>?_)
   clear hK K
   refine nm_ ?_
   exact norm_ (g7_) (hJ2_6_11 (ao) _ ⟨(uf0_ bk),(uf0_ bi),(uf0_ bp),ks.out,kt.out,jn.out,gq.out,g7.out,iw.out,g5.out,ix.out,(cr),(ec),(e6)⟩)
  intro hJ2_6
  refine join_ (σ:=Nat) 9 (tl_ 13 2086) (fun s_=>[(14, .int .i64 dq),(6, .pointer (some ⟨s_,0,none⟩))]) (fun s_ w'=>(hc_ w' de #[.slice eu bg.length ev, .slice e7 b5.length e8, .slice g9 dt.length gz] 28)/\(hc_ w' da #[.int .i64 0, .int .i64 0, .int .i64 0, .int .i64 0] 69)/\(hc_ w' s_ #[.int .i64 0, .int .i64 0, .int .i64 0, .int .i64 0] 69)/\(w.heap.size<=s_)/\(w0.heap.size<=s_)/\(g≠s_)/\(s_≠g)/\(de≠s_)/\(s_≠de)/\(da≠s_)/\(s_≠da)/\(Jp w0 w' g ah lf)/\(Jb w w' g none)/\(Below w0.heap.size w0 w')) ?_ ?_
  ·skip
   rintro ao j4 ⟨h0_,h1_,h2_,h3_,h4_,h5_,h6_,h7_,h8_,h9_,h10_,h11_,h12_,h13_⟩
   replace bk:Gy (hc_ j4 de #[.slice eu bg.length ev, .slice e7 b5.length e8, .slice g9 dt.length gz] 28):=⟨h0_⟩
   replace bi:Gy (hc_ j4 da #[.int .i64 0, .int .i64 0, .int .i64 0, .int .i64 0] 69):=⟨h1_⟩
   have bp:Gy (hc_ j4 ao #[.int .i64 0, .int .i64 0, .int .i64 0, .int .i64 0] 69):=⟨h2_⟩
   have ks:Gy (w.heap.size<=ao):=⟨h3_⟩
   have kt:Gy (w0.heap.size<=ao):=⟨h4_⟩
   have jn:Gy (g≠ao):=⟨h5_⟩
   have gq:Gy (ao≠g):=⟨h6_⟩
   have g7:Gy (de≠ao):=⟨h7_⟩
   have iw:Gy (ao≠de):=⟨h8_⟩
   have g5:Gy (da≠ao):=⟨h9_⟩
   have ix:Gy (ao≠da):=⟨h10_⟩
   replace HI0:Gy (Jp w0 j4 g ah lf):=⟨h11_⟩
   replace HK:Gy (Jb w j4 g none):=⟨h12_⟩
   replace HB:Gy (Below w0.heap.size w0 j4):=⟨h13_⟩
   clear h0_ h1_ h2_ h3_ h4_ h5_ h6_ h7_ h8_ h9_ h10_ h11_ h12_ h13_
   have hHeld:=trivial
   refine norm_ (a':=?_) ?_ ?_
   rotate_left
   ·simp only[putAll,Act.put,List.setIfInBounds_toArray,List.set_cons_zero,List.set_cons_succ]
    rfl
   refine two_ (i:=0) (j:=6) (Ni:=some 12) (Nj:=some 18) (tl_ 13 2087) (tl_ 13 2150) rfl rfl rfl rfl (two_of HT_.out (g1_)) (by decide) (by decide) (fun K hK=>?_) (fun K hK=>?_)
   ·skip
    refine rls_ 12 [0,0,1,1,1,1,2,3,4] ?_
    intro kl pp as2 hb hg_ hnew_
    clear hg_ hnew_
    (first|rw[<- ag1.out] at as2|(simp only[Int.reduceToNat] at as2;rw[<- ag1.out] at as2))
    have dw:=A_ (Kd.R_lower as2 (Ji (w:=w) (g:=g) (row:=none) (ec)))
    replace bk:=bb_ bk hb
    replace bi:=bb_ bi hb
    replace bp:=bb_ bp hb
    replace HK:=kt_ (ec) hb
    replace HB:=hs_ (e6) hb
    replace HI0:=A_ (Jp.below (cr) hb)
    clear hb as2
    obtain⟨jc,gv,ux⟩:=Kd.R_slice dw.out
    subst ux
    obtain⟨ado20,fw6,_⟩:=Kd.at_int (Kd.R_reads' dw.out).2.2 0 (by decide) (g74_)
    cases fw6
    refine hK.out _ _ trivial (fun hHeld=>?_)
    clear hK K
    refine nm_ ?_
    refine pw_ 3 15 (tl_ 13 2095) ?_
    exact norm_ (g7_) (hJ0_2_11 (.slice (some ado20) a9.length gv,ado20,ao) _ ⟨(uf2_ dw),⟨_,rfl⟩,(uf0_ bk),(uf0_ bi),(uf0_ bp),ks.out,kt.out,jn.out,gq.out,g7.out,iw.out,g5.out,ix.out,(cr),(ec),(e6)⟩)
   skip
   refine goes_ Try.func70 (g1_) rfl #[.pointer (some ⟨g,0,none⟩), .int .i64 60] (by rfl) rfl rfl (g3_) ?_
   refine(Fa.calls k g ah lf 60 ff ms w0 _ cr e6 A7.out).mono ?_
   rintro e pp ⟨rfl,hi,hb,hk⟩
   refine⟨_,rfl,?_⟩
   replace bk:=kb_ hk bk qy
   replace bi:=kb_ hk bi qk
   replace bp:=kb_ hk bp gq
   replace HK:=A_ (Jb.trans (ec) hk (.inl rfl))
   replace HB:=A_ (hb)
   replace HI0:=A_ (hi)
   refine hK.out _ _ trivial (fun hHeld=>?_)
   clear hK K
   refine nm_ ?_
   refine pw_ 7 19 (tl_ 13 2278) ?_
   refine pw_ 8 20 (tl_ 13 2534) ?_
   exact norm_ (g7_) (hJ2_6_11 (ao) _ ⟨(uf0_ bk),(uf0_ bi),(uf0_ bp),ks.out,kt.out,jn.out,gq.out,g7.out,iw.out,g5.out,ix.out,(cr),(ec),(e6)⟩)
  intro hJ2_11
  refine join_ (σ:=Value × Addr) 10 (tl_ 13 35) (fun s_=>[(12,s_.1)]) (fun s_ w'=>(Kd.R (Kd.int .i64) 3 w' w.heap.size (fun _=>True) s_.1 a9)/\(∃c_,(s_.1:Value) = .slice (some s_.2) a9.length c_)/\(hc_ w' de #[.slice eu bg.length ev, .slice e7 b5.length e8, .slice g9 dt.length gz] 28)/\(hc_ w' da #[.int .i64 0, .int .i64 0, .int .i64 0, .int .i64 0] 69)/\(Jp w0 w' g ah dp)/\(Jb w w' g none)/\(Below w0.heap.size w0 w')) ?_ ?_
  ·skip
   rintro⟨kl,adz_v625⟩ pp ⟨h0_,h1_,h2_,h3_,h4_,h5_,h6_⟩
   have dw:Gy (Kd.R (Kd.int .i64) 3 pp w.heap.size (fun _=>True) kl a9):=⟨h0_⟩
   have HA_HO626:Gy (∃c_,(kl:Value) = .slice (some adz_v625) a9.length c_):=⟨h1_⟩
   replace bk:Gy (hc_ pp de #[.slice eu bg.length ev, .slice e7 b5.length e8, .slice g9 dt.length gz] 28):=⟨h2_⟩
   replace bi:Gy (hc_ pp da #[.int .i64 0, .int .i64 0, .int .i64 0, .int .i64 0] 69):=⟨h3_⟩
   replace HI0:Gy (Jp w0 pp g ah dp):=⟨h4_⟩
   replace HK:Gy (Jb w pp g none):=⟨h5_⟩
   replace HB:Gy (Below w0.heap.size w0 pp):=⟨h6_⟩
   clear h0_ h1_ h2_ h3_ h4_ h5_ h6_
   have hHeld:=trivial
   obtain⟨gf,sn⟩:=HA_HO626.out
   clear HA_HO626
   subst sn
   refine norm_ (a':=?_) ?_ ?_
   rotate_left
   ·simp only[putAll,Act.put,List.setIfInBounds_toArray,List.set_cons_zero,List.set_cons_succ]
    rfl
   refine two_ (i:=2) (j:=11) (Ni:=some 14) (Nj:=some 6) (tl_ 13 39) (tl_ 13 2083) rfl rfl rfl rfl (two_of HT_.out (g1_)) (by decide) (by decide) (fun K hK=>?_) (fun K hK=>?_)
   ·skip
    refine goes_ Try.func70 (g1_) rfl #[.pointer (some ⟨g,0,none⟩), .int .i64 9] (by rfl) rfl rfl (g3_) ?_
    refine(Fa.calls k g ah dp 9 dq lf w0 _ cr e6 A4.out).mono ?_
    rintro e hf ⟨rfl,hi,hb,hk⟩
    refine⟨_,rfl,?_⟩
    replace bk:=kb_ hk bk qy
    replace bi:=kb_ hk bi qk
    replace dw:=A_ (Kd.R_mono (Kd.R_keep (Jp.apart (show Jp w0 _ g ah dp from cr) (uf2_ dw) (by decide)) hk (fun _ h=>h.2)) (fun _ h=>h.1))
    replace HK:=A_ (Jb.trans (ec) hk (.inl rfl))
    replace HB:=A_ (hb)
    replace HI0:=A_ (hi)
    refine hK.out _ _ trivial (fun hHeld=>?_)
    clear hK K
    refine nm_ ?_
    refine pw_ 3 15 (tl_ 13 47) ?_
    exact norm_ (g7_) (hJ0_2 (.slice (some adz_v625) a9.length gf,adz_v625) _ ⟨(uf2_ dw),⟨_,rfl⟩,(uf0_ bk),(uf0_ bi),(cr),(ec),(e6)⟩)
   skip
   refine bs_ (N:=6) #[.int .i64 0, .int .i64 0, .int .i64 0, .int .i64 0] 69 ?_
   intro ao hg hf hbox hb
   replace dw:=rb_ dw hb
   replace HB:=hs_ (e6) hb
   have bp:=A_ (hbox)
   have ks:=A_ ((g15_:w.heap.size<=ao))
   have kt:=A_ (Nat.le_trans HW0.out ks.out)
   replace HK:=kt_ (ec) hb
   have g7:=A_ ((g30_:de≠ao))
   have iw:=A_ ((g31_:ao≠de))
   replace bk:=bb_ bk hb
   have g5:=A_ ((g44_:da≠ao))
   have ix:=A_ ((g45_:ao≠da))
   replace bi:=bb_ bi hb
   have jn:=A_ ((by rw[hg];exact Nat.ne_of_lt (Jp.lt (show Jp w0 _ g ah dp from cr)):g≠ao))
   have gq:=A_ ((by rw[hg];exact Nat.ne_of_gt (Jp.lt (show Jp w0 _ g ah dp from cr)):ao≠g))
   replace HI0:=A_ (Jp.below (cr) hb)
   clear hb hbox hg
   refine hK.out _ _ trivial (fun hHeld=>?_)
   clear hK K
   refine nm_ ?_
   exact norm_ (g7_) (hJ0_11 (.slice (some adz_v625) a9.length gf,adz_v625,ao) _ ⟨(uf2_ dw),⟨_,rfl⟩,(uf0_ bk),(uf0_ bi),(uf0_ bp),ks.out,kt.out,jn.out,gq.out,g7.out,iw.out,g5.out,ix.out,(cr),(ec),(e6)⟩)
  intro hJ0
  refine join_ (σ:=Unit) 10 (tl_ 13 38) (fun s_=>[(14, .int .i64 dq)]) (fun s_ w'=>(hc_ w' de #[.slice eu bg.length ev, .slice e7 b5.length e8, .slice g9 dt.length gz] 28)/\(hc_ w' da #[.int .i64 0, .int .i64 0, .int .i64 0, .int .i64 0] 69)/\(Jp w0 w' g ah lf)/\(Jb w w' g none)/\(Below w0.heap.size w0 w')) ?_ ?_
  ·skip
   rintro _ jp ⟨h0_,h1_,h2_,h3_,h4_⟩
   replace bk:Gy (hc_ jp de #[.slice eu bg.length ev, .slice e7 b5.length e8, .slice g9 dt.length gz] 28):=⟨h0_⟩
   replace bi:Gy (hc_ jp da #[.int .i64 0, .int .i64 0, .int .i64 0, .int .i64 0] 69):=⟨h1_⟩
   replace HI0:Gy (Jp w0 jp g ah lf):=⟨h2_⟩
   replace HK:Gy (Jb w jp g none):=⟨h3_⟩
   replace HB:Gy (Below w0.heap.size w0 jp):=⟨h4_⟩
   clear h0_ h1_ h2_ h3_ h4_
   have hHeld:=trivial
   refine norm_ (a':=?_) ?_ ?_
   rotate_left
   ·simp only[putAll,Act.put,List.setIfInBounds_toArray,List.set_cons_zero,List.set_cons_succ]
    rfl
   refine three_ (i:=0) (j:=6) (k:=11) (Ni:=some 12) (Nj:=some 18) (Nk:=some 6) (tl_ 13 39) (tl_ 13 102) (tl_ 13 2086) rfl rfl rfl rfl rfl rfl (three_of HT_.out (g1_)) (by decide) (by decide) (by decide) (fun K hK=>?_) (fun K hK=>?_) (fun K hK=>?_)
   ·skip
    refine rls_ 12 [0,0,1,1,1,1,2,3,4] ?_
    intro kl j4 as1 hb hg_ hnew_
    clear hg_ hnew_
    (first|rw[<- ag1.out] at as1|(simp only[Int.reduceToNat] at as1;rw[<- ag1.out] at as1))
    have dw:=A_ (Kd.R_lower as1 (Ji (w:=w) (g:=g) (row:=none) (ec)))
    replace bk:=bb_ bk hb
    replace bi:=bb_ bi hb
    replace HK:=kt_ (ec) hb
    replace HB:=hs_ (e6) hb
    replace HI0:=A_ (Jp.below (cr) hb)
    clear hb as1
    obtain⟨g3,gf,sn⟩:=Kd.R_slice dw.out
    subst sn
    obtain⟨ado19,fw5,_⟩:=Kd.at_int (Kd.R_reads' dw.out).2.2 0 (by decide) (g74_)
    cases fw5
    refine hK.out _ _ trivial (fun hHeld=>?_)
    clear hK K
    refine nm_ ?_
    refine pw_ 3 15 (tl_ 13 47) ?_
    exact norm_ (g7_) (hJ0_2 (.slice (some ado19) a9.length gf,ado19) _ ⟨(uf2_ dw),⟨_,rfl⟩,(uf0_ bk),(uf0_ bi),(cr),(ec),(e6)⟩)
   ·skip
    refine goes_ Try.func70 (g1_) rfl #[.pointer (some ⟨g,0,none⟩), .int .i64 60] (by rfl) rfl rfl (g3_) ?_
    refine(Fa.calls k g ah lf 60 ff ms w0 _ cr e6 A7.out).mono ?_
    rintro e j4 ⟨rfl,hi,hb,hk⟩
    refine⟨_,rfl,?_⟩
    replace bk:=kb_ hk bk qy
    replace bi:=kb_ hk bi qk
    replace HK:=A_ (Jb.trans (ec) hk (.inl rfl))
    replace HB:=A_ (hb)
    replace HI0:=A_ (hi)
    refine hK.out _ _ trivial (fun hHeld=>?_)
    clear hK K
    refine nm_ ?_
    refine pw_ 7 19 (tl_ 13 230) ?_
    refine pw_ 8 20 (tl_ 13 486) ?_
    exact norm_ (g7_) (hJ2_6 () _ ⟨(uf0_ bk),(uf0_ bi),(cr),(ec),(e6)⟩)
   skip
   refine bs_ (N:=6) #[.int .i64 0, .int .i64 0, .int .i64 0, .int .i64 0] 69 ?_
   intro ao hg j4 hbox hb
   replace HB:=hs_ (e6) hb
   have bp:=A_ (hbox)
   have ks:=A_ ((g15_:w.heap.size<=ao))
   have kt:=A_ (Nat.le_trans HW0.out ks.out)
   replace HK:=kt_ (ec) hb
   have g7:=A_ ((g30_:de≠ao))
   have iw:=A_ ((g31_:ao≠de))
   replace bk:=bb_ bk hb
   have g5:=A_ ((g44_:da≠ao))
   have ix:=A_ ((g45_:ao≠da))
   replace bi:=bb_ bi hb
   have jn:=A_ ((by rw[hg];exact Nat.ne_of_lt (Jp.lt (show Jp w0 _ g ah lf from cr)):g≠ao))
   have gq:=A_ ((by rw[hg];exact Nat.ne_of_gt (Jp.lt (show Jp w0 _ g ah lf from cr)):ao≠g))
   replace HI0:=A_ (Jp.below (cr) hb)
   clear hb hbox hg
   refine hK.out _ _ trivial (fun hHeld=>?_)
   clear hK K
   refine nm_ ?_
   exact norm_ (g7_) (hJ2_11 (ao) _ ⟨(uf0_ bk),(uf0_ bi),(uf0_ bp),ks.out,kt.out,jn.out,gq.out,g7.out,iw.out,g5.out,ix.out,(cr),(ec),(e6)⟩)
  intro hJ2
  refine join_ (σ:=Nat) 10 (tl_ 13 2082) (fun s_=>[(6, .pointer (some ⟨s_,0,none⟩))]) (fun s_ w'=>(hc_ w' de #[.slice eu bg.length ev, .slice e7 b5.length e8, .slice g9 dt.length gz] 28)/\(hc_ w' da #[.int .i64 0, .int .i64 0, .int .i64 0, .int .i64 0] 69)/\(hc_ w' s_ #[.int .i64 0, .int .i64 0, .int .i64 0, .int .i64 0] 69)/\(w.heap.size<=s_)/\(w0.heap.size<=s_)/\(g≠s_)/\(s_≠g)/\(de≠s_)/\(s_≠de)/\(da≠s_)/\(s_≠da)/\(Jp w0 w' g ah dp)/\(Jb w w' g none)/\(Below w0.heap.size w0 w')) ?_ ?_
  ·skip
   rintro ao jp ⟨h0_,h1_,h2_,h3_,h4_,h5_,h6_,h7_,h8_,h9_,h10_,h11_,h12_,h13_⟩
   replace bk:Gy (hc_ jp de #[.slice eu bg.length ev, .slice e7 b5.length e8, .slice g9 dt.length gz] 28):=⟨h0_⟩
   replace bi:Gy (hc_ jp da #[.int .i64 0, .int .i64 0, .int .i64 0, .int .i64 0] 69):=⟨h1_⟩
   have bp:Gy (hc_ jp ao #[.int .i64 0, .int .i64 0, .int .i64 0, .int .i64 0] 69):=⟨h2_⟩
   have ks:Gy (w.heap.size<=ao):=⟨h3_⟩
   have kt:Gy (w0.heap.size<=ao):=⟨h4_⟩
   have jn:Gy (g≠ao):=⟨h5_⟩
   have gq:Gy (ao≠g):=⟨h6_⟩
   have g7:Gy (de≠ao):=⟨h7_⟩
   have iw:Gy (ao≠de):=⟨h8_⟩
   have g5:Gy (da≠ao):=⟨h9_⟩
   have ix:Gy (ao≠da):=⟨h10_⟩
   replace HI0:Gy (Jp w0 jp g ah dp):=⟨h11_⟩
   replace HK:Gy (Jb w jp g none):=⟨h12_⟩
   replace HB:Gy (Below w0.heap.size w0 jp):=⟨h13_⟩
   clear h0_ h1_ h2_ h3_ h4_ h5_ h6_ h7_ h8_ h9_ h10_ h11_ h12_ h13_
   have hHeld:=trivial
   refine norm_ (a':=?_) ?_ ?_
   rotate_left
   ·simp only[putAll,Act.put,List.setIfInBounds_toArray,List.set_cons_zero,List.set_cons_succ]
    rfl
   refine two_ (i:=0) (j:=2) (Ni:=some 12) (Nj:=some 14) (tl_ 13 2083) (tl_ 13 2086) rfl rfl rfl rfl (two_of HT_.out (g1_)) (by decide) (by decide) (fun K hK=>?_) (fun K hK=>?_)
   ·skip
    refine rls_ 12 [0,0,1,1,1,1,2,3,4] ?_
    intro kl j4 as1 hb hg_ hnew_
    clear hg_ hnew_
    (first|rw[<- ag1.out] at as1|(simp only[Int.reduceToNat] at as1;rw[<- ag1.out] at as1))
    have dw:=A_ (Kd.R_lower as1 (Ji (w:=w) (g:=g) (row:=none) (ec)))
    replace bk:=bb_ bk hb
    replace bi:=bb_ bi hb
    replace bp:=bb_ bp hb
    replace HK:=kt_ (ec) hb
    replace HB:=hs_ (e6) hb
    replace HI0:=A_ (Jp.below (cr) hb)
    clear hb as1
    obtain⟨g3,gf,sn⟩:=Kd.R_slice dw.out
    subst sn
    obtain⟨ado19,fw5,_⟩:=Kd.at_int (Kd.R_reads' dw.out).2.2 0 (by decide) (g74_)
    cases fw5
    refine hK.out _ _ trivial (fun hHeld=>?_)
    clear hK K
    refine nm_ ?_
    exact norm_ (g7_) (hJ0_11 (.slice (some ado19) a9.length gf,ado19,ao) _ ⟨(uf2_ dw),⟨_,rfl⟩,(uf0_ bk),(uf0_ bi),(uf0_ bp),ks.out,kt.out,jn.out,gq.out,g7.out,iw.out,g5.out,ix.out,(cr),(ec),(e6)⟩)
   skip
   refine goes_ Try.func70 (g1_) rfl #[.pointer (some ⟨g,0,none⟩), .int .i64 9] (by rfl) rfl rfl (g3_) ?_
   refine(Fa.calls k g ah dp 9 dq lf w0 _ cr e6 A4.out).mono ?_
   rintro e j4 ⟨rfl,hi,hb,hk⟩
   refine⟨_,rfl,?_⟩
   replace bk:=kb_ hk bk qy
   replace bi:=kb_ hk bi qk
   replace bp:=kb_ hk bp gq
   replace HK:=A_ (Jb.trans (ec) hk (.inl rfl))
   replace HB:=A_ (hb)
   replace HI0:=A_ (hi)
   refine hK.out _ _ trivial (fun hHeld=>?_)
   clear hK K
   refine nm_ ?_
   exact norm_ (g7_) (hJ2_11 (ao) _ ⟨(uf0_ bk),(uf0_ bi),(uf0_ bp),ks.out,kt.out,jn.out,gq.out,g7.out,iw.out,g5.out,ix.out,(cr),(ec),(e6)⟩)
  intro hJ11
  refine three_ (i:=0) (j:=2) (k:=11) (Ni:=some 12) (Nj:=some 14) (Nk:=some 6) (tl_ 13 35) (tl_ 13 38) (tl_ 13 2082) rfl rfl rfl rfl rfl rfl (three_of HT_.out (g1_)) (by decide) (by decide) (by decide) (fun K hK=>?_) (fun K hK=>?_) (fun K hK=>?_)
  ·skip
   refine rls_ 12 [0,0,1,1,1,1,2,3,4] ?_
   intro kl w15 dm6 hb hg_ hnew_
   clear hg_ hnew_
   (first|rw[<- ag1.out] at dm6|(simp only[Int.reduceToNat] at dm6;rw[<- ag1.out] at dm6))
   have dw:=A_ (Kd.R_lower dm6 (Ji (w:=w) (g:=g) (row:=none) (ec)))
   replace bk:=bb_ bk hb
   replace bi:=bb_ bi hb
   replace HK:=kt_ (ec) hb
   replace HB:=hs_ (e6) hb
   replace HI0:=A_ (Jp.below (cr) hb)
   clear hb dm6
   obtain⟨fd,ey,vn⟩:=Kd.R_slice dw.out
   subst vn
   obtain⟨ado17,lc6,_⟩:=Kd.at_int (Kd.R_reads' dw.out).2.2 0 (by decide) (g74_)
   cases lc6
   refine hK.out _ _ trivial (fun hHeld=>?_)
   clear hK K
   refine nm_ ?_
   exact norm_ (g7_) (hJ0 (.slice (some ado17) a9.length ey,ado17) _ ⟨(uf2_ dw),⟨_,rfl⟩,(uf0_ bk),(uf0_ bi),(cr),(ec),(e6)⟩)
  ·skip
   refine goes_ Try.func70 (g1_) rfl #[.pointer (some ⟨g,0,none⟩), .int .i64 9] (by rfl) rfl rfl (g3_) ?_
   refine(Fa.calls k g ah dp 9 dq lf w0 _ cr e6 A4.out).mono ?_
   rintro e w15 ⟨rfl,hi,hb,hk⟩
   refine⟨_,rfl,?_⟩
   replace bk:=kb_ hk bk qy
   replace bi:=kb_ hk bi qk
   replace HK:=A_ (Jb.trans (ec) hk (.inl rfl))
   replace HB:=A_ (hb)
   replace HI0:=A_ (hi)
   refine hK.out _ _ trivial (fun hHeld=>?_)
   clear hK K
   refine nm_ ?_
   exact norm_ (g7_) (hJ2 () _ ⟨(uf0_ bk),(uf0_ bi),(cr),(ec),(e6)⟩)
  skip
  refine bs_ (N:=6) #[.int .i64 0, .int .i64 0, .int .i64 0, .int .i64 0] 69 ?_
  intro ao hg w15 hbox hb
  replace HB:=hs_ (e6) hb
  have bp:=A_ (hbox)
  have ks:=A_ ((g15_:w.heap.size<=ao))
  have kt:=A_ (Nat.le_trans HW0.out ks.out)
  replace HK:=kt_ (ec) hb
  have g7:=A_ ((g30_:de≠ao))
  have iw:=A_ ((g31_:ao≠de))
  replace bk:=bb_ bk hb
  have g5:=A_ ((g44_:da≠ao))
  have ix:=A_ ((g45_:ao≠da))
  replace bi:=bb_ bi hb
  have jn:=A_ ((by rw[hg];exact Nat.ne_of_lt (Jp.lt (show Jp w0 _ g ah dp from cr)):g≠ao))
  have gq:=A_ ((by rw[hg];exact Nat.ne_of_gt (Jp.lt (show Jp w0 _ g ah dp from cr)):ao≠g))
  replace HI0:=A_ (Jp.below (cr) hb)
  clear hb hbox hg
  refine hK.out _ _ trivial (fun hHeld=>?_)
  clear hK K
  refine nm_ ?_
  exact norm_ (g7_) (hJ11 (ao) _ ⟨(uf0_ bk),(uf0_ bi),(uf0_ bp),ks.out,kt.out,jn.out,gq.out,g7.out,iw.out,g5.out,ix.out,(cr),(ec),(e6)⟩)
 rintro⟨kl,adz_v625,ao⟩ j5 ⟨h0_,h1_,h2_,h3_,h4_,h5_,h6_,h7_,h8_,h9_,h10_,h11_,h12_,h13_,h14_,h15_⟩
 have dw:Gy (Kd.R (Kd.int .i64) 3 j5 w.heap.size (fun _=>True) kl a9):=⟨h0_⟩
 have HA_HO626:Gy (∃c_,(kl:Value) = .slice (some adz_v625) a9.length c_):=⟨h1_⟩
 replace bk:Gy (hc_ j5 de #[.slice eu bg.length ev, .slice e7 b5.length e8, .slice g9 dt.length gz] 28):=⟨h2_⟩
 replace bi:Gy (hc_ j5 da #[.int .i64 0, .int .i64 0, .int .i64 0, .int .i64 0] 69):=⟨h3_⟩
 have bp:Gy (hc_ j5 ao #[.int .i64 0, .int .i64 0, .int .i64 0, .int .i64 0] 69):=⟨h4_⟩
 have ks:Gy (w.heap.size<=ao):=⟨h5_⟩
 have kt:Gy (w0.heap.size<=ao):=⟨h6_⟩
 have jn:Gy (g≠ao):=⟨h7_⟩
 have gq:Gy (ao≠g):=⟨h8_⟩
 have g7:Gy (de≠ao):=⟨h9_⟩
 have iw:Gy (ao≠de):=⟨h10_⟩
 have g5:Gy (da≠ao):=⟨h11_⟩
 have ix:Gy (ao≠da):=⟨h12_⟩
 replace HI0:Gy (Jp w0 j5 g ah ms):=⟨h13_⟩
 replace HK:Gy (Jb w j5 g none):=⟨h14_⟩
 replace HB:Gy (Below w0.heap.size w0 j5):=⟨h15_⟩
 clear h0_ h1_ h2_ h3_ h4_ h5_ h6_ h7_ h8_ h9_ h10_ h11_ h12_ h13_ h14_ h15_
 have hHeld:=trivial
 obtain⟨bc,aq5⟩:=HA_HO626.out
 clear HA_HO626
 subst aq5
 refine norm_ (a':=?_) ?_ ?_
 rotate_left
 ·simp only[putAll,Act.put,List.setIfInBounds_toArray,List.set_cons_zero,List.set_cons_succ]
  rfl
 refine one_ (i:=12) (N:=none) (tl_ 13 8191) rfl rfl (Jo HT_.out (g1_)) (by decide) (fun K hK=>?_)
 have lc8:j5.cell? ⟨ao,0,none⟩=some (.int .i64 0):=(Gz bp.out 0).trans rfl
 have lc9:=G8 bp.out 0
 have ld0:=g7.out
 have nj8:=g5.out
 have ld1:=iw.out
 have nj9:=ix.out
 have ld2:j5.cell? ⟨ao,1,none⟩=some (.int .i64 0):=(Gz bp.out 1).trans rfl
 have ld3:=G8 bp.out 1
 have ld6:j5.cell? ⟨ao,2,none⟩=some (.int .i64 0):=(Gz bp.out 2).trans rfl
 have ld7:=G8 bp.out 2
 have le0:j5.cell? ⟨ao,3,none⟩=some (.int .i64 0):=(Gz bp.out 3).trans rfl
 have le1:=G8 bp.out 3
 refine skip_ (w1:=?_) (by rfl) rfl ?_ ?_
 rotate_left
 ·go_simp
  rfl
 refine hK.out _ _ trivial (fun hHeld=>?_)
 clear hK K
 refine done_ (done_of HT_.out (g1_)) ?_
 have br5:=gq.out
 have br6:=jn.out
 obtain⟨br7,br8,dp9,id7,br9,bs0,dq0,id8⟩:=blk4_ bp
 go_upto_block 0 with(fail)
 go_cut [] (fun wc=>∃(kq:Nat) (ej1:Int) (yc:Int) (al2:Int) (bq1:Int),Gy (Fh.j0 kq ah ej1 (wrap64 ((rd a9 dq) + (wrap64 ((wrap64 (Int.tdiv ff 59)) * 5)))) yc al2 bq1=some (r1,r2,r3,r4,r5))/\Gy (kq<=k)/\Gy (hc_ wc de #[(.slice eu bg.length ev),(.slice e7 b5.length e8),(.slice g9 dt.length gz)] 28)/\Gy (hc_ wc da #[.int .i64 0, .int .i64 0, .int .i64 0, .int .i64 0] 69)/\Gy (hc_ wc ao #[.int .i64 (wrap64 ((rd a9 dq) + (wrap64 ((wrap64 (Int.tdiv ff 59)) * 5)))), .int .i64 yc, .int .i64 al2, .int .i64 bq1] 69)/\Gy (Jp w0 wc g ah ej1)/\Gy (Jb w wc g none)/\Gy (Below w0.heap.size w0 wc))
 case first=>
  have H:=HC8.out
  clear HC8
  by_cases m9:(wrap64 ((rd a9 dq) + (wrap64 ((wrap64 (Int.tdiv ff 59)) * 5))))=0
  ·rw[if_pos m9] at H
   have ad8:((wrap64 ((rd a9 dq) + (wrap64 ((wrap64 (Int.tdiv ff 59)) * 5)))) == 0)=true:=beq_iff_eq.mpr m9
   have fw7:((wrap64 ((rd a9 dq) + (wrap64 ((wrap64 (Int.tdiv ff 59)) * 5)))) != 0)=false:=bne_eq_false_iff_eq.mpr m9
   clear m9
   (first|rw[ad8]|(simp only[i64_w,i32_w];rw[ad8])|skip)
   replace H:=Option.bind_eq_some_iff.mp H
   obtain⟨⟨dm8,fw8⟩,id9,H⟩:=H
   try dsimp only at H
   have A32:=A_ id9
   clear id9
   replace H:=Option.bind_eq_some_iff.mp H
   obtain⟨⟨ie0,ie1⟩,ie2,H⟩:=H
   try dsimp only at H
   have A33:=A_ ie2
   clear ie2
   have H':=A_ H
   clear H
   go_wp2_with (first|((with_reducible refine gc_ 70 ?_);refine goesL_ (some 29) rfl rfl Try.func70 k_ rfl #[.pointer (some ⟨g,0,none⟩), .int .i64 ji3] rfl (g154_) ?_;(refine(Fa.calls k g ah ms ji3 dm8 fw8 w0 _ cr e6 A32.out).mono ?_);rintro e w34 ⟨rfl,hi,hb,hk⟩;refine⟨_,rfl,?_⟩;replace bk:=A_ (Jb.blk hk (g':=de) (o:=.cells #[.slice eu bg.length ev, .slice e7 b5.length e8, .slice g9 dt.length gz] 28 (0,0)) (g155_) qy.out (by simp));replace bi:=A_ (Jb.blk hk (g':=da) (o:=.cells #[.int .i64 0, .int .i64 0, .int .i64 0, .int .i64 0] 69 (0,0)) (g156_) qk.out (by simp));replace dw:=A_ (Kd.R_mono (Kd.R_keep (Jp.apart (show Jp w0 _ g ah ms from cr) (ra_ dw) (by decide)) hk (fun _ h=>h.2)) (fun _ h=>h.1));replace bp:=A_ (Jb.blk hk (g':=ao) (o:=.cells #[.int .i64 (wrap64 ((rd a9 dq) + (wrap64 ((wrap64 (Int.tdiv ff 59)) * 5)))), .int .i64 0, .int .i64 0, .int .i64 0] 69 (0,0)) (g157_) gq.out (by simp));replace HK:=A_ (Jb.trans (ec) hk (.inl rfl));replace HB:=A_ (hb);replace HI0:=A_ (hi);have kg6:=iw.out;have kg7:=g7.out;have ea3:=ix.out;have ea4:=g5.out;have fg0:=gq.out;have fg1:=jn.out;obtain⟨dc0,dc1,fw9,ie3,dc2,dc3,fx0,ie4⟩:=blk4_ bp)|((with_reducible refine gc_ 70 ?_);refine gl_ 32 Try.func70 #[.pointer (some ⟨g,0,none⟩), .int .i64 21] ?_;(refine(Fa.calls k g ah fw8 21 ie0 ie1 w0 _ cr e6 A33.out).mono ?_);rintro e w39 ⟨rfl,hi,hb,hk⟩;refine⟨_,rfl,?_⟩;replace bk:=A_ (Jb.blk hk (g':=de) (o:=.cells #[.slice eu bg.length ev, .slice e7 b5.length e8, .slice g9 dt.length gz] 28 (0,0)) (g75_) qy.out (by simp));replace bi:=A_ (Jb.blk hk (g':=da) (o:=.cells #[.int .i64 0, .int .i64 0, .int .i64 0, .int .i64 0] 69 (0,0)) (g76_) qk.out (by simp));replace dw:=A_ (Kd.R_mono (Kd.R_keep (Jp.apart (show Jp w0 _ g ah fw8 from cr) (ra_ dw) (by decide)) hk (fun _ h=>h.2)) (fun _ h=>h.1));replace bp:=A_ (Jb.blk hk (g':=ao) (o:=.cells #[.int .i64 (wrap64 ((rd a9 dq) + (wrap64 ((wrap64 (Int.tdiv ff 59)) * 5)))), .int .i64 dm8, .int .i64 0, .int .i64 0] 69 (0,0)) (ba_ bp) gq.out (by simp));replace HK:=A_ (Jb.trans (ec) hk (.inl rfl));replace HB:=A_ (hb);replace HI0:=A_ (hi);obtain⟨ej2,ej3,ej4,ie5,ej5,ej6,ej7,ie6⟩:=blk4_ bp))
   go_meet
   case rel=>exact⟨_,(ie1),(dm8),(0),(ie0),H',⟨g9_⟩,⟨g75_⟩,⟨g76_⟩,⟨ba_ bp⟩,⟨cr⟩,⟨ec⟩,⟨e6⟩⟩
  rw[if_neg m9] at H
  have ad8:((wrap64 ((rd a9 dq) + (wrap64 ((wrap64 (Int.tdiv ff 59)) * 5)))) == 0)=false:=beq_eq_false_iff_ne.mpr m9
  have fw7:((wrap64 ((rd a9 dq) + (wrap64 ((wrap64 (Int.tdiv ff 59)) * 5)))) != 0)=true:=bne_iff_ne.mpr m9
  (first|rw[ad8]|(simp only[i64_w,i32_w];rw[ad8])|skip)
  by_cases lw:(wrap64 ((rd a9 dq) + (wrap64 ((wrap64 (Int.tdiv ff 59)) * 5))))=1
  case neg=>
   rw[if_neg lw] at H
   have bl3:((wrap64 ((rd a9 dq) + (wrap64 ((wrap64 (Int.tdiv ff 59)) * 5)))) == 1)=false:=beq_eq_false_iff_ne.mpr lw
   have cj4:((wrap64 ((rd a9 dq) + (wrap64 ((wrap64 (Int.tdiv ff 59)) * 5)))) != 1)=true:=bne_iff_ne.mpr lw
   have H':=A_ H
   clear H
   go_wp2
   go_meet
   case rel=>exact⟨_,(ms),(0),(0),(0),H',⟨g9_⟩,⟨g155_⟩,⟨g156_⟩,⟨g157_⟩,⟨cr⟩,⟨ec⟩,⟨e6⟩⟩
  rw[if_pos lw] at H
  have bl3:((wrap64 ((rd a9 dq) + (wrap64 ((wrap64 (Int.tdiv ff 59)) * 5)))) == 1)=true:=beq_iff_eq.mpr lw
  have cj4:((wrap64 ((rd a9 dq) + (wrap64 ((wrap64 (Int.tdiv ff 59)) * 5)))) != 1)=false:=bne_eq_false_iff_eq.mpr lw
  clear lw
  replace H:=Option.bind_eq_some_iff.mp H
  obtain⟨⟨cd3,fx1⟩,ie7,H⟩:=H
  try dsimp only at H
  have A42:=A_ ie7
  clear ie7
  replace H:=Option.bind_eq_some_iff.mp H
  obtain⟨⟨dm9,fx2⟩,ie8,H⟩:=H
  try dsimp only at H
  have A43:=A_ ie8
  clear ie8
  replace H:=Option.bind_eq_some_iff.mp H
  obtain⟨⟨ie9,if0⟩,if1,H⟩:=H
  try dsimp only at H
  have A44:=A_ if1
  clear if1
  have H':=A_ H
  clear H
  go_wp2_with (first|((with_reducible refine gc_ 70 ?_);refine goesL_ (some 38) rfl rfl Try.func70 k_ rfl #[.pointer (some ⟨g,0,none⟩), .int .i64 ji3] rfl (g154_) ?_;(refine(Fa.calls k g ah ms ji3 cd3 fx1 w0 _ cr e6 A42.out).mono ?_);rintro e w45 ⟨rfl,hi,hb,hk⟩;refine⟨_,rfl,?_⟩;replace bk:=A_ (Jb.blk hk (g':=de) (o:=.cells #[.slice eu bg.length ev, .slice e7 b5.length e8, .slice g9 dt.length gz] 28 (0,0)) (g155_) qy.out (by simp));replace bi:=A_ (Jb.blk hk (g':=da) (o:=.cells #[.int .i64 0, .int .i64 0, .int .i64 0, .int .i64 0] 69 (0,0)) (g156_) qk.out (by simp));replace dw:=A_ (Kd.R_mono (Kd.R_keep (Jp.apart (show Jp w0 _ g ah ms from cr) (ra_ dw) (by decide)) hk (fun _ h=>h.2)) (fun _ h=>h.1));replace bp:=A_ (Jb.blk hk (g':=ao) (o:=.cells #[.int .i64 (wrap64 ((rd a9 dq) + (wrap64 ((wrap64 (Int.tdiv ff 59)) * 5)))), .int .i64 0, .int .i64 0, .int .i64 0] 69 (0,0)) (g157_) gq.out (by simp));replace HK:=A_ (Jb.trans (ec) hk (.inl rfl));replace HB:=A_ (hb);replace HI0:=A_ (hi);have dv3:=iw.out;have dv4:=g7.out;have dz2:=ix.out;have dz3:=g5.out;have ew9:=gq.out;have ex0:=jn.out;obtain⟨da9,db0,if2,if3,db1,db2,if4,if5⟩:=blk4_ bp)|((with_reducible refine gc_ 70 ?_);refine goesL_ (some 42) rfl rfl Try.func70 k_ rfl #[.pointer (some ⟨g,0,none⟩), .int .i64 ji3] rfl (g154_) ?_;(refine(Fa.calls k g ah fx1 ji3 dm9 fx2 w0 _ cr e6 A43.out).mono ?_);rintro e w50 ⟨rfl,hi,hb,hk⟩;refine⟨_,rfl,?_⟩;replace bk:=A_ (Jb.blk hk (g':=de) (o:=.cells #[.slice eu bg.length ev, .slice e7 b5.length e8, .slice g9 dt.length gz] 28 (0,0)) (g75_) qy.out (by simp));replace bi:=A_ (Jb.blk hk (g':=da) (o:=.cells #[.int .i64 0, .int .i64 0, .int .i64 0, .int .i64 0] 69 (0,0)) (g76_) qk.out (by simp));replace dw:=A_ (Kd.R_mono (Kd.R_keep (Jp.apart (show Jp w0 _ g ah fx1 from cr) (ra_ dw) (by decide)) hk (fun _ h=>h.2)) (fun _ h=>h.1));replace bp:=A_ (Jb.blk hk (g':=ao) (o:=.cells #[.int .i64 (wrap64 ((rd a9 dq) + (wrap64 ((wrap64 (Int.tdiv ff 59)) * 5)))), .int .i64 cd3, .int .i64 0, .int .i64 0] 69 (0,0)) (ba_ bp) gq.out (by simp));replace HK:=A_ (Jb.trans (ec) hk (.inl rfl));replace HB:=A_ (hb);replace HI0:=A_ (hi);obtain⟨au2,au3,bn2,cl5,au4,au5,bn3,cl6⟩:=blk4_ bp)|((with_reducible refine gc_ 70 ?_);refine gl_ 45 Try.func70 #[.pointer (some ⟨g,0,none⟩), .int .i64 10] ?_;(refine(Fa.calls k g ah fx2 10 ie9 if0 w0 _ cr e6 A44.out).mono ?_);rintro e w52 ⟨rfl,hi,hb,hk⟩;refine⟨_,rfl,?_⟩;replace bk:=A_ (Jb.blk hk (g':=de) (o:=.cells #[.slice eu bg.length ev, .slice e7 b5.length e8, .slice g9 dt.length gz] 28 (0,0)) (g75_) qy.out (by simp));replace bi:=A_ (Jb.blk hk (g':=da) (o:=.cells #[.int .i64 0, .int .i64 0, .int .i64 0, .int .i64 0] 69 (0,0)) (g76_) qk.out (by simp));replace dw:=A_ (Kd.R_mono (Kd.R_keep (Jp.apart (show Jp w0 _ g ah fx2 from cr) (ra_ dw) (by decide)) hk (fun _ h=>h.2)) (fun _ h=>h.1));replace bp:=A_ (Jb.blk hk (g':=ao) (o:=.cells #[.int .i64 (wrap64 ((rd a9 dq) + (wrap64 ((wrap64 (Int.tdiv ff 59)) * 5)))), .int .i64 cd3, .int .i64 dm9, .int .i64 0] 69 (0,0)) (ba_ bp) gq.out (by simp));replace HK:=A_ (Jb.trans (ec) hk (.inl rfl));replace HB:=A_ (hb);replace HI0:=A_ (hi);obtain⟨eg2,eg3,if6,if7,eg4,eg5,if8,if9⟩:=blk4_ bp))
  go_meet
  case rel=>exact⟨_,(if0),(cd3),(dm9),(ie9),H',⟨g9_⟩,⟨g75_⟩,⟨g76_⟩,⟨ba_ bp⟩,⟨cr⟩,⟨ec⟩,⟨e6⟩⟩
 clear HC8
 obtain⟨kq,ej1,yc,al2,bq1,HA,HJ7,bk,bi,bp,HI0,HK,HB⟩:=hcut
 cases kq with
 | zero=>exact absurd HA.out (by simp[Fh.j0])
 | succ kj7=>?_
 have H:=HA.out
 clear HA
 simp only[Fh.j0] at H
 replace H:=Option.bind_eq_some_iff.mp H
 obtain⟨⟨ig0,fx3⟩,ig1,H⟩:=H
 try dsimp only at H
 have A54:=A_ ig1
 clear ig1
 have fx4:=A_ H
 clear H
 go_upto_if 48 with(first|((with_reducible refine gc_ 106 ?_);refine gl_ 48 Try.func106 #[.pointer (some ⟨g,0,none⟩), .int .i64 40] ?_;(refine(F7.calls kj7 g ah ej1 40 ig0 fx3 w0 _ cr e6 A54.out).mono ?_);rintro e w56 ⟨rfl,hi,hb,hk⟩;refine⟨_,rfl,?_⟩;replace bk:=kb_ hk bk qy;replace bi:=kb_ hk bi qk;replace bp:=kb_ hk bp gq;replace HK:=A_ (Jb.trans (ec) hk (.inl rfl));replace HB:=A_ (hb);replace HI0:=A_ (hi)))
 (try simp only[Act.put,List.setIfInBounds_toArray,List.set_cons_zero,List.set_cons_succ])
 go_cut [] (fun wc=>∃(kq:Nat) (dn0:Int) (cp3:Int),Gy (Fh.j1 kq ah dn0 (wrap64 ((rd a9 dq) + (wrap64 ((wrap64 (Int.tdiv ff 59)) * 5)))) yc al2 cp3=some (r1,r2,r3,r4,r5))/\Gy (kq<=kj7)/\Gy (hc_ wc de #[(.slice eu bg.length ev),(.slice e7 b5.length e8),(.slice g9 dt.length gz)] 28)/\Gy (hc_ wc da #[.int .i64 0, .int .i64 0, .int .i64 0, .int .i64 0] 69)/\Gy (hc_ wc ao #[.int .i64 (wrap64 ((rd a9 dq) + (wrap64 ((wrap64 (Int.tdiv ff 59)) * 5)))), .int .i64 yc, .int .i64 al2, .int .i64 cp3] 69)/\Gy (Jp w0 wc g ah dn0)/\Gy (Jb w wc g none)/\Gy (Below w0.heap.size w0 wc))
 case first=>
  have H:=fx4.out
  clear fx4
  by_cases c57:ig0=true
  case neg=>
   replace c57:=Bool.eq_false_iff.mpr c57
   subst c57
   replace H:=ifn_ H
   have H':=A_ H
   clear H
   go_wp2
   go_meet
   case rel=>exact⟨_,(fx3),(bq1),H',⟨by have:=HJ7.out;first|omega|exact Nat.le_refl _⟩,⟨uf0_ bk⟩,⟨uf0_ bi⟩,⟨uf0_ bp⟩,⟨cr⟩,⟨ec⟩,⟨e6⟩⟩
  subst c57
  replace H:=ifp_ H
  replace H:=Option.bind_eq_some_iff.mp H
  obtain⟨⟨ig2,ig3⟩,ig4,H⟩:=H
  try dsimp only at H
  have A58:=A_ ig4
  clear ig4
  have H':=A_ H
  clear H
  try go_wp2
  replace bk:=bd_ bk
  replace bi:=bd_ bi
  replace bp:=bd_ bp
  replace HI0:=A_ (Jp.drew HI0.out)
  replace HK:=A_ (Jk HK.out)
  replace HB:=A_ (G2 HB.out)
  refine start_ (n:=8) (S:=fun w'=>w'.cell? ⟨ao,0,none⟩=some (.int .i64 (wrap64 ((rd a9 dq) + (wrap64 ((wrap64 (Int.tdiv ff 59)) * 5)))))/\w'.cell? ⟨ao,1,none⟩=some (.int .i64 yc)/\w'.cell? ⟨ao,2,none⟩=some (.int .i64 al2)/\w'.cell? ⟨ao,3,none⟩=some (.int .i64 bq1)) (ds:=[7]) (tl_ 8 0) (g1_) rfl (g1_) ⟨(Gz bp.out 0).trans rfl,(Gz bp.out 1).trans rfl,(Gz bp.out 2).trans rfl,(Gz bp.out 3).trans rfl⟩ (fun hHeld=>?_);refine Jm Fh.tab12 Fh.bits12 (fun HT_ HW_=>?_)
  generalize w56.drew=w59 at bk bi bp HI0 HK HB hHeld |-
  refine pw_ 0 49 (tl_ 8 1) ?_
  refine pw_ 2 51 (tl_ 8 5) ?_
  refine tk2_ 1 50 (tl_ 8 7) hHeld ?_
  refine one_ (i:=3) (N:=some 52) (tl_ 8 15) rfl rfl (Jo HT_.out (g1_)) (by decide) (fun K hK=>?_)
  refine goes_ Try.func70 (g1_) rfl #[.pointer (some ⟨g,0,none⟩), .int .i64 120] (by rfl) rfl rfl (g3_) ?_
  refine(Fa.calls kj7 g ah fx3 120 ig2 ig3 w0 _ cr e6 A58.out).mono ?_
  rintro e w60 ⟨rfl,hi,hb,hk⟩
  refine⟨_,rfl,?_⟩
  replace bk:=kb_ hk bk qy
  replace bi:=kb_ hk bi qk
  replace bp:=kb_ hk bp gq
  replace HK:=A_ (Jb.trans (ec) hk (.inl rfl))
  replace HB:=A_ (hb)
  replace HI0:=A_ (hi)
  refine hK.out _ _ ⟨(Gz bp.out 0).trans rfl,(Gz bp.out 1).trans rfl,(Gz bp.out 2).trans rfl,(Gz bp.out 3).trans rfl⟩ (fun hHeld=>?_)
  clear hK K
  refine nm_ ?_
  refine pw_ 4 53 (tl_ 8 31) ?_
  refine pw_ 5 54 (tl_ 8 63) ?_
  refine pw_ 6 55 (tl_ 8 127) ?_
  refine last_ (i:=7) (N:=none) (tl_ 8 255) rfl rfl (Jo HT_.out (g1_)) (by decide) (fun K hK=>?_)
  have nk6:w60.cell? ⟨ao,3,none⟩=some (.int .i64 bq1):=(Gz bp.out 3).trans rfl
  have nk7:=G8 bp.out 3
  refine skip_ (w1:=?_) (by rfl) rfl ?_ ?_
  rotate_left
  ·go_simp
   rfl
  refine hK.out _ _ ?_
  clear hK K
  refine done_ (done_of HT_.out (g1_)) ?_
  try go_wp2
  go_meet
  case rel=>exact⟨_,(ig3),(wrap64 ((wrap64 (bq1 + ig2)) - 10)),H',⟨by have:=HJ7.out;first|omega|exact Nat.le_refl _⟩,⟨g75_⟩,⟨g76_⟩,⟨ba_ bp⟩,⟨cr⟩,⟨ec⟩,⟨e6⟩⟩
 clear fx4
 obtain⟨kq,dn0,cp3,HA,HJ54,bk,bi,bp,HI0,HK,HB⟩:=hcut
 cases kq with
 | zero=>exact absurd HA.out (by simp[Fh.j1])
 | succ kj54=>?_
 have H:=HA.out
 clear HA
 simp only[Fh.j1] at H
 replace H:=Option.bind_eq_some_iff.mp H
 obtain⟨⟨le4,fx5⟩,ig5,H⟩:=H
 try dsimp only at H
 have A62:=A_ ig5
 clear ig5
 by_cases c63:le4=true
 case neg=>
  replace c63:=Bool.eq_false_iff.mpr c63
  subst c63
  replace H:=ifn_ H
  simp only[Option.some.injEq,Prod.mk.injEq] at H
  obtain⟨rfl,rfl,rfl,rfl,rfl⟩:=H
  go_wp2_with (first|((with_reducible refine gc_ 106 ?_);refine gl_ 57 Try.func106 #[.pointer (some ⟨g,0,none⟩), .int .i64 40] ?_;(refine(F7.calls kj54 g ah dn0 40 false fx5 w0 _ cr e6 A62.out).mono ?_);rintro e w76 ⟨rfl,hi,hb,hk⟩;refine⟨_,rfl,?_⟩;replace bk:=kb_ hk bk qy;replace bi:=kb_ hk bi qk;replace bp:=kb_ hk bp gq;replace HK:=A_ (Jb.trans (ec) hk (.inl rfl));replace HB:=A_ (hb);replace HI0:=A_ (hi);have nm0:=iw.out;have nm1:=g7.out;have ji8:=ix.out;have jj0:=g5.out;have gw7:=gq.out;have gw8:=jn.out;obtain⟨nm2,nm3,nm4,nm5,nm6,nm7,nm8,nm9⟩:=blk4_ bp;have hd5:=fw4.out;have hd6:=fw3.out;have fh0:=qk.out;have fh1:=fw2.out;obtain⟨jt4,jt5,nn0,nn1,jt6,jt7,nn2,nn3⟩:=blk4_ bi))
  refine bodyPost_ret (results_cell_row rfl _ _ da 69 #[.int .i64 (wrap64 ((rd a9 dq) + (wrap64 ((wrap64 (Int.tdiv ff 59)) * 5)))), .int .i64 yc, .int .i64 al2, .int .i64 cp3] (0,0) _ rfl (ba_ bi) Try.underlying69 rfl (g1_)) rfl ?_
  exact⟨g127_,cr,e6,ec⟩
 subst c63
 replace H:=ifp_ H
 replace H:=Option.bind_eq_some_iff.mp H
 obtain⟨⟨ej8,le5⟩,ig6,H⟩:=H
 try dsimp only at H
 have A64:=A_ ig6
 clear ig6
 simp only[Option.some.injEq,Prod.mk.injEq] at H
 obtain⟨rfl,rfl,rfl,rfl,rfl⟩:=H
 try go_wp2_with (first|((with_reducible refine gc_ 106 ?_);refine gl_ 57 Try.func106 #[.pointer (some ⟨g,0,none⟩), .int .i64 40] ?_;(refine(F7.calls kj54 g ah dn0 40 true fx5 w0 _ cr e6 A62.out).mono ?_);rintro e w65 ⟨rfl,hi,hb,hk⟩;refine⟨_,rfl,?_⟩;replace bk:=kb_ hk bk qy;replace bi:=kb_ hk bi qk;replace bp:=kb_ hk bp gq;replace HK:=A_ (Jb.trans (ec) hk (.inl rfl));replace HB:=A_ (hb);replace HI0:=A_ (hi)))
 replace bk:=bd_ bk
 replace bi:=bd_ bi
 replace bp:=bd_ bp
 replace HI0:=A_ (Jp.drew HI0.out)
 replace HK:=A_ (Jk HK.out)
 replace HB:=A_ (G2 HB.out)
 refine start_ (n:=8) (S:=fun w'=>w'.cell? ⟨ao,0,none⟩=some (.int .i64 (wrap64 ((rd a9 dq) + (wrap64 ((wrap64 (Int.tdiv ff 59)) * 5)))))/\w'.cell? ⟨ao,1,none⟩=some (.int .i64 yc)/\w'.cell? ⟨ao,2,none⟩=some (.int .i64 al2)/\w'.cell? ⟨ao,3,none⟩=some (.int .i64 cp3)) (ds:=[7]) (tl_ 8 0) (g1_) rfl (g1_) ⟨(Gz bp.out 0).trans rfl,(Gz bp.out 1).trans rfl,(Gz bp.out 2).trans rfl,(Gz bp.out 3).trans rfl⟩ (fun hHeld=>?_);refine Jm Fh.tab14 Fh.bits14 (fun HT_ HW_=>?_)
 generalize w65.drew=w66 at bk bi bp HI0 HK HB hHeld |-
 refine pw_ 0 58 (tl_ 8 1) ?_
 refine pw_ 2 60 (tl_ 8 5) ?_
 refine tk2_ 1 59 (tl_ 8 7) hHeld ?_
 refine one_ (i:=3) (N:=some 61) (tl_ 8 15) rfl rfl (Jo HT_.out (g1_)) (by decide) (fun K hK=>?_)
 refine goes_ Try.func70 (g1_) rfl #[.pointer (some ⟨g,0,none⟩), .int .i64 7] (by rfl) rfl rfl (g3_) ?_
 refine(Fa.calls kj54 g ah fx5 7 ej8 le5 w0 _ cr e6 A64.out).mono ?_
 rintro e w67 ⟨rfl,hi,hb,hk⟩
 refine⟨_,rfl,?_⟩
 replace bk:=kb_ hk bk qy
 replace bi:=kb_ hk bi qk
 replace bp:=kb_ hk bp gq
 replace HK:=A_ (Jb.trans (ec) hk (.inl rfl))
 replace HB:=A_ (hb)
 replace HI0:=A_ (hi)
 refine hK.out _ _ ⟨(Gz bp.out 0).trans rfl,(Gz bp.out 1).trans rfl,(Gz bp.out 2).trans rfl,(Gz bp.out 3).trans rfl⟩ (fun hHeld=>?_)
 clear hK K
 refine nm_ ?_
 refine pw_ 4 62 (tl_ 8 31) ?_
 refine pw_ 5 63 (tl_ 8 63) ?_
 refine pw_ 6 64 (tl_ 8 127) ?_
 refine last_ (i:=7) (N:=none) (tl_ 8 255) rfl rfl (Jo HT_.out (g1_)) (by decide) (fun K hK=>?_)
 have nl2:w67.cell? ⟨ao,1,none⟩=some (.int .i64 yc):=(Gz bp.out 1).trans rfl
 have nl3:=G8 bp.out 1
 refine skip_ (w1:=?_) (by rfl) rfl ?_ ?_
 rotate_left
 ·go_simp
  rfl
 refine hK.out _ _ ?_
 clear hK K
 refine done_ (done_of HT_.out (g1_)) ?_
 obtain⟨fj8,fj9,js9,nl8,fk0,fk1,jt0,nl9⟩:=blk4_ bp
 have jt1:=fw4.out
 have jt2:=fw3.out
 have eb2:=qk.out
 have eb3:=fw2.out
 obtain⟨fk2,fk3,fk4,fk5,fk6,fk7,fk8,fk9⟩:=blk4_ bi
 try go_wp2
 refine bodyPost_ret (results_cell_row rfl _ _ da 69 #[.int .i64 (wrap64 ((rd a9 dq) + (wrap64 ((wrap64 (Int.tdiv ff 59)) * 5)))), .int .i64 (wrap64 ((wrap64 (yc + ej8)) - 2)), .int .i64 al2, .int .i64 cp3] (0,0) _ rfl (ba_ bi) Try.underlying69 rfl (g1_)) rfl ?_
 exact⟨g127_,cr,e6,ec⟩
mutual
def Fm.l0:Nat->Int->Int->Int->Int->List Int->Int->List Int->List (List Int)->Option (List Int × (List (List Int)) × Int)
 | 0,_,_,_,_,_,_,_,_=>none
 | k + 1,x1,x5,x7,x8,io,ld,bp5,bp6=>if x8 < x5 then((Fa.f k io ld 4).bind fun bt590=>((Fa.f k io bt590.2 21).bind fun bt592=>((some (([0,bt590.1,bt592.1]:List Int):List Int)).bind fun al1=>(if 0<=x7 then(if x7 < (al1.length:Int) then(if bp5.length < 17592186044416 then(Fm.l1 k x1 x5 x7 x8 (([]:List Int)) 0 io bt592.2 (bp5 ++ [rd al1 x7]) bp6) else(none)) else(none)) else(none))))) else((F7.f k io ld x1).bind fun bt620=>(if bt620.1=true then(none) else(some (bp5,bp6,bt620.2))))
def Fm.l1:Nat->Int->Int->Int->Int->List Int->Int->List Int->Int->List Int->List (List Int)->Option (List Int × (List (List Int)) × Int)
 | 0,_,_,_,_,_,_,_,_,_,_=>none
 | k + 1,x1,x5,x7,x8,x9,wv,io,ld,bp5,bp6=>if wv < x5 then(if x8=wv then(if x9.length < 17592186044416 then(Fm.l1 k x1 x5 x7 x8 (x9 ++ [0]) (wrap64 (wv + 1)) io ld bp5 bp6) else(none)) else((Fa.f k io ld 3).bind fun bt610=>(if bt610.1 > 0 then((Fa.f k io bt610.2 10).bind fun bt612=>(if x9.length < 17592186044416 then(Fm.l1 k x1 x5 x7 x8 (x9 ++ [bt612.1]) (wrap64 (wv + 1)) io bt612.2 bp5 bp6) else(none))) else(if x9.length < 17592186044416 then(Fm.l1 k x1 x5 x7 x8 (x9 ++ [0]) (wrap64 (wv + 1)) io bt610.2 bp5 bp6) else(none))))) else(if bp6.length < 5864062014805 then(Fm.l0 k x1 x5 x7 (wrap64 (x8 + 1)) io ld bp5 (bp6 ++ [x9])) else(none))
end
def Fm.f (k:Nat) (ah:List Int) (dp:Int) (a1:Int):Option (List Int × (List (List Int)) × Int):=(some (([1,2,3,3,4,4]:List Int):List Int)).bind fun sc=>((Fa.f k ah dp 6).bind fun bt584=>(if 0<=bt584.1 then(if bt584.1 < (sc.length:Int) then((Fa.f k ah bt584.2 3).bind fun bt588=>(Fm.l0 k a1 (rd sc bt584.1) bt588.1 0 ah bt588.2 ([]:List Int) ([]:List (List Int)))) else(none)) else(none)))
def Fm.T7:Bool × List (List Nat × List Nat):=(true,[([],[]),([0],[0]),([],[]),([2],[2]),([],[]),([4,3],[4]),([3,5],[3,5]),([],[]),([6,7],[6,7]),([8],[8]),([9],[9]),([1,10,5],[1,10]),([0,1,2,3,4,5,6,7,8,9,10,11],[]),([12,11,11,0,1,2,3,4,5,6,7,8,9,10,11],[11,12])])
def Fm.B7:List Nat:=[0,1,0,4,0,28,60,0,252,508,1020,2047,4095,8191]
theorem Fm.tab7:rtab .any (opsOf Try.f91 7)=Fm.T7:=by kernel_rfl
theorem Fm.bits7:waitsOk Fm.T7.2 Fm.B7=true:=by kernel_rfl
theorem ig {p:Prop} (h:p:=by repeat(first|(with_reducible first|exact HI0.out|apply Jp.alloc|apply Jp.drewN|apply Jp.drew|apply Jp.set_1|refine Jp.far ?_ ib9.out _|refine Jp.far ?_ ei7.out _)|exact HI0.out)):p:=h
theorem kv {p:Prop} (h:p:=by repeat(first|(with_reducible first|exact HK.out|apply Jb.set_|apply Jj|apply Jk|apply keep_alloc|refine Jl ?_ kz1.out _|refine Jl ?_ kz2.out _)|exact HK.out)):p:=h
theorem ot {p:Prop} (h:p:=by repeat(first|(with_reducible first|exact HB.out|apply G4|apply G3|apply G2|refine G1 ?_ (Jp.ge HI0.out)|refine G1 ?_ kz3.out|refine G1 ?_ kz4.out)|exact HB.out)):p:=h
set_option maxHeartbeats 8000000 in
set_option maxRecDepth 100000 in
theorem Fm.calls (k:Nat) (g:Nat) (ah:List Int) (dp:Int) (a1:Int) (r1:List Int) (r2:List (List Int)) (r3:Int) (w0 w:World) (hI:Jp w0 w g ah dp) (hB:Below w0.heap.size w0 w) (h:Fm.f k ah dp a1=some (r1,r2,r3)) :
  Calls Try.prog 91 #[.pointer (some ⟨g,0,none⟩), .int .i64 a1] w fun e w'=>∃v0_ v1_:Value,e = .returned (.agg #[v0_,v1_])/\Kd.R (Kd.int .i64) 3 w' w.heap.size (fun _=>True) v0_ r1/\Kd.S (Kd.slice 3 (Kd.int .i64)) 22 w' w.heap.size (fun k_=>some k_≠(v0_:Value).ownBlock) v1_ r2/\Jp w0 w' g ah r3/\Below w0.heap.size w0 w'/\Jb w w' g none:=by
 have hu25:=Try.underlying25
 have HI0:=A_ hI
 have HK:=A_ (Jb.refl w g none)
 have HL:=A_ hB.size
 clear hI
 have HW0:=A_ hB.size
 have HB:=A_ hB
 clear hB
 have H:=h
 unfold Fm.f at H
 clear h
 obtain⟨sc,hyq⟩:∃y_:List Int,y_=(([1,2,3,3,4,4]:List Int)):=⟨_,rfl⟩
 replace H:((Fa.f k ah dp 6).bind fun bt584=>(if 0<=bt584.1 then(if bt584.1 < (sc.length:Int) then((Fa.f k ah bt584.2 3).bind fun bt588=>(Fm.l0 k a1 (rd sc bt584.1) bt588.1 0 ah bt588.2 ([]:List Int) ([]:List (List Int)))) else(none)) else(none)))=some (r1,r2,r3):=qh_
 have ic0:=A_ hyq
 clear hyq
 replace H:=Option.bind_eq_some_iff.mp H
 obtain⟨⟨ya,dl7⟩,pb,H⟩:=H
 try dsimp only at H
 have A3:=A_ pb
 clear pb
 obtain⟨mv,H⟩:=pd_ H
 obtain⟨ij,H⟩:=pd_ H
 replace H:=Option.bind_eq_some_iff.mp H
 obtain⟨⟨qx,ic1⟩,A60,H⟩:=H
 try dsimp only at H
 have A6:=A_ A60
 clear A60
 have H':=A_ H
 clear H
 go_enter Try.func91,Try.ntmps91
 go_wp2_with (first|((with_reducible refine gd_ 4 ?_);refine bx_ (N:=4) #[.slice none 0 0, .slice none 0 0] 25 ?_;intro pk hg w7 hbox hb;replace HB:=hs_ (ot) hb;have f8:=A_ (hbox);have kz1:=A_ ((g112_:w.heap.size<=pk));have kz3:=A_ (Nat.le_trans HW0.out kz1.out);replace HK:=A_ (Jb.trans (kv) (Jb.of_below hb g none) (.inl rfl));have ib9:=A_ ((by rw[hg];exact Nat.ne_of_lt (Jp.lt (show Jp w0 _ g ah dp from ig)):g≠pk));have bf8:=A_ ((by rw[hg];exact Nat.ne_of_gt (Jp.lt (show Jp w0 _ g ah dp from ig)):pk≠g));replace HI0:=A_ (Jp.below (ig) hb);clear hb hbox hg)|((with_reducible refine gd_ 12 ?_);refine rle_ 12 [1,2,3,3,4,4] ?_;intro ni6 w8 uj hb hg_ hnew_;clear hg_ hnew_;(first|rw[<- ic0.out] at uj|(simp only[Int.reduceToNat] at uj;rw[<- ic0.out] at uj));have bp7:=A_ (Kd.R_lower uj (Ji (w:=w) (g:=g) (row:=none) (kv)));replace f8:=bb_ f8 hb;replace HK:=A_ (Jb.trans (kv) (Jb.of_below hb g none) (.inl rfl));replace HB:=hs_ (ot) hb;replace HI0:=A_ (Jp.below (ig) hb);clear hb uj)|((with_reducible refine gc_ 70 ?_);refine gl_ 14 Try.func70 #[.pointer (some ⟨g,0,none⟩), .int .i64 6] ?_;(refine(Fa.calls k g ah dp 6 ya dl7 w0 _ ig ot A3.out).mono ?_);rintro e w10 ⟨rfl,hi,hb,hk⟩;refine⟨_,rfl,?_⟩;replace f8:=kb_ hk f8 bf8;replace bp7:=A_ (Kd.R_mono (Kd.R_keep (Jp.apart (show Jp w0 _ g ah dp from ig) (uf2_ bp7) (by decide)) hk (fun _ h=>h.2)) (fun _ h=>h.1));replace HK:=A_ (Jb.trans (kv) hk (.inl rfl));replace HB:=A_ (hb);replace HI0:=A_ (hi);obtain⟨ni7,ni8,kz5⟩:=Kd.R_slice bp7.out;subst kz5;have dl8:0<=(ya:Int):=od_;have dl9:ya < (sc.length:Int):=od_;obtain⟨ni9,kz6,ic2⟩:=Kd.at_int (Kd.R_reads' bp7.out).2.2 ya dl8 dl9;cases kz6;replace dl8:=eq_true dl8;replace dl9:=eq_true dl9)|((with_reducible refine gd_ 6 ?_);refine bx_ (N:=6) #[.slice none 0 0, .slice none 0 0] 25 ?_;intro mr hg ws hbox hb;replace bp7:=rb_ bp7 hb;replace HB:=hs_ (ot) hb;have ex:=A_ (hbox);have kz2:=A_ ((g112_:w.heap.size<=mr));have kz4:=A_ (Nat.le_trans HW0.out kz2.out);replace HK:=A_ (Jb.trans (kv) (Jb.of_below hb g none) (.inl rfl));have bp8:=nl_ f8 hg;have ei8:=nr_ f8 hg;replace f8:=bb_ f8 hb;have ei7:=A_ ((by rw[hg];exact Nat.ne_of_lt (Jp.lt (show Jp w0 _ g ah dl7 from ig)):g≠mr));have ax2:=A_ ((by rw[hg];exact Nat.ne_of_gt (Jp.lt (show Jp w0 _ g ah dl7 from ig)):mr≠g));replace HI0:=A_ (Jp.below (ig) hb);clear hb hbox hg;have cg3:=ei8.out;have cg4:=bp8.out;have cr3:=ax2.out;have cr4:=ei7.out;obtain⟨am8,am9,an0,an1⟩:=blk2_ ex)|((with_reducible refine gc_ 70 ?_);refine gl_ 19 Try.func70 #[.pointer (some ⟨g,0,none⟩), .int .i64 3] ?_;(refine(Fa.calls k g ah dl7 3 qx ic1 w0 _ ig ot A6.out).mono ?_);rintro e jp ⟨rfl,hi,hb,hk⟩;refine⟨_,rfl,?_⟩;replace f8:=A_ (Jb.blk hk (g':=pk) (o:=.cells #[.slice none 0 0, .slice none 0 0] 25 (0,0)) (ba_ f8) bf8.out (by simp));replace bp7:=A_ (Kd.R_mono (Kd.R_keep (Jp.apart (show Jp w0 _ g ah dl7 from ig) (ra_ bp7) (by decide)) hk (fun _ h=>h.2)) (fun _ h=>h.1));replace ex:=A_ (Jb.blk hk (g':=mr) (o:=.cells #[.slice none 0 0, .slice none 0 0] 25 (0,0)) (ba_ ex) ax2.out (by simp));replace HK:=A_ (Jb.trans (kv) hk (.inl rfl));replace HB:=A_ (hb);replace HI0:=A_ (hi)))
 go_loopg [8] k (fun kq v8 w'=>∃(gu:Int) (f5:Int) (as0:List Int) (wm:List (List Int)) (bf9:Value) (uz:Value),v8 = .int .i64 gu/\Gy (Fm.l0 kq a1 (rd sc ya) qx gu ah f5 as0 wm=some (r1,r2,r3))/\Gy (kq<=k)/\Gy (Kd.R (Kd.int .i64) 3 w' w.heap.size (fun _=>True) bf9 as0)/\Gy (Kd.S (Kd.slice 3 (Kd.int .i64)) 22 w' w.heap.size (fun k_=>some k_≠(bf9:Value).ownBlock) uz wm)/\Gy (hc_ w' pk #[(.slice none 0 0),(.slice none 0 0)] 25)/\Gy (hc_ w' mr #[bf9,uz] 25)/\Gy (Jp w0 w' g ah f5)/\Gy (Jb w w' g none)/\Gy (Below w0.heap.size w0 w'))
 case atStart=>exact⟨(0),(ic1),(([]:List Int)),(([]:List (List Int))),(.slice none 0 0),(.slice none 0 0),(g2_),H',⟨Nat.le_refl _⟩,⟨g18_⟩,⟨g24_⟩,⟨uf0_ f8⟩,⟨uf0_ ex⟩,⟨ig⟩,⟨kv⟩,⟨ot⟩⟩
 clear H'
 obtain⟨gu,f5,as0,wm,bf9,uz,rfl,HA,HK1,ju,j3,f8,ex,HI0,HK,HB⟩:=hrel
 cases gk with
 | zero=>exact absurd HA.out (by simp[Fm.l0])
 | succ k1=>?_
 have H:=HA.out
 clear HA
 simp only[Fm.l0] at H
 by_cases f7:gu < (rd sc ya)
 case neg=>
  rw[if_neg f7] at H
  have vg:=decide_eq_false f7
  clear f7
  replace H:=Option.bind_eq_some_iff.mp H
  obtain⟨⟨lb9,lc0⟩,id5,H⟩:=H
  try dsimp only at H
  have A56:=A_ id5
  clear id5
  by_cases c57:lb9=true
  ·subst c57
   replace H:=ifp_ H
   exact absurd H (by simp)
  replace c57:=Bool.eq_false_iff.mpr c57
  subst c57
  replace H:=ifn_ H
  simp only[Option.some.injEq,Prod.mk.injEq] at H
  obtain⟨rfl,rfl,rfl⟩:=H
  go_wp2_with (first|((with_reducible refine gc_ 106 ?_);refine gl_ 66 Try.func106 #[.pointer (some ⟨g,0,none⟩), .int .i64 a1] ?_;(refine(F7.calls k1 g ah f5 a1 false lc0 w0 _ ig ot A56.out).mono ?_);rintro e w58 ⟨rfl,hi,hb,hk⟩;refine⟨_,rfl,?_⟩;replace ju:=A_ (Kd.R_mono (Kd.R_keep (Jp.apart (show Jp w0 _ g ah f5 from ig) (uf2_ ju) (by decide)) hk (fun _ h=>h.2)) (fun _ h=>h.1));replace j3:=A_ (Kd.S_mono (Kd.S_keep (Jp.apartS (show Jp w0 _ g ah f5 from ig) (uf3_ j3) (by decide)) hk (fun _ h=>h.2)) (fun _ h=>h.1));replace f8:=kb_ hk f8 bf8;replace ex:=kb_ hk ex ax2;replace HK:=A_ (Jb.trans (kv) hk (.inl rfl));replace HB:=A_ (hb);replace HI0:=A_ (hi);have fi8:=ei8.out;have fi9:=bp8.out;have ki0:=ax2.out;have ki1:=ei7.out;obtain⟨hr7,hr8,hr9,hs1⟩:=blk2_ ex;obtain⟨we,xk,fj0⟩:=Kd.R_slice ju.out;subst fj0;have kt2:=bf8.out;have kt3:=ib9.out;obtain⟨hy5,hy6,hy7,hy8⟩:=blk2_ f8;obtain⟨fw0,fw1,lc1⟩:=Kd.S_slice j3.out;subst lc1))
  refine bodyPost_ret (results_cell_row rfl _ _ pk 25 #[.slice we as0.length xk, .slice fw0 wm.length fw1] (0,0) _ rfl (ba_ f8) Try.underlying25 rfl (g1_)) rfl ?_
  exact⟨_,_,g4_,ra_ ju,sa_ j3,ig,ot,kv⟩
 rw[if_pos f7] at H
 have vg:=decide_eq_true f7
 clear f7
 replace H:=Option.bind_eq_some_iff.mp H
 obtain⟨⟨cp0,ei9⟩,dh9,H⟩:=H
 try dsimp only at H
 have A18:=A_ dh9
 clear dh9
 replace H:=Option.bind_eq_some_iff.mp H
 obtain⟨⟨cp1,cp2⟩,ic3,H⟩:=H
 try dsimp only at H
 have A19:=A_ ic3
 clear ic3
 obtain⟨al1,hyq⟩:∃y_:List Int,y_=(([0,cp0,cp1]:List Int)):=⟨_,rfl⟩
 replace H:(if 0<=qx then(if qx < (al1.length:Int) then(if as0.length < 17592186044416 then(Fm.l1 k1 a1 (rd sc ya) qx gu (([]:List Int)) 0 ah cp2 (as0 ++ [rd al1 qx]) wm) else(none)) else(none)) else(none))=some (r1,r2,r3):=qh_
 have fv5:=A_ hyq
 clear hyq
 obtain⟨bh8,H⟩:=pd_ H
 obtain⟨dx2,H⟩:=pd_ H
 obtain⟨je,H⟩:=pos_ H
 have kz7:=A_ je
 clear je
 obtain⟨kk,hyq⟩:∃y_:List Int,y_=(as0 ++ [rd al1 qx]):=⟨_,rfl⟩
 replace H:(Fm.l1 k1 a1 (rd sc ya) qx gu (([]:List Int)) 0 ah cp2 kk wm)=some (r1,r2,r3):=qh_
 have kz8:=A_ hyq
 clear hyq
 obtain⟨ic4,hyq⟩:∃y_:List Int,y_=(([]:List Int)):=⟨_,rfl⟩
 replace H:(Fm.l1 k1 a1 (rd sc ya) qx gu ic4 0 ah cp2 kk wm)=some (r1,r2,r3):=qh_
 have ic5:=A_ hyq
 clear hyq
 have H':=A_ H
 clear H
 try go_wp2
 have pi597:(0<=(qx:Int))=True:=eq_true (od_)
 have qi597:(qx < (al1.length:Int))=True:=eq_true (od_)
 replace ju:=rd_ ju
 replace j3:=sd_ j3
 replace f8:=bd_ f8
 replace ex:=bd_ ex
 replace HI0:=A_ (Jp.drew HI0.out)
 replace HK:=A_ (Jk HK.out)
 replace HB:=A_ (G2 HB.out)
 refine start_ (n:=14) (S:=fun w'=>w'.cell? ⟨mr,0,none⟩=some (bf9)/\w'.cell? ⟨mr,1,none⟩=some (uz)) (ds:=[13]) (tl_ 14 0) (g1_) rfl (g1_) ⟨(Gz ex.out 0).trans rfl,(Gz ex.out 1).trans rfl⟩ (fun hHeld=>?_);refine Jm Fm.tab7 Fm.bits7 (fun HT_ HW_=>?_)
 generalize wr.drew=w23 at ju j3 f8 ex HI0 HK HB hHeld |-
 refine pw_ 0 25 (tl_ 14 1) ?_
 refine pw_ 2 27 (tl_ 14 5) ?_
 refine pw_ 4 29 (tl_ 14 21) ?_
 refine pw_ 7 32 (tl_ 14 149) ?_
 refine tk7_ 1 26 (tl_ 14 151) hHeld ?_
 refine one_ (i:=3) (N:=some 28) (tl_ 14 159) rfl rfl (Jo HT_.out (g1_)) (by decide) (fun K hK=>?_)
 refine goes_ Try.func70 (g1_) rfl #[.pointer (some ⟨g,0,none⟩), .int .i64 4] (by rfl) rfl rfl (g3_) ?_
 refine(Fa.calls k1 g ah f5 4 cp0 ei9 w0 _ ig ot A18.out).mono ?_
 rintro e w24 ⟨rfl,hi,hb,hk⟩
 refine⟨_,rfl,?_⟩
 replace ju:=A_ (Kd.R_mono (Kd.R_keep (Jp.apart (show Jp w0 _ g ah f5 from ig) (uf2_ ju) (by decide)) hk (fun _ h=>h.2)) (fun _ h=>h.1))
 replace j3:=A_ (Kd.S_mono (Kd.S_keep (Jp.apartS (show Jp w0 _ g ah f5 from ig) (uf3_ j3) (by decide)) hk (fun _ h=>h.2)) (fun _ h=>h.1))
 replace f8:=kb_ hk f8 bf8
 replace ex:=kb_ hk ex ax2
 replace HK:=A_ (Jb.trans (kv) hk (.inl rfl))
 replace HB:=A_ (hb)
 replace HI0:=A_ (hi)
 refine hK.out _ _ ⟨(Gz ex.out 0).trans rfl,(Gz ex.out 1).trans rfl⟩ (fun hHeld=>?_)
 clear hK K
 refine nm_ ?_
 refine one_ (i:=5) (N:=some 30) (tl_ 14 191) rfl rfl (Jo HT_.out (g1_)) (by decide) (fun K hK=>?_)
 refine goes_ Try.func70 (g1_) rfl #[.pointer (some ⟨g,0,none⟩), .int .i64 21] (by rfl) rfl rfl (g3_) ?_
 refine(Fa.calls k1 g ah ei9 21 cp1 cp2 w0 _ ig ot A19.out).mono ?_
 rintro e oa ⟨rfl,hi,hb,hk⟩
 refine⟨_,rfl,?_⟩
 replace ju:=A_ (Kd.R_mono (Kd.R_keep (Jp.apart (show Jp w0 _ g ah ei9 from ig) (uf2_ ju) (by decide)) hk (fun _ h=>h.2)) (fun _ h=>h.1))
 replace j3:=A_ (Kd.S_mono (Kd.S_keep (Jp.apartS (show Jp w0 _ g ah ei9 from ig) (uf3_ j3) (by decide)) hk (fun _ h=>h.2)) (fun _ h=>h.1))
 replace f8:=kb_ hk f8 bf8
 replace ex:=kb_ hk ex ax2
 replace HK:=A_ (Jb.trans (kv) hk (.inl rfl))
 replace HB:=A_ (hb)
 replace HI0:=A_ (hi)
 refine hK.out _ _ ⟨(Gz ex.out 0).trans rfl,(Gz ex.out 1).trans rfl⟩ (fun hHeld=>?_)
 clear hK K
 refine nm_ ?_
 refine one_ (i:=6) (N:=some 31) (tl_ 14 255) rfl rfl (Jo HT_.out (g1_)) (by decide) (fun K hK=>?_)
 refine rls_ 31 [0,cp0,cp1] ?_
 intro nj0 w26 qr hb hg_ hnew_
 clear hg_ hnew_
 (first|rw[<- fv5.out] at qr|(simp only[Int.reduceToNat] at qr;rw[<- fv5.out] at qr))
 replace j3:=A_ (Kd.S_elder' (uf3_ j3) (Kd.R_base qr) hb)
 have bg0:=A_ (Kd.R_lower (Kd.R_new' qr (Kd.R_lt (uf2_ ju))) (Ji (w:=w) (g:=g) (row:=none) (kv)))
 replace ju:=A_ (Kd.R_elder' (uf2_ ju) (Kd.R_base qr) hb)
 replace f8:=bb_ f8 hb
 replace ex:=bb_ ex hb
 replace HK:=A_ (Jb.trans (kv) (Jb.of_below hb g none) (.inl rfl))
 replace HB:=hs_ (ot) hb
 replace HI0:=A_ (Jp.below (ig) hb)
 clear hb qr
 obtain⟨cd,b7,ba7⟩:=Kd.R_slice bg0.out
 subst ba7
 obtain⟨ado28,kz9,_⟩:=Kd.at_int (Kd.R_reads' bg0.out).2.2 0 (by decide) (by rw[fv5.out];simp)
 cases kz9
 refine hK.out _ _ ⟨(Gz ex.out 0).trans rfl,(Gz ex.out 1).trans rfl⟩ (fun hHeld=>?_)
 clear hK K
 refine nm_ ?_
 refine pw_ 8 33 (tl_ 14 511) ?_
 refine one_ (i:=9) (N:=some 34) (tl_ 14 1023) rfl rfl (Jo HT_.out (g1_)) (by decide) (fun K hK=>?_)
 (have ic6:0<=(qx:Int):=od_;have ic7:qx < (al1.length:Int):=od_;obtain⟨la0,la1,ic8⟩:=Kd.at_int (Kd.R_reads' bg0.out).2.2 qx ic6 ic7;obtain rfl:ado28=la0:=(by injection la1))
 refine value_ (w1:=?_) (v:=?_) (by rfl) rfl ?_ ?_
 rotate_left 2
 ·go_simp
  constructor
  ·rfl
  rfl
 clear ic8
 refine hK.out _ _ ⟨(Gz ex.out 0).trans rfl,(Gz ex.out 1).trans rfl⟩ (fun hHeld=>?_)
 clear hK K
 refine nm_ ?_
 refine one_ (i:=10) (N:=some 35) (tl_ 14 2047) rfl rfl (Jo HT_.out (g1_)) (by decide) (fun K hK=>?_)
 refine value_ (w1:=?_) (v:=?_) (by rfl) rfl ?_ ?_
 rotate_left 2
 ·go_simp
  constructor
  ·rfl
  rfl
 refine hK.out _ _ ⟨(Gz (G5 ex.out _) 0).trans rfl,(Gz (G5 ex.out _) 1).trans rfl⟩ (fun hHeld=>?_)
 clear hK K
 refine nm_ ?_
 refine one_ (i:=11) (N:=some 36) (tl_ 14 4095) rfl rfl (Jo HT_.out (g1_)) (by decide) (fun K hK=>?_)
 refine Kd.R_append_step (Kd.int .i64) w.heap.size (by rfl) (.tmp 26) (.tmp 35) 22 3 (.int .i64 0) 8 rfl Try.underlying22 info3 rfl (by decide) (by omega) bf9 as0 (rd al1 qx) [.int .i64 (rd al1 qx)] (fun k_=>some k_≠(.slice (some ado28) al1.length b7:Value).ownBlock) (fun _=>False) rfl rfl ?aP (fun _ hk=>hk.elim) ?aF ?aO (Below.refl _ _) ?aS ?aL ?_
 (case aP=>exact rfl)
 (case aF=>exact(fun k_ hk=>Kd.fresh' (Kd.R_lt (uf2_ bg0)) k_ hk))
 (case aO=>exact(g113_))
 (case aS=>exact(Ji (w:=w) (g:=g) (row:=none) (kv)))
 (case aL=>have:=kz7.out;omega)
 intro nj1 w29 ho hb hg hat
 rw[<- kz8.out] at ho
 replace j3:=A_ (Kd.S_after (ok:=(fun k_=>some k_≠(.slice (some ado28) al1.length b7:Value).ownBlock)) (g50_) hg hat)
 replace f8:=(bg_ f8 hg (Kd.R_ne ju.out f8.out (by decide)))
 replace ex:=(bg_ ex hg (Kd.R_ne ju.out ex.out (by decide)))
 replace bg0:=A_ (Kd.R_after (ok:=(fun _=>True)) (uf2_ bg0) hg hat)
 replace HB:=A_ (below_weaken (ot) HL.out hb)
 replace HI0:=A_ (Jp.grown (ig) hg (Jp.own_ne HI0.out ju.out (by decide)))
 replace HK:=A_ (Jb.trans (kv) (Jb.of_grown hg g) (Kd.R_base2 ju.out))
 have dm0:=A_ (ho)
 clear ju
 clear ho hb hg hat
 obtain⟨ka,kb,bo2⟩:=Kd.R_slice dm0.out
 (first|subst bo2|(injection bo2 with f1_ f2_ f3_;have f4_:=f1_.symm;have f5_:=f3_.symm;clear f1_ f2_ f3_;subst f4_;subst f5_))
 refine hK.out _ _ ⟨(Gz ex.out 0).trans rfl,(Gz ex.out 1).trans rfl⟩ (fun hHeld=>?_)
 clear hK K
 refine nm_ ?_
 refine pw_ 12 37 (tl_ 14 8191) ?_
 refine last_ (i:=13) (N:=none) (tl_ 14 16383) rfl rfl (Jo HT_.out (g1_)) (by decide) (fun K hK=>?_)
 have la2:w29.cell? ⟨mr,0,none⟩=some (bf9):=(Gz ex.out 0).trans rfl
 have la3:=G8 ex.out 0
 have la4:=bp8.out
 have la5:=ei8.out
 refine skip_ (w1:=?_) (by rfl) rfl ?_ ?_
 rotate_left
 ·go_simp
  rfl
 refine hK.out _ _ ?_
 clear hK K
 refine done_ (done_of HT_.out (g1_)) ?_
 try go_wp2_with (first|((with_reducible refine gd_ 38 ?_);refine rle_ 38 [] ?_;intro nj2 w32 bp9 hb hg_ hnew_;clear hg_ hnew_;(first|rw[<- ic5.out] at bp9|(simp only[Int.reduceToNat] at bp9;rw[<- ic5.out] at bp9));replace j3:=A_ (Kd.S_elder' (sa_ j3) (Kd.R_base bp9) hb);have la6:=A_ (Kd.R_lower (Kd.R_new' (Kd.R_new' bp9 (Kd.R_lt (ra_ bg0))) (Kd.R_lt (ra_ dm0))) (Ji (w:=w) (g:=g) (row:=none) (kv)));replace bg0:=A_ (Kd.R_elder' (ra_ bg0) (Kd.R_base bp9) hb);replace dm0:=A_ (Kd.R_elder' (ra_ dm0) (Kd.R_base bp9) hb);replace f8:=A_ (G9 (g:=pk) (o:=.cells #[.slice none 0 0, .slice none 0 0] 25 (0,0)) (ba_ f8) hb);replace ex:=A_ (G9 (g:=mr) (o:=.cells #[.slice ka kk.length kb,uz] 25 (0,0)) (ba_ ex) hb);replace HK:=A_ (Jb.trans (kv) (Jb.of_below hb g none) (.inl rfl));replace HB:=hs_ (ot) hb;replace HI0:=A_ (Jp.below (show Jp w0 (w29.setCell ⟨mr,0,none⟩ (.slice ka kk.length kb)) g ah cp2 from ig) hb);clear hb bp9))
 go_loopg [9,10] k1 (fun kq v9 v10 w'=>∃(ag0:List Int) (rt:Int) (yb:Int),v10 = .int .i64 rt/\Gy (Fm.l1 kq a1 (rd sc ya) qx gu ag0 rt ah yb kk wm=some (r1,r2,r3))/\Gy (kq<=k1)/\Gy (Kd.R (Kd.int .i64) 3 w' w.heap.size (fun k_=>some k_≠((.slice ka kk.length kb):Value).ownBlock) v9 ag0)/\Gy (Kd.R (Kd.int .i64) 3 w' w.heap.size (fun k_=>some k_≠(v9:Value).ownBlock) (.slice ka kk.length kb) kk)/\Gy (Kd.S (Kd.slice 3 (Kd.int .i64)) 22 w' w.heap.size (fun k_=>some k_≠(v9:Value).ownBlock/\some k_≠((.slice ka kk.length kb):Value).ownBlock) uz wm)/\Gy (hc_ w' pk #[(.slice none 0 0),(.slice none 0 0)] 25)/\Gy (hc_ w' mr #[(.slice ka kk.length kb),uz] 25)/\Gy (Jp w0 w' g ah yb)/\Gy (Jb w w' g none)/\Gy (Below w0.heap.size w0 w'))
 case atStart=>exact⟨(ic4),(0),(cp2),(g2_),H',⟨Nat.le_refl _⟩,⟨by(with_reducible repeat(first|apply Kd.R_alloc|apply Kd.R_drewN|apply Kd.R_drew));exact Kd.R_mono la6.out (fun _ hk=>hk.2)⟩,⟨by(with_reducible repeat(first|apply Kd.R_alloc|apply Kd.R_drewN|apply Kd.R_drew));exact Kd.R_mono dm0.out (fun _ hk=>hk.2)⟩,⟨by(with_reducible repeat(first|apply Kd.S_alloc|apply Kd.S_drewN|apply Kd.S_drew));exact Kd.S_mono j3.out (fun _ hk=>⟨hk.2,hk.1.2⟩)⟩,⟨uf0_ f8⟩,⟨uf0_ ex⟩,⟨ig⟩,⟨kv⟩,⟨ot⟩⟩
 clear H'
 obtain⟨ag0,rt,yb,rfl,HA,HK2,kx,ju,j3,f8,ex,HI0,HK,HB⟩:=hrel
 cases gk with
 | zero=>exact absurd HA.out (by simp[Fm.l1])
 | succ k2=>?_
 have H:=HA.out
 clear HA
 simp only[Fm.l1] at H
 by_cases qp:rt < (rd sc ya)
 case neg=>
  rw[if_neg qp] at H
  have da6:=decide_eq_false qp
  clear qp
  obtain⟨c48,H⟩:=pos_ H
  have lb6:=A_ c48
  clear c48
  obtain⟨dm1,hyq⟩:∃y_:List (List Int),y_=(wm ++ [ag0]):=⟨_,rfl⟩
  replace H:(Fm.l0 k2 a1 (rd sc ya) qx (wrap64 (gu + 1)) ah yb kk dm1)=some (r1,r2,r3):=qh_
  have lb7:=A_ hyq
  clear hyq
  have H':=A_ H
  clear H
  have fg4:=ax2.out
  have fg5:=ei7.out
  obtain⟨au2,au3,au4,au5⟩:=blk2_ ex
  obtain⟨bp1,bp2,eh7⟩:=Kd.R_slice kx.out
  subst eh7
  go_wp2_with (first|((with_reducible refine gate_builtin (b:=.append) (xs:=#[.tmp 59, .tmp 61]) rfl ?_);at_builtin;refine Kd.S_append (Kd.slice 3 (Kd.int .i64)) w.heap.size rfl (.tmp 59) (.tmp 61) 23 22 (.slice none 0 0) 24 rfl Try.underlying23 info22 rfl (by decide) (by omega) uz wm ag0 [.slice bp1 ag0.length bp2] (fun k_=>some k_≠(.slice ka kk.length kb:Value).ownBlock) (fun k_=>some k_=(.slice bp1 ag0.length bp2:Value).ownBlock) rfl rfl ?aP (fun k_ hk_=>((Kd.R_mono (ok':=fun k_=>((fun k_=>some k_≠(.slice ka kk.length kb:Value).ownBlock)) k_/\some k_≠(uz:Value).ownBlock) (Kd.R_apart' (kx.out) (Kd.S_typed j3.out) (by decide)) (fun k_ hk=>⟨hk.1,hk.2⟩))).1 k_ hk_.symm) ?aF ?aO (Below.refl _ _) ?aS ?aL ?_;(case aP=>exact Kd.M_row (Kd.R_mono (Kd.R_tight rfl (Kd.R_mono (ok':=fun k_=>((fun k_=>some k_≠(.slice ka kk.length kb:Value).ownBlock)) k_/\some k_≠(uz:Value).ownBlock) (Kd.R_apart' (kx.out) (Kd.S_typed j3.out) (by decide)) (fun k_ hk=>⟨hk.1,hk.2⟩))) (fun _ h_=>h_)));(case aF=>exact(fun k_ hk=>Kd.fresh' (Kd.R_lt (uf2_ ju)) k_ hk));(case aO=>exact(by(with_reducible repeat(first|apply Kd.S_alloc|apply Kd.S_drewN|apply Kd.S_drew));exact Kd.S_mono j3.out (fun k_ hk=>⟨hk.2,fun e_=>hk.1 e_⟩)));(case aS=>exact(Ji (w:=w) (g:=g) (row:=none) (kv)));(case aL=>have:=lb6.out;omega);intro nj6 w52 ho hb hg hat;rw[<- lb7.out] at ho;replace ju:=A_ (Kd.R_over' (uf2_ ju) (Kd.S_typed (uf3_ j3)) (by decide) hg);replace f8:=(bg_ f8 hg (Kd.S_ne j3.out f8.out (by decide)));replace ex:=(bg_ ex hg (Kd.S_ne j3.out ex.out (by decide)));replace HB:=A_ (below_weaken (ot) HL.out hb);replace HI0:=A_ (Jp.grown (ig) hg (Jp.own_neS HI0.out j3.out (by decide)));replace HK:=A_ (Jb.trans (kv) (Jb.of_grown hg g) (Kd.S_base2 j3.out));have id4:=A_ (ho);clear j3 kx;clear ho hb hg hat;obtain⟨fv8,fv9,lb8⟩:=Kd.S_slice id4.out;subst lb8;obtain⟨hr3,hr4,hr5,hr6⟩:=blk2_ ex))
  go_roundg k2
  case measure=>have:=HK1.out;have:=HK2.out;omega
  case rel=>exact⟨(wrap64 (gu + 1)),(yb),(kk),(dm1),(.slice ka kk.length kb),(.slice fv8 dm1.length fv9),(g2_),H',⟨g16_⟩,⟨ra_ ju⟩,⟨sa_ id4⟩,⟨ba_ f8⟩,⟨ba_ ex⟩,⟨ig⟩,⟨kv⟩,⟨ot⟩⟩
 rw[if_pos qp] at H
 have da6:=decide_eq_true qp
 clear qp
 by_cases rk:gu=rt
 ·rw[if_pos rk] at H
  have db7:(gu == rt)=true:=beq_iff_eq.mpr rk
  have la7:(gu != rt)=false:=bne_eq_false_iff_eq.mpr rk
  clear rk
  obtain⟨k9,H⟩:=pos_ H
  have la8:=A_ k9
  clear k9
  obtain⟨ic9,hyq⟩:∃y_:List Int,y_=(ag0 ++ [0]):=⟨_,rfl⟩
  replace H:(Fm.l1 k2 a1 (rd sc ya) qx gu ic9 (wrap64 (rt + 1)) ah yb kk wm)=some (r1,r2,r3):=qh_
  have la9:=A_ hyq
  clear hyq
  have H':=A_ H
  clear H
  go_wp2_with (first|((with_reducible refine gate_builtin (b:=.append) (xs:=#[.tmp 54, .tmp 56]) rfl ?_);at_builtin;refine Kd.R_append (Kd.int .i64) w.heap.size rfl (.tmp 54) (.tmp 56) 22 3 (.int .i64 0) 8 rfl Try.underlying22 info3 rfl (by decide) (by omega) u9 ag0 0 [.int .i64 0] (fun k_=>some k_≠(.slice ka kk.length kb:Value).ownBlock) (fun _=>False) rfl rfl ?aP (fun _ hk=>hk.elim) ?aF ?aO (Below.refl _ _) ?aS ?aL ?_;(case aP=>exact rfl);(case aF=>exact(fun k_ hk=>Kd.fresh' (Kd.R_lt (uf2_ ju)) k_ hk));(case aO=>exact(uf2_ kx));(case aS=>exact(Ji (w:=w) (g:=g) (row:=none) (kv)));(case aL=>have:=la8.out;omega);intro nj3 rj ho hb hg hat;rw[<- la9.out] at ho;replace ju:=A_ (Kd.R_after (ok:=(fun _=>True)) (g153_) hg hat);replace j3:=A_ (Kd.S_after (ok:=(fun k_=>some k_≠(.slice ka kk.length kb:Value).ownBlock)) (g50_) hg hat);replace f8:=(bg_ f8 hg (Kd.R_ne kx.out f8.out (by decide)));replace ex:=(bg_ ex hg (Kd.R_ne kx.out ex.out (by decide)));replace HB:=A_ (below_weaken (ot) HL.out hb);replace HI0:=A_ (Jp.grown (ig) hg (Jp.own_ne HI0.out kx.out (by decide)));replace HK:=A_ (Jb.trans (kv) (Jb.of_grown hg g) (Kd.R_base2 kx.out));have lb0:=A_ (ho);clear kx;clear ho hb hg hat))
  go_roundg k2
  case measure=>have:=HK1.out;have:=HK2.out;omega
  case rel=>exact⟨(ic9),(wrap64 (rt + 1)),(yb),(g2_),H',⟨g16_⟩,⟨uf2_ lb0⟩,⟨g113_⟩,⟨g50_⟩,⟨uf0_ f8⟩,⟨uf0_ ex⟩,⟨ig⟩,⟨kv⟩,⟨ot⟩⟩
 rw[if_neg rk] at H
 have db7:(gu == rt)=false:=beq_eq_false_iff_ne.mpr rk
 have la7:(gu != rt)=true:=bne_iff_ne.mpr rk
 replace H:=Option.bind_eq_some_iff.mp H
 obtain⟨⟨fv6,bq0⟩,id0,H⟩:=H
 try dsimp only at H
 have A38:=A_ id0
 clear id0
 by_cases tn:fv6 > 0
 ·rw[if_pos tn] at H
  have ey9:=decide_eq_true tn
  clear tn
  replace H:=Option.bind_eq_some_iff.mp H
  obtain⟨⟨ej0,fv7⟩,id1,H⟩:=H
  try dsimp only at H
  have oc:=A_ id1
  clear id1
  obtain⟨lw,H⟩:=pos_ H
  have lb1:=A_ lw
  clear lw
  obtain⟨id2,hyq⟩:∃y_:List Int,y_=(ag0 ++ [ej0]):=⟨_,rfl⟩
  replace H:(Fm.l1 k2 a1 (rd sc ya) qx gu id2 (wrap64 (rt + 1)) ah fv7 kk wm)=some (r1,r2,r3):=qh_
  have lb2:=A_ hyq
  clear hyq
  have H':=A_ H
  clear H
  go_wp2_with (first|(go_at_call 70;(refine(Fa.calls k2 g ah yb 3 fv6 bq0 w0 _ ig ot A38.out).mono ?_);rintro e w42 ⟨rfl,hi,hb,hk⟩;replace kx:=A_ (Kd.R_mono (Kd.R_keep (Jp.apart (show Jp w0 _ g ah yb from ig) (uf2_ kx) (by decide)) hk (fun _ h=>h.2)) (fun _ h=>h.1));replace ju:=A_ (Kd.R_mono (Kd.R_keep (Jp.apart (show Jp w0 _ g ah yb from ig) (uf2_ ju) (by decide)) hk (fun _ h=>h.2)) (fun _ h=>h.1));replace j3:=A_ (Kd.S_mono (Kd.S_keep (Jp.apartS (show Jp w0 _ g ah yb from ig) (uf3_ j3) (by decide)) hk (fun _ h=>h.2)) (fun _ h=>h.1));replace f8:=kb_ hk f8 bf8;replace ex:=kb_ hk ex ax2;replace HK:=A_ (Jb.trans (kv) hk (.inl rfl));replace HB:=A_ (hb);replace HI0:=A_ (hi))|((with_reducible refine gc_ 70 ?_);refine gl_ 53 Try.func70 #[.pointer (some ⟨g,0,none⟩), .int .i64 10] ?_;(refine(Fa.calls k2 g ah bq0 10 ej0 fv7 w0 _ ig ot oc.out).mono ?_);rintro e w43 ⟨rfl,hi,hb,hk⟩;refine⟨_,rfl,?_⟩;replace kx:=A_ (Kd.R_mono (Kd.R_keep (Jp.apart (show Jp w0 _ g ah bq0 from ig) (uf2_ kx) (by decide)) hk (fun _ h=>h.2)) (fun _ h=>h.1));replace ju:=A_ (Kd.R_mono (Kd.R_keep (Jp.apart (show Jp w0 _ g ah bq0 from ig) (uf2_ ju) (by decide)) hk (fun _ h=>h.2)) (fun _ h=>h.1));replace j3:=A_ (Kd.S_mono (Kd.S_keep (Jp.apartS (show Jp w0 _ g ah bq0 from ig) (uf3_ j3) (by decide)) hk (fun _ h=>h.2)) (fun _ h=>h.1));replace f8:=kb_ hk f8 bf8;replace ex:=kb_ hk ex ax2;replace HK:=A_ (Jb.trans (kv) hk (.inl rfl));replace HB:=A_ (hb);replace HI0:=A_ (hi))|((with_reducible refine gate_builtin (b:=.append) (xs:=#[.tmp 54, .tmp 56]) rfl ?_);at_builtin;refine Kd.R_append (Kd.int .i64) w.heap.size rfl (.tmp 54) (.tmp 56) 22 3 (.int .i64 0) 8 rfl Try.underlying22 info3 rfl (by decide) (by omega) u9 ag0 ej0 [.int .i64 ej0] (fun k_=>some k_≠(.slice ka kk.length kb:Value).ownBlock) (fun _=>False) rfl rfl ?aP (fun _ hk=>hk.elim) ?aF ?aO (Below.refl _ _) ?aS ?aL ?_;(case aP=>exact rfl);(case aF=>exact(fun k_ hk=>Kd.fresh' (Kd.R_lt (uf2_ ju)) k_ hk));(case aO=>exact(uf2_ kx));(case aS=>exact(Ji (w:=w) (g:=g) (row:=none) (kv)));(case aL=>have:=lb1.out;omega);intro nj4 w44 ho hb hg hat;rw[<- lb2.out] at ho;replace ju:=A_ (Kd.R_after (ok:=(fun _=>True)) (g153_) hg hat);replace j3:=A_ (Kd.S_after (ok:=(fun k_=>some k_≠(.slice ka kk.length kb:Value).ownBlock)) (g50_) hg hat);replace f8:=(bg_ f8 hg (Kd.R_ne kx.out f8.out (by decide)));replace ex:=(bg_ ex hg (Kd.R_ne kx.out ex.out (by decide)));replace HB:=A_ (below_weaken (ot) HL.out hb);replace HI0:=A_ (Jp.grown (ig) hg (Jp.own_ne HI0.out kx.out (by decide)));replace HK:=A_ (Jb.trans (kv) (Jb.of_grown hg g) (Kd.R_base2 kx.out));have lb3:=A_ (ho);clear kx;clear ho hb hg hat))
  go_roundg k2
  case measure=>have:=HK1.out;have:=HK2.out;omega
  case rel=>exact⟨(id2),(wrap64 (rt + 1)),(fv7),(g2_),H',⟨g16_⟩,⟨uf2_ lb3⟩,⟨g113_⟩,⟨g50_⟩,⟨uf0_ f8⟩,⟨uf0_ ex⟩,⟨ig⟩,⟨kv⟩,⟨ot⟩⟩
 rw[if_neg tn] at H
 have ey9:=decide_eq_false tn
 clear tn
 obtain⟨c45,H⟩:=pos_ H
 have ez4:=A_ c45
 clear c45
 obtain⟨id3,hyq⟩:∃y_:List Int,y_=(ag0 ++ [0]):=⟨_,rfl⟩
 replace H:(Fm.l1 k2 a1 (rd sc ya) qx gu id3 (wrap64 (rt + 1)) ah bq0 kk wm)=some (r1,r2,r3):=qh_
 have lb4:=A_ hyq
 clear hyq
 have H':=A_ H
 clear H
 go_wp2_with (first|(go_at_call 70;(refine(Fa.calls k2 g ah yb 3 fv6 bq0 w0 _ ig ot A38.out).mono ?_);rintro e ro ⟨rfl,hi,hb,hk⟩;replace kx:=A_ (Kd.R_mono (Kd.R_keep (Jp.apart (show Jp w0 _ g ah yb from ig) (uf2_ kx) (by decide)) hk (fun _ h=>h.2)) (fun _ h=>h.1));replace ju:=A_ (Kd.R_mono (Kd.R_keep (Jp.apart (show Jp w0 _ g ah yb from ig) (uf2_ ju) (by decide)) hk (fun _ h=>h.2)) (fun _ h=>h.1));replace j3:=A_ (Kd.S_mono (Kd.S_keep (Jp.apartS (show Jp w0 _ g ah yb from ig) (uf3_ j3) (by decide)) hk (fun _ h=>h.2)) (fun _ h=>h.1));replace f8:=kb_ hk f8 bf8;replace ex:=kb_ hk ex ax2;replace HK:=A_ (Jb.trans (kv) hk (.inl rfl));replace HB:=A_ (hb);replace HI0:=A_ (hi))|((with_reducible refine gate_builtin (b:=.append) (xs:=#[.tmp 54, .tmp 56]) rfl ?_);at_builtin;refine Kd.R_append (Kd.int .i64) w.heap.size rfl (.tmp 54) (.tmp 56) 22 3 (.int .i64 0) 8 rfl Try.underlying22 info3 rfl (by decide) (by omega) u9 ag0 0 [.int .i64 0] (fun k_=>some k_≠(.slice ka kk.length kb:Value).ownBlock) (fun _=>False) rfl rfl ?aP (fun _ hk=>hk.elim) ?aF ?aO (Below.refl _ _) ?aS ?aL ?_;(case aP=>exact rfl);(case aF=>exact(fun k_ hk=>Kd.fresh' (Kd.R_lt (uf2_ ju)) k_ hk));(case aO=>exact(uf2_ kx));(case aS=>exact(Ji (w:=w) (g:=g) (row:=none) (kv)));(case aL=>have:=ez4.out;omega);intro nj5 w47 ho hb hg hat;rw[<- lb4.out] at ho;replace ju:=A_ (Kd.R_after (ok:=(fun _=>True)) (g153_) hg hat);replace j3:=A_ (Kd.S_after (ok:=(fun k_=>some k_≠(.slice ka kk.length kb:Value).ownBlock)) (g50_) hg hat);replace f8:=(bg_ f8 hg (Kd.R_ne kx.out f8.out (by decide)));replace ex:=(bg_ ex hg (Kd.R_ne kx.out ex.out (by decide)));replace HB:=A_ (below_weaken (ot) HL.out hb);replace HI0:=A_ (Jp.grown (ig) hg (Jp.own_ne HI0.out kx.out (by decide)));replace HK:=A_ (Jb.trans (kv) (Jb.of_grown hg g) (Kd.R_base2 kx.out));have lb5:=A_ (ho);clear kx;clear ho hb hg hat))
 go_roundg k2
 case measure=>have:=HK1.out;have:=HK2.out;omega
 case rel=>exact⟨(id3),(wrap64 (rt + 1)),(bq0),(g2_),H',⟨g16_⟩,⟨uf2_ lb5⟩,⟨g113_⟩,⟨g50_⟩,⟨uf0_ f8⟩,⟨uf0_ ex⟩,⟨ig⟩,⟨kv⟩,⟨ot⟩⟩
def Ft.l0:Nat->Int->Int->List Int->Int->List Int->List (List Int)->List (S25)->Option (List Int × (List (List Int)) × (List (S25)) × Int)
 | 0,_,_,_,_,_,_,_=>none
 | k + 1,x1,x6,io,ld,cd4,cp4,cd5=>if x6 > 0 then((Fh.f k io ld cd4 cp4 cd5).bind fun bt662=>((Gg.f k cd4 cp4 cd5 bt662.1 bt662.2.1 bt662.2.2.1 bt662.2.2.2.1).bind fun bt667=>(if bt667.2.2.2=true then(Ft.l0 k x1 (wrap64 (x6 - 1)) io bt662.2.2.2.2 bt667.1 bt667.2.1 bt667.2.2.1) else(Ft.l0 k x1 (wrap64 (x6 - 1)) io bt662.2.2.2.2 cd4 cp4 cd5)))) else((F7.f k io ld x1).bind fun bt678=>(if bt678.1=true then((Fa.f k io bt678.2 3).bind fun bt680=>(if bt680.1=0 then(if 0 < (cd4.length:Int) then(some ((cd4.set (0:Int).toNat (-1)),cp4,cd5,bt680.2)) else(none)) else(if bt680.1=1 then(if 5<=35184372088832 then(if cd5.length < 2932031007402 then(some (cd4,cp4,(cd5 ++ [(⟨(List.replicate 5 0),([]:List (List Int))⟩:S25)]),bt680.2)) else(none)) else(none)) else(some (([]:List Int),([]:List (List Int)),([]:List (S25)),bt680.2))))) else(some (cd4,cp4,cd5,bt678.2))))
def Ft.f (k:Nat) (ah:List Int) (dp:Int) (a1:Int):Option (List Int × (List (List Int)) × (List (S25)) × Int):=(Fm.f k ah dp 0).bind fun bt652=>((Fa.f k ah bt652.2.2 5).bind fun bt660=>(Ft.l0 k a1 bt660.1 ah bt660.2 bt652.1 bt652.2.1 ([]:List (S25))))
def Ft.T5:Bool × List (List Nat × List Nat):=(true,[([],[]),([],[]),([],[]),([1,2],[1,2]),([0,3,3],[0,3]),([4],[4]),([5],[5]),([5],[5]),([],[]),([8,6,4,0,1,2,3,4,5,6,8],[6,8]),([7,9,0,1,2,3,4,5,6,7,8,9],[7])])
def Ft.B5:List Nat:=[0,0,0,6,15,31,63,63,0,383,1023]
theorem Ft.tab5:rtab .any (opsOf Try.f77 5)=Ft.T5:=by kernel_rfl
theorem Ft.bits5:waitsOk Ft.T5.2 Ft.B5=true:=by kernel_rfl
def Ft.T14:Bool × List (List Nat × List Nat):=(true,[([],[]),([0],[0]),([],[]),([2],[2]),([3],[3]),([1,4],[1,4]),([0,1,2,3,4,5],[]),([6,5,5,0,1,2,3,4,5],[5,6])])
def Ft.B14:List Nat:=[0,1,0,4,12,31,63,127]
theorem Ft.tab14:rtab .any (opsOf Try.f77 14)=Ft.T14:=by kernel_rfl
theorem Ft.bits14:waitsOk Ft.T14.2 Ft.B14=true:=by kernel_rfl
theorem ct {p:Prop} (h:p:=by repeat(first|(with_reducible first|exact HI0.out|apply Jp.alloc|apply Jp.drewN|apply Jp.drew|apply Jp.set_1|refine Jp.far ?_ dn1.out _|refine Jp.far ?_ cp5.out _|refine Jp.far ?_ yd.out _)|exact HI0.out)):p:=h
theorem fj {p:Prop} (h:p:=by repeat(first|(with_reducible first|exact HK.out|apply Jb.set_|apply Jj|apply Jk|apply keep_alloc|refine Jl ?_ le6.out _|refine Jl ?_ le7.out _|refine Jl ?_ aa9.out _)|exact HK.out)):p:=h
theorem i9 {p:Prop} (h:p:=by repeat(first|(with_reducible first|exact HB.out|apply G4|apply G3|apply G2|refine G1 ?_ (Jp.ge HI0.out)|refine G1 ?_ le8.out|refine G1 ?_ le9.out|refine G1 ?_ ab0.out)|exact HB.out)):p:=h
set_option maxHeartbeats 8000000 in
set_option maxRecDepth 100000 in
theorem Ft.calls (k:Nat) (g:Nat) (ah:List Int) (dp:Int) (a1:Int) (r1:List Int) (r2:List (List Int)) (r3:List (S25)) (r4:Int) (w0 w:World) (hI:Jp w0 w g ah dp) (hB:Below w0.heap.size w0 w) (h:Ft.f k ah dp a1=some (r1,r2,r3,r4)) :
  Calls Try.prog 77 #[.pointer (some ⟨g,0,none⟩), .int .i64 a1] w fun e w'=>∃v0_ v1_ v2_:Value,e = .returned (.agg #[v0_,v1_,v2_])/\Kd.R (Kd.int .i64) 3 w' w.heap.size (fun _=>True) v0_ r1/\Kd.S (Kd.slice 3 (Kd.int .i64)) 22 w' w.heap.size (fun k_=>some k_≠(v0_:Value).ownBlock) v1_ r2/\Kd.Q k25 25 w' w.heap.size (fun k_=>some k_≠(v0_:Value).ownBlock/\some k_≠(v1_:Value).ownBlock) v2_ r3/\Jp w0 w' g ah r4/\Below w0.heap.size w0 w'/\Jb w w' g none:=by
 have hu28:=Try.underlying28
 have hu25:=Try.underlying25
 have HI0:=A_ hI
 have HK:=A_ (Jb.refl w g none)
 have HL:=A_ hB.size
 clear hI
 have HW0:=A_ hB.size
 have HB:=A_ hB
 clear hB
 have H:=h
 unfold Ft.f at H
 clear h
 replace H:=Option.bind_eq_some_iff.mp H
 obtain⟨⟨bq2,cd6,cp6⟩,pb,H⟩:=H
 try dsimp only at H
 have A3:=A_ pb
 clear pb
 replace H:=Option.bind_eq_some_iff.mp H
 obtain⟨⟨ig7,ig8⟩,oc,H⟩:=H
 try dsimp only at H
 have A4:=A_ oc
 clear oc
 have H':=A_ H
 clear H
 go_enter Try.func77,Try.ntmps77
 go_wp2_with (first|((with_reducible refine gd_ 4 ?_);refine bx_ (N:=4) #[.slice none 0 0, .slice none 0 0, .slice none 0 0] 28 ?_;intro fg hg w5 hbox hb;replace HB:=hs_ (i9) hb;have cv:=A_ (hbox);have le6:=A_ ((g17_:w.heap.size<=fg));have le8:=A_ (Nat.le_trans HW0.out le6.out);replace HK:=kt_ (fj) hb;have dn1:=A_ ((by rw[hg];exact Nat.ne_of_lt (Jp.lt (show Jp w0 _ g ah dp from ct)):g≠fg));have u2:=A_ ((by rw[hg];exact Nat.ne_of_gt (Jp.lt (show Jp w0 _ g ah dp from ct)):fg≠g));replace HI0:=A_ (Jp.below (ct) hb);clear hb hbox hg)|((with_reducible refine gc_ 91 ?_);refine gl_ 10 Try.func91 #[.pointer (some ⟨g,0,none⟩), .int .i64 0] ?_;(refine(Fm.calls k g ah dp 0 bq2 cd6 cp6 w0 _ ct i9 A3.out).mono ?_);rintro e w6 ⟨nn4,nn5,rfl,aj,ar,hi,hb,hk⟩;refine⟨_,rfl,?_⟩;replace cv:=kb_ hk cv u2;have cp7:=A_ (Kd.R_lower aj (Ji (w:=w) (g:=g) (row:=none) (fj)));have cp8:=A_ (Kd.S_lower ar (Ji (w:=w) (g:=g) (row:=none) (fj)));replace HK:=A_ (Jb.trans (fj) hk (.inl rfl));replace HB:=A_ (hb);replace HI0:=A_ (hi);obtain⟨Ao7,co7,eo7⟩:=Kd.S_slice cp8.out;subst eo7;obtain⟨ia,ib,eo8⟩:=Kd.R_slice cp7.out;subst eo8)|((with_reducible refine gd_ 5 ?_);refine bx_ (N:=5) #[.slice none 0 0, .slice none 0 0, .slice none 0 0] 28 ?_;intro d8 hg w9 hbox hb;replace cp7:=rb_ cp7 hb;replace cp8:=sb_ cp8 hb;replace HB:=hs_ (i9) hb;have a7:=A_ (hbox);have le7:=A_ ((g17_:w.heap.size<=d8));have le9:=A_ (Nat.le_trans HW0.out le7.out);replace HK:=kt_ (fj) hb;have ab1:=A_ ((g51_:fg≠d8));have cd7:=A_ ((g52_:d8≠fg));replace cv:=bb_ cv hb;have cp5:=A_ ((by rw[hg];exact Nat.ne_of_lt (Jp.lt (show Jp w0 _ g ah cp6 from ct)):g≠d8));have u4:=A_ ((by rw[hg];exact Nat.ne_of_gt (Jp.lt (show Jp w0 _ g ah cp6 from ct)):d8≠g));replace HI0:=A_ (Jp.below (ct) hb);clear hb hbox hg;have bn8:=cd7.out;have bn9:=ab1.out;have ah3:=u4.out;have ah4:=cp5.out;obtain⟨xg,xh,bd7,zv,xi,bd8⟩:=blk3_ a7)|((with_reducible refine gc_ 70 ?_);refine gl_ 13 Try.func70 #[.pointer (some ⟨g,0,none⟩), .int .i64 5] ?_;(refine(Fa.calls k g ah cp6 5 ig7 ig8 w0 _ ct i9 A4.out).mono ?_);rintro e w13 ⟨rfl,hi,hb,hk⟩;refine⟨_,rfl,?_⟩;replace cv:=A_ (Jb.blk hk (g':=fg) (o:=.cells #[.slice none 0 0, .slice none 0 0, .slice none 0 0] 28 (0,0)) (ba_ cv) u2.out (by simp));replace cp7:=A_ (Kd.R_mono (Kd.R_keep (Jp.apart (show Jp w0 _ g ah cp6 from ct) (ra_ cp7) (by decide)) hk (fun _ h=>h.2)) (fun _ h=>h.1));replace cp8:=A_ (Kd.S_mono (Kd.S_keep (Jp.apartS (show Jp w0 _ g ah cp6 from ct) (sa_ cp8) (by decide)) hk (fun _ h=>h.2)) (fun _ h=>h.1));replace a7:=A_ (Jb.blk hk (g':=d8) (o:=.cells #[.slice ia bq2.length ib, .slice Ao7 cd6.length co7, .slice none 0 0] 28 (0,0)) (ba_ a7) u4.out (by simp));replace HK:=A_ (Jb.trans (fj) hk (.inl rfl));replace HB:=A_ (hb);replace HI0:=A_ (hi)))
 go_loopg [6] k (fun kq v6 w'=>∃(jt:Int) (f5:Int) (cx:List Int) (d9:List (List Int)) (fi:List (S25)) (bg5:Value) (ax3:Value) (bg6:Value),v6 = .int .i64 jt/\Gy (Ft.l0 kq a1 jt ah f5 cx d9 fi=some (r1,r2,r3,r4))/\Gy (kq<=k)/\Gy (Kd.R (Kd.int .i64) 3 w' w.heap.size (fun _=>True) bg5 cx)/\Gy (Kd.S (Kd.slice 3 (Kd.int .i64)) 22 w' w.heap.size (fun k_=>some k_≠(bg5:Value).ownBlock) ax3 d9)/\Gy (Kd.Q k25 25 w' w.heap.size (fun k_=>some k_≠(bg5:Value).ownBlock/\some k_≠(ax3:Value).ownBlock) bg6 fi)/\Gy (hc_ w' fg #[(.slice none 0 0),(.slice none 0 0),(.slice none 0 0)] 28)/\Gy (hc_ w' d8 #[bg5,ax3,bg6] 28)/\Gy (Jp w0 w' g ah f5)/\Gy (Jb w w' g none)/\Gy (Below w0.heap.size w0 w'))
 case atStart=>exact⟨(ig7),(ig8),(bq2),(cd6),(([]:List (S25))),(.slice ia bq2.length ib),(.slice Ao7 cd6.length co7),(.slice none 0 0),(g2_),H',⟨Nat.le_refl _⟩,⟨uf2_ cp7⟩,⟨uf3_ cp8⟩,⟨Kd.Q_of_R (g18_)⟩,⟨uf0_ cv⟩,⟨uf0_ a7⟩,⟨ct⟩,⟨fj⟩,⟨i9⟩⟩
 clear H'
 obtain⟨jt,f5,cx,d9,fi,bg5,ax3,bg6,rfl,HA,HK1,bl,ch,cl,cv,a7,HI0,HK,HB⟩:=hrel
 cases gk with
 | zero=>exact absurd HA.out (by simp[Ft.l0])
 | succ k1=>?_
 have H:=HA.out
 clear HA
 simp only[Ft.l0] at H
 by_cases hz:jt > 0
 case neg=>
  rw[if_neg hz] at H
  have vf:=decide_eq_false hz
  clear hz
  replace H:=Option.bind_eq_some_iff.mp H
  obtain⟨⟨lf2,wo⟩,ih6,H⟩:=H
  try dsimp only at H
  have A53:=A_ ih6
  clear ih6
  by_cases c54:lf2=true
  case neg=>
   replace c54:=Bool.eq_false_iff.mpr c54
   subst c54
   replace H:=ifn_ H
   simp only[Option.some.injEq,Prod.mk.injEq] at H
   obtain⟨rfl,rfl,rfl,rfl⟩:=H
   go_wp2_with (first|((with_reducible refine gc_ 106 ?_);refine gl_ 30 Try.func106 #[.pointer (some ⟨g,0,none⟩), .int .i64 a1] ?_;(refine(F7.calls k1 g ah f5 a1 false wo w0 _ ct i9 A53.out).mono ?_);rintro e w95 ⟨rfl,hi,hb,hk⟩;refine⟨_,rfl,?_⟩;replace bl:=A_ (Kd.R_mono (Kd.R_keep (Jp.apart (show Jp w0 _ g ah f5 from ct) (uf2_ bl) (by decide)) hk (fun _ h=>h.2)) (fun _ h=>h.1));replace ch:=A_ (Kd.S_mono (Kd.S_keep (Jp.apartS (show Jp w0 _ g ah f5 from ct) (uf3_ ch) (by decide)) hk (fun _ h=>h.2)) (fun _ h=>h.1));replace cl:=A_ (Kd.Q_mono (Kd.Q_keep (Jp.apartQ (show Jp w0 _ g ah f5 from ct) (uf6_ cl) (by decide)) hk (fun _ h=>h.2)) (fun _ h=>h.1));replace cv:=kb_ hk cv u2;replace a7:=kb_ hk a7 u4;replace HK:=A_ (Jb.trans (fj) hk (.inl rfl));replace HB:=A_ (hb);replace HI0:=A_ (hi);have nr2:=cd7.out;have nr3:=ab1.out;have he7:=u4.out;have he8:=cp5.out;obtain⟨nr4,nr5,nr6,nr7,nr8,nr9⟩:=blk3_ a7;obtain⟨cq2,cq3,lf9⟩:=Kd.R_slice bl.out;subst lf9;have hy9:=u2.out;have hz1:=dn1.out;obtain⟨lg0,lg1,lg2,lg3,lg4,lg5⟩:=blk3_ cv;obtain⟨be3,be4,fl2⟩:=Kd.S_slice ch.out;subst fl2;obtain⟨ej9,ek0,lg6,_⟩:=Kd.Q_slice cl.out;subst lg6))
   refine bodyPost_ret (results_cell_row rfl _ _ fg 28 #[.slice cq2 cx.length cq3, .slice be3 d9.length be4, .slice ej9 fi.length ek0] (0,0) _ rfl (ba_ cv) Try.underlying28 rfl (g1_)) rfl ?_
   exact⟨_,_,_,g4_,ra_ bl,sa_ ch,qa_ cl,ct,i9,fj⟩
  subst c54
  replace H:=ifp_ H
  replace H:=Option.bind_eq_some_iff.mp H
  obtain⟨⟨ag2,cp9⟩,dn2,H⟩:=H
  try dsimp only at H
  have A55:=A_ dn2
  clear dn2
  by_cases c56:ag2=0
  ·rw[if_pos c56] at H
   have lf3:(ag2 == 0)=true:=beq_iff_eq.mpr c56
   have lf4:(ag2 != 0)=false:=bne_eq_false_iff_eq.mpr c56
   clear c56
   obtain⟨c57,H⟩:=pos_ H
   have np0:=decide_eq_true c57
   have np1:decide (0 < cx.length)=true:=decide_eq_true (by omega)
   clear c57
   obtain⟨ih7,hyq⟩:∃y_:List Int,y_=(cx.set (0:Int).toNat (-1)):=⟨_,rfl⟩
   replace H:(some (ih7,d9,fi,cp9))=some (r1,r2,r3,r4):=qh_
   have lf5:=A_ hyq
   clear hyq
   simp only[Option.some.injEq,Prod.mk.injEq] at H
   obtain⟨rfl,rfl,rfl,rfl⟩:=H
   go_wp2_with (first|((with_reducible refine gc_ 106 ?_);refine gl_ 30 Try.func106 #[.pointer (some ⟨g,0,none⟩), .int .i64 a1] ?_;(refine(F7.calls k1 g ah f5 a1 true wo w0 _ ct i9 A53.out).mono ?_);rintro e w59 ⟨rfl,hi,hb,hk⟩;refine⟨_,rfl,?_⟩;replace bl:=A_ (Kd.R_mono (Kd.R_keep (Jp.apart (show Jp w0 _ g ah f5 from ct) (uf2_ bl) (by decide)) hk (fun _ h=>h.2)) (fun _ h=>h.1));replace ch:=A_ (Kd.S_mono (Kd.S_keep (Jp.apartS (show Jp w0 _ g ah f5 from ct) (uf3_ ch) (by decide)) hk (fun _ h=>h.2)) (fun _ h=>h.1));replace cl:=A_ (Kd.Q_mono (Kd.Q_keep (Jp.apartQ (show Jp w0 _ g ah f5 from ct) (uf6_ cl) (by decide)) hk (fun _ h=>h.2)) (fun _ h=>h.1));replace cv:=kb_ hk cv u2;replace a7:=kb_ hk a7 u4;replace HK:=A_ (Jb.trans (fj) hk (.inl rfl));replace HB:=A_ (hb);replace HI0:=A_ (hi))|((with_reducible refine gc_ 70 ?_);refine gl_ 32 Try.func70 #[.pointer (some ⟨g,0,none⟩), .int .i64 3] ?_;(refine(Fa.calls k1 g ah wo 3 ag2 cp9 w0 _ ct i9 A55.out).mono ?_);rintro e w60 ⟨rfl,hi,hb,hk⟩;refine⟨_,rfl,?_⟩;replace bl:=A_ (Kd.R_mono (Kd.R_keep (Jp.apart (show Jp w0 _ g ah wo from ct) (uf2_ bl) (by decide)) hk (fun _ h=>h.2)) (fun _ h=>h.1));replace ch:=A_ (Kd.S_mono (Kd.S_keep (Jp.apartS (show Jp w0 _ g ah wo from ct) (uf3_ ch) (by decide)) hk (fun _ h=>h.2)) (fun _ h=>h.1));replace cl:=A_ (Kd.Q_mono (Kd.Q_keep (Jp.apartQ (show Jp w0 _ g ah wo from ct) (uf6_ cl) (by decide)) hk (fun _ h=>h.2)) (fun _ h=>h.1));replace cv:=kb_ hk cv u2;replace a7:=kb_ hk a7 u4;replace HK:=A_ (Jb.trans (fj) hk (.inl rfl));replace HB:=A_ (hb);replace HI0:=A_ (hi);have np2:=cd7.out;have np3:=ab1.out;have hs2:=u4.out;have hs3:=cp5.out;obtain⟨fj1,fj2,js6,fj3,fj4,js7⟩:=blk3_ a7;have p58:0<=(0:Int):=(by omega);have q58:(0:Int) < ((cx.length:Int):Int):=od_;have qi58:(0 < cx.length)=True:=eq_true (by omega);obtain⟨ab2,al3,ih8,ih9,gl58,cl58,HG58⟩:=Kd.R_form bl.out (by omega);(first|cases ih8|(injection ih8 with ea_ en_ ec_;(first|subst ea_|(injection ea_ with ea_;subst ea_));subst ec_;clear en_));have GB58:=A_ ih9;have GG58:=A_ HG58;clear ih9 gl58 HG58;obtain⟨ii0,hf58_0⟩:=Kd.R_celln 0 bl.out (0:Int) p58 q58;(try rw[show((0:Int)).toNat=0 from rfl] at ii0);(try simp only[Nat.reduceMul,Nat.zero_mul,Nat.zero_add,Nat.reduceAdd] at ii0);(try rw[show((0:Int)).toNat=0 from rfl] at hf58_0);(try simp only[Nat.reduceMul,Nat.zero_mul,Nat.zero_add,Nat.reduceAdd] at hf58_0);replace p58:=eq_true p58;replace q58:=eq_true q58;obtain⟨hy64_,hz64_⟩:=Kd.R_celln 0 bl.out (0:Int) (by omega) (od_);(try simp only[Int.reduceToNat,Int.toNat_zero,Int.toNat_ofNat,Nat.reduceMul,Nat.zero_mul,Nat.zero_add] at hy64_ hz64_);(try rw[show((0:Int)).toNat=0 from rfl] at hy64_);(try rw[show((0:Int)).toNat=0 from rfl] at hz64_);have HP64:=Kd.R_putg bl.out (0:Int) (-1))|((with_reducible refine gate_store (t:=3) (p:=39) rfl ?_);refine store_event (t:=3) (p:=39) (v:=?vo_w65) (w1:=(w60.setCell ⟨ab2,(0:Int).toNat,none⟩ (.int .i64 (-1)))) ?hg ?ho ?hn ?hr ?_;(case ho=>rfl);(case hg=>rfl);(case hn=>rfl);(case hr=>first|(go_simp;done)|(go_simp;rfl));intro w65 hw;have hg:w60.grownBy w65 (some ab2):=(by rw[hw];exact HP64.2);have hp_:Kd.R (Kd.int .i64) 3 w65 w.heap.size (fun _=>True) (.slice (some ⟨ab2,0,none⟩) cx.length al3) ih7:=(by rw[hw,lf5.out];exact HP64.1);clear HP64;replace ch:=A_ (Kd.S_after (v:=(.slice (some ⟨ab2,0,none⟩) cx.length al3)) (v1:=(.slice (some ⟨ab2,0,none⟩) cx.length al3)) (ok:=(fun _=>True)) (by(with_reducible repeat(first|apply Kd.S_alloc|apply Kd.S_drewN|apply Kd.S_drew));exact Kd.S_mono ch.out (fun _ hk=>⟨trivial,hk⟩)) hg (.inl rfl));replace cl:=A_ (Kd.Q_after (v:=(.slice (some ⟨ab2,0,none⟩) cx.length al3)) (v1:=(.slice (some ⟨ab2,0,none⟩) cx.length al3)) (ok:=(fun k_=>some k_≠(ax3:Value).ownBlock)) (by(with_reducible repeat(first|apply Kd.Q_alloc|apply Kd.Q_drewN|apply Kd.Q_drew));exact Kd.Q_mono cl.out (fun _ hk=>⟨hk.2,hk.1⟩)) hg (.inl rfl));replace cv:=(bg_ cv hg (Kd.R_ne bl.out cv.out (by decide)));replace a7:=(bg_ a7 hg (Kd.R_ne bl.out a7.out (by decide)));replace HI0:=A_ (Jp.grown (ct) hg (Jp.own_ne HI0.out bl.out (by decide)));replace HB:=A_ ((by rw[hw];exact G1 (HB.out) (Nat.le_trans HL.out GB58.out):Below w0.heap.size w0 w65));replace HK:=A_ (Jb.trans (fj) (Jb.of_grown hg g) (Kd.R_base2 bl.out));replace bl:=A_ (hp_);clear hg hw hp_;obtain⟨hs4,hs5,hs6,hs7,hs8,ht1⟩:=blk3_ a7;have gw5:=u2.out;have gw6:=dn1.out;obtain⟨ea6,ea7,ea8,ea9,eb0,eb1⟩:=blk3_ cv;obtain⟨b8,b9,fx8⟩:=Kd.S_slice ch.out;subst fx8;obtain⟨df,dg,fx9,_⟩:=Kd.Q_slice cl.out;subst fx9))
   refine bodyPost_ret (results_cell_row rfl _ _ fg 28 #[.slice (some ⟨ab2,0,none⟩) cx.length al3, .slice b8 d9.length b9, .slice df fi.length dg] (0,0) _ rfl (ba_ cv) Try.underlying28 rfl (g1_)) rfl ?_
   exact⟨_,_,_,g4_,ra_ bl,sa_ ch,qa_ cl,ct,i9,fj⟩
  rw[if_neg c56] at H
  have lf3:(ag2 == 0)=false:=beq_eq_false_iff_ne.mpr c56
  have lf4:(ag2 != 0)=true:=bne_iff_ne.mpr c56
  by_cases uo:ag2=1
  case neg=>
   rw[if_neg uo] at H
   have cd8:(ag2 == 1)=false:=beq_eq_false_iff_ne.mpr uo
   have fy0:(ag2 != 1)=true:=bne_iff_ne.mpr uo
   simp only[Option.some.injEq,Prod.mk.injEq] at H
   obtain⟨rfl,rfl,rfl,rfl⟩:=H
   go_wp2_with (first|((with_reducible refine gc_ 106 ?_);refine gl_ 30 Try.func106 #[.pointer (some ⟨g,0,none⟩), .int .i64 a1] ?_;(refine(F7.calls k1 g ah f5 a1 true wo w0 _ ct i9 A53.out).mono ?_);rintro e w90 ⟨rfl,hi,hb,hk⟩;refine⟨_,rfl,?_⟩;replace bl:=A_ (Kd.R_mono (Kd.R_keep (Jp.apart (show Jp w0 _ g ah f5 from ct) (uf2_ bl) (by decide)) hk (fun _ h=>h.2)) (fun _ h=>h.1));replace ch:=A_ (Kd.S_mono (Kd.S_keep (Jp.apartS (show Jp w0 _ g ah f5 from ct) (uf3_ ch) (by decide)) hk (fun _ h=>h.2)) (fun _ h=>h.1));replace cl:=A_ (Kd.Q_mono (Kd.Q_keep (Jp.apartQ (show Jp w0 _ g ah f5 from ct) (uf6_ cl) (by decide)) hk (fun _ h=>h.2)) (fun _ h=>h.1));replace cv:=kb_ hk cv u2;replace a7:=kb_ hk a7 u4;replace HK:=A_ (Jb.trans (fj) hk (.inl rfl));replace HB:=A_ (hb);replace HI0:=A_ (hi))|((with_reducible refine gc_ 70 ?_);refine gl_ 32 Try.func70 #[.pointer (some ⟨g,0,none⟩), .int .i64 3] ?_;(refine(Fa.calls k1 g ah wo 3 ag2 cp9 w0 _ ct i9 A55.out).mono ?_);rintro e w91 ⟨rfl,hi,hb,hk⟩;refine⟨_,rfl,?_⟩;replace bl:=A_ (Kd.R_mono (Kd.R_keep (Jp.apart (show Jp w0 _ g ah wo from ct) (uf2_ bl) (by decide)) hk (fun _ h=>h.2)) (fun _ h=>h.1));replace ch:=A_ (Kd.S_mono (Kd.S_keep (Jp.apartS (show Jp w0 _ g ah wo from ct) (uf3_ ch) (by decide)) hk (fun _ h=>h.2)) (fun _ h=>h.1));replace cl:=A_ (Kd.Q_mono (Kd.Q_keep (Jp.apartQ (show Jp w0 _ g ah wo from ct) (uf6_ cl) (by decide)) hk (fun _ h=>h.2)) (fun _ h=>h.1));replace cv:=kb_ hk cv u2;replace a7:=kb_ hk a7 u4;replace HK:=A_ (Jb.trans (fj) hk (.inl rfl));replace HB:=A_ (hb);replace HI0:=A_ (hi);have kl2:=ab1.out;have kl3:=cd7.out;have fl0:=u2.out;have fl1:=dn1.out;obtain⟨kl4,kl5,nr0,kl6,kl7,nr1⟩:=blk3_ cv))
   refine bodyPost_ret (results_cell_row rfl _ _ fg 28 #[.slice none 0 0, .slice none 0 0, .slice none 0 0] (0,0) _ rfl (ba_ cv) Try.underlying28 rfl (g1_)) rfl ?_
   exact⟨_,_,_,g4_,g18_,g24_,Kd.Q_of_R (g18_),ct,i9,fj⟩
  rw[if_pos uo] at H
  have cd8:(ag2 == 1)=true:=beq_iff_eq.mpr uo
  have fy0:(ag2 != 1)=false:=bne_eq_false_iff_eq.mpr uo
  clear uo
  obtain⟨c72,H⟩:=pos_ H
  have np4:=eq_true c72
  have np5:=decide_eq_true c72
  clear c72
  obtain⟨dn3,hyq⟩:∃y_:List Int,y_=(List.replicate 5 0):=⟨_,rfl⟩
  replace H:(if fi.length < 2932031007402 then(some (cx,d9,(fi ++ [(⟨dn3,([]:List (List Int))⟩:S25)]),cp9)) else(none))=some (r1,r2,r3,r4):=qh_
  have ii1:=A_ hyq
  clear hyq
  obtain⟨c73,H⟩:=pos_ H
  have lf6:=A_ c73
  clear c73
  obtain⟨bq3,hyq⟩:∃y_:List (S25),y_=(fi ++ [(⟨dn3,([]:List (List Int))⟩:S25)]):=⟨_,rfl⟩
  replace H:(some (cx,d9,bq3,cp9))=some (r1,r2,r3,r4):=qh_
  have lf7:=A_ hyq
  clear hyq
  simp only[Option.some.injEq,Prod.mk.injEq] at H
  obtain⟨rfl,rfl,rfl,rfl⟩:=H
  try go_wp2_with (first|((with_reducible refine gc_ 106 ?_);refine gl_ 30 Try.func106 #[.pointer (some ⟨g,0,none⟩), .int .i64 a1] ?_;(refine(F7.calls k1 g ah f5 a1 true wo w0 _ ct i9 A53.out).mono ?_);rintro e w74 ⟨rfl,hi,hb,hk⟩;refine⟨_,rfl,?_⟩;replace bl:=A_ (Kd.R_mono (Kd.R_keep (Jp.apart (show Jp w0 _ g ah f5 from ct) (uf2_ bl) (by decide)) hk (fun _ h=>h.2)) (fun _ h=>h.1));replace ch:=A_ (Kd.S_mono (Kd.S_keep (Jp.apartS (show Jp w0 _ g ah f5 from ct) (uf3_ ch) (by decide)) hk (fun _ h=>h.2)) (fun _ h=>h.1));replace cl:=A_ (Kd.Q_mono (Kd.Q_keep (Jp.apartQ (show Jp w0 _ g ah f5 from ct) (uf6_ cl) (by decide)) hk (fun _ h=>h.2)) (fun _ h=>h.1));replace cv:=kb_ hk cv u2;replace a7:=kb_ hk a7 u4;replace HK:=A_ (Jb.trans (fj) hk (.inl rfl));replace HB:=A_ (hb);replace HI0:=A_ (hi))|((with_reducible refine gc_ 70 ?_);refine gl_ 32 Try.func70 #[.pointer (some ⟨g,0,none⟩), .int .i64 3] ?_;(refine(Fa.calls k1 g ah wo 3 ag2 cp9 w0 _ ct i9 A55.out).mono ?_);rintro e w75 ⟨rfl,hi,hb,hk⟩;refine⟨_,rfl,?_⟩;replace bl:=A_ (Kd.R_mono (Kd.R_keep (Jp.apart (show Jp w0 _ g ah wo from ct) (uf2_ bl) (by decide)) hk (fun _ h=>h.2)) (fun _ h=>h.1));replace ch:=A_ (Kd.S_mono (Kd.S_keep (Jp.apartS (show Jp w0 _ g ah wo from ct) (uf3_ ch) (by decide)) hk (fun _ h=>h.2)) (fun _ h=>h.1));replace cl:=A_ (Kd.Q_mono (Kd.Q_keep (Jp.apartQ (show Jp w0 _ g ah wo from ct) (uf6_ cl) (by decide)) hk (fun _ h=>h.2)) (fun _ h=>h.1));replace cv:=kb_ hk cv u2;replace a7:=kb_ hk a7 u4;replace HK:=A_ (Jb.trans (fj) hk (.inl rfl));replace HB:=A_ (hb);replace HI0:=A_ (hi)))
  replace bl:=rd_ bl
  replace ch:=sd_ ch
  replace cl:=qd_ cl
  replace cv:=bd_ cv
  replace a7:=bd_ a7
  replace HI0:=A_ (Jp.drew HI0.out)
  replace HK:=A_ (Jk HK.out)
  replace HB:=A_ (G2 HB.out)
  refine start_ (n:=8) (S:=fun w'=>w'.cell? ⟨d8,0,none⟩=some (bg5)/\w'.cell? ⟨d8,1,none⟩=some (ax3)/\w'.cell? ⟨d8,2,none⟩=some (bg6)) (ds:=[7]) (tl_ 8 0) (g1_) rfl (g1_) ⟨(Gz a7.out 0).trans rfl,(Gz a7.out 1).trans rfl,(Gz a7.out 2).trans rfl⟩ (fun hHeld=>?_);refine Jm Ft.tab14 Ft.bits14 (fun HT_ HW_=>?_)
  generalize w75.drew=w76 at bl ch cl cv a7 HI0 HK HB hHeld |-
  refine pw_ 0 42 (tl_ 8 1) ?_
  refine tk3_ 1 43 (tl_ 8 3) hHeld ?_
  refine one_ (i:=2) (N:=some 44) (tl_ 8 7) rfl rfl (Jo HT_.out (g1_)) (by decide) (fun K hK=>?_)
  refine Kd.R_make_step (Kd.int .i64) _ 3 (by rfl) (N:=44) rfl 22 _ _ rfl 5 rfl rfl Try.underlying22 (.int .i64 0) 8 info3 rfl (by decide) (by omega) 0 (ok:=fun _=>True) (okp:=fun _=>True) rfl (fun _ hk=>hk) trivial (by omega) (by omega) (Below.refl _ _) (Nat.le_refl _) ?_
  intro np6 w77 bq4 hb hg_ hnew_
  clear hg_ hnew_
  (first|rw[<- ii1.out] at bq4|(simp only[Int.reduceToNat] at bq4;rw[<- ii1.out] at bq4))
  replace ch:=A_ (Kd.S_elder' (uf3_ ch) (Kd.R_base bq4) hb)
  replace cl:=A_ (Kd.Q_elder' (uf6_ cl) (Kd.R_base bq4) hb)
  have fy1:=A_ (Kd.R_lower (Kd.R_new' bq4 (Kd.R_lt (uf2_ bl))) (Ji (w:=w) (g:=g) (row:=none) (fj)))
  replace bl:=A_ (Kd.R_elder' (uf2_ bl) (Kd.R_base bq4) hb)
  replace cv:=bb_ cv hb
  replace a7:=bb_ a7 hb
  replace HK:=kt_ (fj) hb
  replace HB:=hs_ (i9) hb
  replace HI0:=A_ (Jp.below (ct) hb)
  clear hb bq4
  obtain⟨jm,jj,cc4⟩:=Kd.R_slice fy1.out
  (first|subst cc4|(injection cc4 with f1_ f2_ f3_;have f4_:=f1_.symm;have f5_:=f3_.symm;clear f1_ f2_ f3_;subst f4_;subst f5_))
  refine hK.out _ _ ⟨(Gz a7.out 0).trans rfl,(Gz a7.out 1).trans rfl,(Gz a7.out 2).trans rfl⟩ (fun hHeld=>?_)
  clear hK K
  refine nm_ ?_
  refine pw_ 3 45 (tl_ 8 15) ?_
  refine one_ (i:=4) (N:=some 46) (tl_ 8 31) rfl rfl (Jo HT_.out (g1_)) (by decide) (fun K hK=>?_)
  refine value_ (w1:=?_) (v:=?_) (by rfl) rfl ?_ ?_
  rotate_left 2
  ·go_simp
   constructor
   ·rfl
   rfl
  refine hK.out _ _ ⟨(Gz (G5 a7.out _) 0).trans rfl,(Gz (G5 a7.out _) 1).trans rfl,(Gz (G5 a7.out _) 2).trans rfl⟩ (fun hHeld=>?_)
  clear hK K
  refine nm_ ?_
  refine one_ (i:=5) (N:=some 47) (tl_ 8 63) rfl rfl (Jo HT_.out (g1_)) (by decide) (fun K hK=>?_)
  refine Kd.Q_append_step k25 w.heap.size (by rfl) (.tmp 43) (.tmp 46) 26 25 (.agg #[(.slice none 0 0),(.slice none 0 0)]) 48 rfl Try.underlying26 info25 rfl (by decide) (by omega) bg6 fi (⟨dn3,([]:List (List Int))⟩:S25) [.slice jm dn3.length jj, .slice none 0 0] (fun k_=>some k_≠(bg5:Value).ownBlock/\some k_≠(ax3:Value).ownBlock) (fun k_=>((fun k_=>some k_≠(bg5:Value).ownBlock/\some k_≠(ax3:Value).ownBlock)) k_/\some k_≠(bg6:Value).ownBlock) rfl rfl ?aP (fun _ hk=>hk) ?aF ?aO (Below.refl _ _) ?aS ?aL ?_
  (case aP=>exact k25_mkM _ _ _ (⟨dn3,([]:List (List Int))⟩:S25) (Kd.R_mono (Kd.R_apart' (Kd.R_apart' (fy1.out) (Kd.S_typed ch.out) (by decide)) (Kd.Q_typed cl.out) (by decide)) (fun k_ hk=>⟨⟨hk.1.1.2,hk.1.2⟩,hk.2⟩)) (Kd.R_nil _ _ _ _ _))
  (case aF=>exact(fun k_ hk=>⟨Kd.fresh' (Kd.R_lt (uf2_ bl)) k_ hk,Kd.fresh' (Kd.S_lt (uf3_ ch)) k_ hk⟩))
  (case aO=>exact(by(with_reducible repeat(first|apply Kd.Q_alloc|apply Kd.Q_drewN|apply Kd.Q_drew));exact Kd.Q_mono cl.out (fun _ hk=>⟨hk.1.1,hk.1.2⟩)))
  (case aS=>exact(Ji (w:=w) (g:=g) (row:=none) (fj)))
  (case aL=>have:=lf6.out;omega)
  intro np7 w80 ho hb hg hat
  rw[<- lf7.out] at ho
  replace bl:=A_ (Kd.R_over' (uf2_ bl) (Kd.Q_typed (uf6_ cl)) (by decide) hg)
  replace ch:=A_ (Kd.S_over' (uf3_ ch) (Kd.Q_typed (uf6_ cl)) (by decide) hg)
  replace cv:=(bg_ cv hg (Kd.Q_ne cl.out cv.out (by decide)))
  replace a7:=(bg_ a7 hg (Kd.Q_ne cl.out a7.out (by decide)))
  replace HB:=A_ (below_weaken (i9) HL.out hb)
  replace HI0:=A_ (Jp.grown (ct) hg (Jp.own_neQ HI0.out cl.out (by decide)))
  replace HK:=A_ (Jb.trans (fj) (Jb.of_grown hg g) (Kd.Q_base2 cl.out))
  have ii2:=A_ (ho)
  clear cl fy1
  clear ho hb hg hat
  obtain⟨cd9,ce0,ii3,_⟩:=Kd.Q_slice ii2.out
  (first|subst ii3|(injection ii3 with f1_ f2_ f3_;have f4_:=f1_.symm;have f5_:=f3_.symm;clear f1_ f2_ f3_;subst f4_;subst f5_))
  refine hK.out _ _ ⟨(Gz a7.out 0).trans rfl,(Gz a7.out 1).trans rfl,(Gz a7.out 2).trans rfl⟩ (fun hHeld=>?_)
  clear hK K
  refine nm_ ?_
  refine pw_ 6 48 (tl_ 8 127) ?_
  refine last_ (i:=7) (N:=none) (tl_ 8 255) rfl rfl (Jo HT_.out (g1_)) (by decide) (fun K hK=>?_)
  have np8:w80.cell? ⟨d8,2,none⟩=some (bg6):=(Gz a7.out 2).trans rfl
  have np9:=G8 a7.out 2
  have nq0:=ab1.out
  have nq1:=cd7.out
  refine skip_ (w1:=?_) (by rfl) rfl ?_ ?_
  rotate_left
  ·go_simp
   rfl
  refine hK.out _ _ ?_
  clear hK K
  refine done_ (done_of HT_.out (g1_)) ?_
  have jj9:=u4.out
  have jk0:=cp5.out
  obtain⟨gx3,gx4,gx5,gx6,gx7,gx8⟩:=blk3_ a7
  obtain⟨cq0,cq1,lf8⟩:=Kd.R_slice bl.out
  subst lf8
  have nq2:=u2.out
  have nq3:=dn1.out
  obtain⟨nq4,nq5,nq6,nq7,nq8,nq9⟩:=blk3_ cv
  obtain⟨xl,xm,cm1⟩:=Kd.S_slice ch.out
  subst cm1
  try go_wp2
  refine bodyPost_ret (results_cell_row rfl _ _ fg 28 #[.slice cq0 cx.length cq1, .slice xl d9.length xm, .slice cd9 bq3.length ce0] (0,0) _ rfl (ba_ cv) Try.underlying28 rfl (g1_)) rfl ?_
  exact⟨_,_,_,g4_,ra_ bl,sa_ ch,qa_ ii2,ct,i9,fj⟩
 rw[if_pos hz] at H
 have vf:=decide_eq_true hz
 clear hz
 replace H:=Option.bind_eq_some_iff.mp H
 obtain⟨⟨tw,tx,ty,tz,t1⟩,ig9,H⟩:=H
 try dsimp only at H
 have A15:=A_ ig9
 clear ig9
 replace H:=Option.bind_eq_some_iff.mp H
 obtain⟨⟨pl,ql,qz,lf0⟩,bv8,H⟩:=H
 try dsimp only at H
 have A16:=A_ bv8
 clear bv8
 by_cases f7:lf0=true
 ·subst f7
  replace H:=ifp_ H
  have H':=A_ H
  clear H
  obtain⟨az,ay,az9⟩:=Kd.R_slice bl.out
  subst az9
  obtain⟨g3,gf,sn⟩:=Kd.S_slice ch.out
  subst sn
  obtain⟨jc,gv,ux,_⟩:=Kd.Q_slice cl.out
  subst ux
  try go_wp2
  replace bl:=rd_ bl
  replace ch:=sd_ ch
  replace cl:=qd_ cl
  replace cv:=bd_ cv
  replace a7:=bd_ a7
  replace HI0:=A_ (Jp.drew HI0.out)
  replace HK:=A_ (Jk HK.out)
  replace HB:=A_ (G2 HB.out)
  refine start_ (n:=11) (S:=fun w'=>w'.cell? ⟨d8,0,none⟩=some (.slice az cx.length ay)/\w'.cell? ⟨d8,1,none⟩=some (.slice g3 d9.length gf)/\w'.cell? ⟨d8,2,none⟩=some (.slice jc fi.length gv)) (ds:=[]) (tl_ 11 0) (g1_) rfl (g1_) ⟨(Gz a7.out 0).trans rfl,(Gz a7.out 1).trans rfl,(Gz a7.out 2).trans rfl⟩ (fun hHeld=>?_);refine Jm Ft.tab5 Ft.bits5 (fun HT_ HW_=>?_)
  generalize wr.drew=j5 at bl ch cl cv a7 HI0 HK HB hHeld |-
  refine pw_ 1 20 (tl_ 11 2) ?_
  refine tk3_ 0 19 (tl_ 11 3) hHeld ?_
  refine tk3_ 2 21 (tl_ 11 7) hHeld ?_
  refine join_ (σ:=Value × Value × Value × Nat) 2 (tl_ 11 511) (fun s_=>[(22, .agg #[.int .i64 tw, .int .i64 tx, .int .i64 ty, .int .i64 tz]),(23, .tuple #[.agg #[s_.1,s_.2.1,s_.2.2.1], .bool true]),(7, .pointer (some ⟨s_.2.2.2,0,none⟩)),(18, .tuple #[.agg #[s_.1,s_.2.1,s_.2.2.1], .bool true]),(24, .agg #[s_.1,s_.2.1,s_.2.2.1]),(25, .bool true)]) (fun s_ w'=>(w'.cell? ⟨d8,0,none⟩=some (.slice az cx.length ay)/\w'.cell? ⟨d8,1,none⟩=some (.slice g3 d9.length gf)/\w'.cell? ⟨d8,2,none⟩=some (.slice jc fi.length gv))/\(Kd.R (Kd.int .i64) 3 w' w.heap.size (fun k_=>some k_≠(.slice az cx.length ay:Value).ownBlock) s_.1 pl)/\(Kd.S (Kd.slice 3 (Kd.int .i64)) 22 w' w.heap.size (fun k_=>some k_≠(s_.1:Value).ownBlock/\some k_≠(.slice az cx.length ay:Value).ownBlock/\some k_≠(.slice g3 d9.length gf:Value).ownBlock) s_.2.1 ql)/\(Kd.Q k25 25 w' w.heap.size (fun k_=>some k_≠(s_.1:Value).ownBlock/\some k_≠(s_.2.1:Value).ownBlock/\some k_≠(.slice az cx.length ay:Value).ownBlock/\some k_≠(.slice g3 d9.length gf:Value).ownBlock/\some k_≠(.slice jc fi.length gv:Value).ownBlock) s_.2.2.1 qz)/\(Kd.R (Kd.int .i64) 3 w' w.heap.size (fun k_=>some k_≠(s_.1:Value).ownBlock) (.slice az cx.length ay) cx)/\(Kd.S (Kd.slice 3 (Kd.int .i64)) 22 w' w.heap.size (fun k_=>some k_≠(s_.1:Value).ownBlock/\some k_≠(s_.2.1:Value).ownBlock/\some k_≠(.slice az cx.length ay:Value).ownBlock) (.slice g3 d9.length gf) d9)/\(Kd.Q k25 25 w' w.heap.size (fun k_=>some k_≠(s_.1:Value).ownBlock/\some k_≠(s_.2.1:Value).ownBlock/\some k_≠(s_.2.2.1:Value).ownBlock/\some k_≠(.slice az cx.length ay:Value).ownBlock/\some k_≠(.slice g3 d9.length gf:Value).ownBlock) (.slice jc fi.length gv) fi)/\(hc_ w' fg #[.slice none 0 0, .slice none 0 0, .slice none 0 0] 28)/\(hc_ w' d8 #[.slice az cx.length ay, .slice g3 d9.length gf, .slice jc fi.length gv] 28)/\(hc_ w' s_.2.2.2 #[.slice none 0 0, .slice none 0 0, .slice none 0 0] 28)/\(w.heap.size<=s_.2.2.2)/\(w0.heap.size<=s_.2.2.2)/\(g≠s_.2.2.2)/\(s_.2.2.2≠g)/\(fg≠s_.2.2.2)/\(s_.2.2.2≠fg)/\(d8≠s_.2.2.2)/\(s_.2.2.2≠d8)/\(Jp w0 w' g ah t1)/\(Jb w w' g none)/\(Below w0.heap.size w0 w')) ?_ ?_
  rotate_left
  ·intro hCont
   refine two_ (i:=3) (j:=8) (Ni:=some 22) (Nj:=some 7) (tl_ 11 15) (tl_ 11 263) rfl rfl rfl rfl (two_of HT_.out (g1_)) (by decide) (by decide) (fun K hK=>?_) (fun K hK=>?_)
   ·skip
    refine goes_ Try.func103 (g1_) rfl #[.pointer (some ⟨g,0,none⟩), .agg #[.slice az cx.length ay, .slice g3 d9.length gf, .slice jc fi.length gv]] (by rfl) rfl rfl (g3_) ?_
    refine(Fh.calls k1 g ah f5 _ _ cx _ _ d9 _ _ fi tw tx ty tz t1 w0 _ ct i9 (cR_ bl) (lR_ bl) (far_slice (Jp.own_ne HI0.out bl.out (by decide))) (Kd.C_foot_own ((Kd.S_R (Jp.apartS (show Jp w0 _ g ah f5 from ct) (uf3_ ch) (by decide)))) (fun _ h_=>h_.2)) (lS_ ch) (Kd.C_foot_ownQ (Jp.apartQ (show Jp w0 _ g ah f5 from ct) (uf6_ cl) (by decide)) (fun _ h_=>h_.2)) (lQ_ cl) A15.out).mono ?_
    rintro e ug ⟨rfl,hi,hb,hk⟩
    refine⟨_,rfl,?_⟩
    replace bl:=A_ (Kd.R_mono (Kd.R_keep (Jp.apart (show Jp w0 _ g ah f5 from ct) (uf2_ bl) (by decide)) hk (fun _ h=>h.2)) (fun _ h=>h.1))
    replace ch:=A_ (Kd.S_mono (Kd.S_keep (Jp.apartS (show Jp w0 _ g ah f5 from ct) (uf3_ ch) (by decide)) hk (fun _ h=>h.2)) (fun _ h=>h.1))
    replace cl:=A_ (Kd.Q_mono (Kd.Q_keep (Jp.apartQ (show Jp w0 _ g ah f5 from ct) (uf6_ cl) (by decide)) hk (fun _ h=>h.2)) (fun _ h=>h.1))
    replace cv:=kb_ hk cv u2
    replace a7:=kb_ hk a7 u4
    replace HK:=A_ (Jb.trans (fj) hk (.inl rfl))
    replace HB:=A_ (hb)
    replace HI0:=A_ (hi)
    refine hK.out _ _ ⟨(Gz a7.out 0).trans rfl,(Gz a7.out 1).trans rfl,(Gz a7.out 2).trans rfl⟩ (fun hHeld=>?_)
    clear hK K
    refine nm_ ?_
    refine two_ (i:=4) (j:=8) (Ni:=some 23) (Nj:=some 7) (tl_ 11 31) (tl_ 11 271) rfl rfl rfl rfl (two_of HT_.out (g1_)) (by decide) (by decide) (fun K hK=>?_) (fun K hK=>?_)
    ·skip
     refine goes_ Try.func54 (g1_) rfl #[.agg #[.slice az cx.length ay, .slice g3 d9.length gf, .slice jc fi.length gv], .agg #[.int .i64 tw, .int .i64 tx, .int .i64 ty, .int .i64 tz]] (by rfl) rfl rfl (g3_) ?_
     refine(Gg.calls k1 _ _ cx _ _ d9 _ _ fi tw tx ty tz pl ql qz true _ (cR_ bl) (lR_ bl) (cS_ ch) (lS_ ch) (cQ_ cl) (lQ_ cl) A16.out).mono ?_
     rintro e w23 ⟨op,q8,u6,rfl,aj,ar,ef,hb⟩
     refine⟨_,rfl,?_⟩
     have ye:=A_ (Kd.R_lower (Kd.R_new' aj (Kd.R_lt (uf2_ bl))) (Ji (w:=w) (g:=g) (row:=none) (fj)))
     have yf:=A_ (Kd.S_lower (Kd.S_new' (Kd.S_new' ar (Kd.R_lt (uf2_ bl))) (Kd.S_lt (uf3_ ch))) (Ji (w:=w) (g:=g) (row:=none) (fj)))
     have yg:=A_ (Kd.Q_lower (Kd.Q_new' (Kd.Q_new' (Kd.Q_new' ef (Kd.R_lt (uf2_ bl))) (Kd.S_lt (uf3_ ch))) (Kd.Q_lt (uf6_ cl))) (Ji (w:=w) (g:=g) (row:=none) (fj)))
     replace bl:=A_ (Kd.R_elder' (uf2_ bl) (Kd.R_base aj) hb)
     replace ch:=A_ (Kd.S_mono (Kd.S_told (Kd.S_told (Kd.S_old (uf3_ ch) hb) (Kd.R_base aj)) (Kd.S_base ar)) (fun _ h_=>h_.1))
     replace cl:=A_ (Kd.Q_mono (Kd.Q_told (Kd.Q_told (Kd.Q_told (Kd.Q_old (uf6_ cl) hb) (Kd.R_base aj)) (Kd.S_base ar)) (Kd.Q_base ef)) (fun _ h_=>h_.1))
     replace cv:=bb_ cv hb
     replace a7:=bb_ a7 hb
     replace HK:=kt_ (fj) hb
     replace HB:=hs_ (i9) hb
     replace HI0:=A_ (Jp.below (ct) hb)
     refine hK.out _ _ ⟨(Gz a7.out 0).trans rfl,(Gz a7.out 1).trans rfl,(Gz a7.out 2).trans rfl⟩ (fun hHeld=>?_)
     clear hK K
     refine nm_ ?_
     refine pw_ 5 18 (tl_ 11 63) ?_
     refine pw_ 6 24 (tl_ 11 127) ?_
     refine pw_ 7 25 (tl_ 11 255) ?_
     refine one_ (i:=8) (N:=some 7) (tl_ 11 511) rfl rfl (Jo HT_.out (g1_)) (by decide) (fun K hK=>?_)
     refine bs_ (N:=7) #[.slice none 0 0, .slice none 0 0, .slice none 0 0] 28 ?_
     intro cc hg w24 hbox hb
     replace bl:=rb_ bl hb
     replace ch:=sb_ ch hb
     replace cl:=qb_ cl hb
     replace ye:=rb_ ye hb
     replace yf:=sb_ yf hb
     replace yg:=qb_ yg hb
     replace HB:=hs_ (i9) hb
     have iy:=A_ (hbox)
     have aa9:=A_ ((g17_:w.heap.size<=cc))
     have ab0:=A_ (Nat.le_trans HW0.out aa9.out)
     replace HK:=kt_ (fj) hb
     have n4:=A_ ((g51_:fg≠cc))
     have sd:=A_ ((g52_:cc≠fg))
     replace cv:=bb_ cv hb
     have iz:=A_ ((g158_:d8≠cc))
     have se:=A_ ((g159_:cc≠d8))
     replace a7:=bb_ a7 hb
     have yd:=A_ ((by rw[hg];exact Nat.ne_of_lt (Jp.lt (show Jp w0 _ g ah t1 from ct)):g≠cc))
     have wn:=A_ ((by rw[hg];exact Nat.ne_of_gt (Jp.lt (show Jp w0 _ g ah t1 from ct)):cc≠g))
     replace HI0:=A_ (Jp.below (ct) hb)
     clear hb hbox hg
     refine hK.out _ _ ⟨(Gz a7.out 0).trans rfl,(Gz a7.out 1).trans rfl,(Gz a7.out 2).trans rfl⟩ (fun hHeld=>?_)
     clear hK K
     refine nm_ ?_
     exact norm_ (g19_) (hCont (op,q8,u6,cc) _ ⟨hHeld,(g77_),(g78_),(g79_),(g80_),(g81_),(g82_),(uf0_ cv),(uf0_ a7),(uf0_ iy),aa9.out,ab0.out,yd.out,wn.out,n4.out,sd.out,iz.out,se.out,(ct),(fj),(i9)⟩)
    skip
    refine bs_ (N:=7) #[.slice none 0 0, .slice none 0 0, .slice none 0 0] 28 ?_
    intro cc hg w23 hbox hb
    replace bl:=rb_ bl hb
    replace ch:=sb_ ch hb
    replace cl:=qb_ cl hb
    replace HB:=hs_ (i9) hb
    have iy:=A_ (hbox)
    have aa9:=A_ ((g17_:w.heap.size<=cc))
    have ab0:=A_ (Nat.le_trans HW0.out aa9.out)
    replace HK:=kt_ (fj) hb
    have n4:=A_ ((g51_:fg≠cc))
    have sd:=A_ ((g52_:cc≠fg))
    replace cv:=bb_ cv hb
    have iz:=A_ ((g158_:d8≠cc))
    have se:=A_ ((g159_:cc≠d8))
    replace a7:=bb_ a7 hb
    have yd:=A_ ((by rw[hg];exact Nat.ne_of_lt (Jp.lt (show Jp w0 _ g ah t1 from ct)):g≠cc))
    have wn:=A_ ((by rw[hg];exact Nat.ne_of_gt (Jp.lt (show Jp w0 _ g ah t1 from ct)):cc≠g))
    replace HI0:=A_ (Jp.below (ct) hb)
    clear hb hbox hg
    refine hK.out _ _ ⟨(Gz a7.out 0).trans rfl,(Gz a7.out 1).trans rfl,(Gz a7.out 2).trans rfl⟩ (fun hHeld=>?_)
    clear hK K
    refine nm_ ?_
    refine one_ (i:=4) (N:=some 23) (tl_ 11 287) rfl rfl (Jo HT_.out (g1_)) (by decide) (fun K hK=>?_)
    refine goes_ Try.func54 (g1_) rfl #[.agg #[.slice az cx.length ay, .slice g3 d9.length gf, .slice jc fi.length gv], .agg #[.int .i64 tw, .int .i64 tx, .int .i64 ty, .int .i64 tz]] (by rfl) rfl rfl (g3_) ?_
    refine(Gg.calls k1 _ _ cx _ _ d9 _ _ fi tw tx ty tz pl ql qz true _ (cR_ bl) (lR_ bl) (cS_ ch) (lS_ ch) (cQ_ cl) (lQ_ cl) A16.out).mono ?_
    rintro e w24 ⟨op,q8,u6,rfl,aj,ar,ef,hb⟩
    refine⟨_,rfl,?_⟩
    have ye:=A_ (Kd.R_lower (Kd.R_new' aj (Kd.R_lt (uf2_ bl))) (Ji (w:=w) (g:=g) (row:=none) (fj)))
    have yf:=A_ (Kd.S_lower (Kd.S_new' (Kd.S_new' ar (Kd.R_lt (uf2_ bl))) (Kd.S_lt (uf3_ ch))) (Ji (w:=w) (g:=g) (row:=none) (fj)))
    have yg:=A_ (Kd.Q_lower (Kd.Q_new' (Kd.Q_new' (Kd.Q_new' ef (Kd.R_lt (uf2_ bl))) (Kd.S_lt (uf3_ ch))) (Kd.Q_lt (uf6_ cl))) (Ji (w:=w) (g:=g) (row:=none) (fj)))
    replace bl:=A_ (Kd.R_elder' (uf2_ bl) (Kd.R_base aj) hb)
    replace ch:=A_ (Kd.S_mono (Kd.S_told (Kd.S_told (Kd.S_old (uf3_ ch) hb) (Kd.R_base aj)) (Kd.S_base ar)) (fun _ h_=>h_.1))
    replace cl:=A_ (Kd.Q_mono (Kd.Q_told (Kd.Q_told (Kd.Q_told (Kd.Q_old (uf6_ cl) hb) (Kd.R_base aj)) (Kd.S_base ar)) (Kd.Q_base ef)) (fun _ h_=>h_.1))
    replace cv:=bb_ cv hb
    replace a7:=bb_ a7 hb
    replace iy:=bb_ iy hb
    replace HK:=kt_ (fj) hb
    replace HB:=hs_ (i9) hb
    replace HI0:=A_ (Jp.below (ct) hb)
    refine hK.out _ _ ⟨(Gz a7.out 0).trans rfl,(Gz a7.out 1).trans rfl,(Gz a7.out 2).trans rfl⟩ (fun hHeld=>?_)
    clear hK K
    refine nm_ ?_
    refine pw_ 5 18 (tl_ 11 319) ?_
    refine pw_ 6 24 (tl_ 11 383) ?_
    refine pw_ 7 25 (tl_ 11 511) ?_
    exact norm_ (g19_) (hCont (op,q8,u6,cc) _ ⟨hHeld,(g77_),(g78_),(g79_),(g80_),(g81_),(g82_),(uf0_ cv),(uf0_ a7),(uf0_ iy),aa9.out,ab0.out,yd.out,wn.out,n4.out,sd.out,iz.out,se.out,(ct),(fj),(i9)⟩)
   skip
   refine bs_ (N:=7) #[.slice none 0 0, .slice none 0 0, .slice none 0 0] 28 ?_
   intro cc hg ug hbox hb
   replace bl:=rb_ bl hb
   replace ch:=sb_ ch hb
   replace cl:=qb_ cl hb
   replace HB:=hs_ (i9) hb
   have iy:=A_ (hbox)
   have aa9:=A_ ((g17_:w.heap.size<=cc))
   have ab0:=A_ (Nat.le_trans HW0.out aa9.out)
   replace HK:=kt_ (fj) hb
   have n4:=A_ ((g51_:fg≠cc))
   have sd:=A_ ((g52_:cc≠fg))
   replace cv:=bb_ cv hb
   have iz:=A_ ((g158_:d8≠cc))
   have se:=A_ ((g159_:cc≠d8))
   replace a7:=bb_ a7 hb
   have yd:=A_ ((by rw[hg];exact Nat.ne_of_lt (Jp.lt (show Jp w0 _ g ah f5 from ct)):g≠cc))
   have wn:=A_ ((by rw[hg];exact Nat.ne_of_gt (Jp.lt (show Jp w0 _ g ah f5 from ct)):cc≠g))
   replace HI0:=A_ (Jp.below (ct) hb)
   clear hb hbox hg
   refine hK.out _ _ ⟨(Gz a7.out 0).trans rfl,(Gz a7.out 1).trans rfl,(Gz a7.out 2).trans rfl⟩ (fun hHeld=>?_)
   clear hK K
   refine nm_ ?_
   refine one_ (i:=3) (N:=some 22) (tl_ 11 271) rfl rfl (Jo HT_.out (g1_)) (by decide) (fun K hK=>?_)
   refine goes_ Try.func103 (g1_) rfl #[.pointer (some ⟨g,0,none⟩), .agg #[.slice az cx.length ay, .slice g3 d9.length gf, .slice jc fi.length gv]] (by rfl) rfl rfl (g3_) ?_
   refine(Fh.calls k1 g ah f5 _ _ cx _ _ d9 _ _ fi tw tx ty tz t1 w0 _ ct i9 (cR_ bl) (lR_ bl) (far_slice (Jp.own_ne HI0.out bl.out (by decide))) (Kd.C_foot_own ((Kd.S_R (Jp.apartS (show Jp w0 _ g ah f5 from ct) (uf3_ ch) (by decide)))) (fun _ h_=>h_.2)) (lS_ ch) (Kd.C_foot_ownQ (Jp.apartQ (show Jp w0 _ g ah f5 from ct) (uf6_ cl) (by decide)) (fun _ h_=>h_.2)) (lQ_ cl) A15.out).mono ?_
   rintro e w23 ⟨rfl,hi,hb,hk⟩
   refine⟨_,rfl,?_⟩
   replace bl:=A_ (Kd.R_mono (Kd.R_keep (Jp.apart (show Jp w0 _ g ah f5 from ct) (uf2_ bl) (by decide)) hk (fun _ h=>h.2)) (fun _ h=>h.1))
   replace ch:=A_ (Kd.S_mono (Kd.S_keep (Jp.apartS (show Jp w0 _ g ah f5 from ct) (uf3_ ch) (by decide)) hk (fun _ h=>h.2)) (fun _ h=>h.1))
   replace cl:=A_ (Kd.Q_mono (Kd.Q_keep (Jp.apartQ (show Jp w0 _ g ah f5 from ct) (uf6_ cl) (by decide)) hk (fun _ h=>h.2)) (fun _ h=>h.1))
   replace cv:=kb_ hk cv u2
   replace a7:=kb_ hk a7 u4
   replace iy:=kb_ hk iy wn
   replace HK:=A_ (Jb.trans (fj) hk (.inl rfl))
   replace HB:=A_ (hb)
   replace HI0:=A_ (hi)
   refine hK.out _ _ ⟨(Gz a7.out 0).trans rfl,(Gz a7.out 1).trans rfl,(Gz a7.out 2).trans rfl⟩ (fun hHeld=>?_)
   clear hK K
   refine nm_ ?_
   refine one_ (i:=4) (N:=some 23) (tl_ 11 287) rfl rfl (Jo HT_.out (g1_)) (by decide) (fun K hK=>?_)
   refine goes_ Try.func54 (g1_) rfl #[.agg #[.slice az cx.length ay, .slice g3 d9.length gf, .slice jc fi.length gv], .agg #[.int .i64 tw, .int .i64 tx, .int .i64 ty, .int .i64 tz]] (by rfl) rfl rfl (g3_) ?_
   refine(Gg.calls k1 _ _ cx _ _ d9 _ _ fi tw tx ty tz pl ql qz true _ (cR_ bl) (lR_ bl) (cS_ ch) (lS_ ch) (cQ_ cl) (lQ_ cl) A16.out).mono ?_
   rintro e w24 ⟨op,q8,u6,rfl,aj,ar,ef,hb⟩
   refine⟨_,rfl,?_⟩
   have ye:=A_ (Kd.R_lower (Kd.R_new' aj (Kd.R_lt (uf2_ bl))) (Ji (w:=w) (g:=g) (row:=none) (fj)))
   have yf:=A_ (Kd.S_lower (Kd.S_new' (Kd.S_new' ar (Kd.R_lt (uf2_ bl))) (Kd.S_lt (uf3_ ch))) (Ji (w:=w) (g:=g) (row:=none) (fj)))
   have yg:=A_ (Kd.Q_lower (Kd.Q_new' (Kd.Q_new' (Kd.Q_new' ef (Kd.R_lt (uf2_ bl))) (Kd.S_lt (uf3_ ch))) (Kd.Q_lt (uf6_ cl))) (Ji (w:=w) (g:=g) (row:=none) (fj)))
   replace bl:=A_ (Kd.R_elder' (uf2_ bl) (Kd.R_base aj) hb)
   replace ch:=A_ (Kd.S_mono (Kd.S_told (Kd.S_told (Kd.S_old (uf3_ ch) hb) (Kd.R_base aj)) (Kd.S_base ar)) (fun _ h_=>h_.1))
   replace cl:=A_ (Kd.Q_mono (Kd.Q_told (Kd.Q_told (Kd.Q_told (Kd.Q_old (uf6_ cl) hb) (Kd.R_base aj)) (Kd.S_base ar)) (Kd.Q_base ef)) (fun _ h_=>h_.1))
   replace cv:=bb_ cv hb
   replace a7:=bb_ a7 hb
   replace iy:=bb_ iy hb
   replace HK:=kt_ (fj) hb
   replace HB:=hs_ (i9) hb
   replace HI0:=A_ (Jp.below (ct) hb)
   refine hK.out _ _ ⟨(Gz a7.out 0).trans rfl,(Gz a7.out 1).trans rfl,(Gz a7.out 2).trans rfl⟩ (fun hHeld=>?_)
   clear hK K
   refine nm_ ?_
   refine pw_ 5 18 (tl_ 11 319) ?_
   refine pw_ 6 24 (tl_ 11 383) ?_
   refine pw_ 7 25 (tl_ 11 511) ?_
   exact norm_ (g19_) (hCont (op,q8,u6,cc) _ ⟨hHeld,(g77_),(g78_),(g79_),(g80_),(g81_),(g82_),(uf0_ cv),(uf0_ a7),(uf0_ iy),aa9.out,ab0.out,yd.out,wn.out,n4.out,sd.out,iz.out,se.out,(ct),(fj),(i9)⟩)
  rintro⟨op,q8,u6,cc⟩ oa ⟨hS_,h0_,h1_,h2_,h3_,h4_,h5_,h6_,h7_,h8_,h9_,h10_,h11_,h12_,h13_,h14_,h15_,h16_,h17_,h18_,h19_⟩
  have ye:Gy (Kd.R (Kd.int .i64) 3 oa w.heap.size (fun k_=>some k_≠(.slice az cx.length ay:Value).ownBlock) op pl):=⟨h0_⟩
  have yf:Gy (Kd.S (Kd.slice 3 (Kd.int .i64)) 22 oa w.heap.size (fun k_=>some k_≠(op:Value).ownBlock/\some k_≠(.slice az cx.length ay:Value).ownBlock/\some k_≠(.slice g3 d9.length gf:Value).ownBlock) q8 ql):=⟨h1_⟩
  have yg:Gy (Kd.Q k25 25 oa w.heap.size (fun k_=>some k_≠(op:Value).ownBlock/\some k_≠(q8:Value).ownBlock/\some k_≠(.slice az cx.length ay:Value).ownBlock/\some k_≠(.slice g3 d9.length gf:Value).ownBlock/\some k_≠(.slice jc fi.length gv:Value).ownBlock) u6 qz):=⟨h2_⟩
  replace bl:Gy (Kd.R (Kd.int .i64) 3 oa w.heap.size (fun k_=>some k_≠(op:Value).ownBlock) (.slice az cx.length ay) cx):=⟨h3_⟩
  replace ch:Gy (Kd.S (Kd.slice 3 (Kd.int .i64)) 22 oa w.heap.size (fun k_=>some k_≠(op:Value).ownBlock/\some k_≠(q8:Value).ownBlock/\some k_≠(.slice az cx.length ay:Value).ownBlock) (.slice g3 d9.length gf) d9):=⟨h4_⟩
  replace cl:Gy (Kd.Q k25 25 oa w.heap.size (fun k_=>some k_≠(op:Value).ownBlock/\some k_≠(q8:Value).ownBlock/\some k_≠(u6:Value).ownBlock/\some k_≠(.slice az cx.length ay:Value).ownBlock/\some k_≠(.slice g3 d9.length gf:Value).ownBlock) (.slice jc fi.length gv) fi):=⟨h5_⟩
  replace cv:Gy (hc_ oa fg #[.slice none 0 0, .slice none 0 0, .slice none 0 0] 28):=⟨h6_⟩
  replace a7:Gy (hc_ oa d8 #[.slice az cx.length ay, .slice g3 d9.length gf, .slice jc fi.length gv] 28):=⟨h7_⟩
  have iy:Gy (hc_ oa cc #[.slice none 0 0, .slice none 0 0, .slice none 0 0] 28):=⟨h8_⟩
  have aa9:Gy (w.heap.size<=cc):=⟨h9_⟩
  have ab0:Gy (w0.heap.size<=cc):=⟨h10_⟩
  have yd:Gy (g≠cc):=⟨h11_⟩
  have wn:Gy (cc≠g):=⟨h12_⟩
  have n4:Gy (fg≠cc):=⟨h13_⟩
  have sd:Gy (cc≠fg):=⟨h14_⟩
  have iz:Gy (d8≠cc):=⟨h15_⟩
  have se:Gy (cc≠d8):=⟨h16_⟩
  replace HI0:Gy (Jp w0 oa g ah t1):=⟨h17_⟩
  replace HK:Gy (Jb w oa g none):=⟨h18_⟩
  replace HB:Gy (Below w0.heap.size w0 oa):=⟨h19_⟩
  clear h0_ h1_ h2_ h3_ h4_ h5_ h6_ h7_ h8_ h9_ h10_ h11_ h12_ h13_ h14_ h15_ h16_ h17_ h18_ h19_
  have hHeld:oa.cell? ⟨d8,0,none⟩=some (.slice az cx.length ay)/\oa.cell? ⟨d8,1,none⟩=some (.slice g3 d9.length gf)/\oa.cell? ⟨d8,2,none⟩=some (.slice jc fi.length gv):=hS_
  obtain⟨ti,tj,au0⟩:=Kd.R_slice ye.out
  (first|subst au0|(injection au0 with f1_ f2_ f3_;have f4_:=f1_.symm;have f5_:=f3_.symm;clear f1_ f2_ f3_;subst f4_;subst f5_))
  obtain⟨cd,b7,ba7⟩:=Kd.S_slice yf.out
  (first|subst ba7|(injection ba7 with f1_ f2_ f3_;have f4_:=f1_.symm;have f5_:=f3_.symm;clear f1_ f2_ f3_;subst f4_;subst f5_))
  obtain⟨ka,kb,bo2,_⟩:=Kd.Q_slice yg.out
  (first|subst bo2|(injection bo2 with f1_ f2_ f3_;have f4_:=f1_.symm;have f5_:=f3_.symm;clear f1_ f2_ f3_;subst f4_;subst f5_))
  refine norm_ (a':=?_) ?_ ?_
  rotate_left
  ·simp only[putAll,Act.put,List.setIfInBounds_toArray,List.set_cons_zero,List.set_cons_succ]
   rfl
  refine one_ (i:=9) (N:=none) (tl_ 11 1023) rfl rfl (Jo HT_.out (g1_)) (by decide) (fun K hK=>?_)
  have ir5:oa.cell? ⟨cc,0,none⟩=some (.slice none 0 0):=(Gz iy.out 0).trans rfl
  have ir6:=G8 iy.out 0
  have ir7:=n4.out
  have ir8:=iz.out
  have ir9:=sd.out
  have is0:=se.out
  have iq2:oa.cell? ⟨cc,1,none⟩=some (.slice none 0 0):=(Gz iy.out 1).trans rfl
  have iq3:=G8 iy.out 1
  have la2:oa.cell? ⟨cc,2,none⟩=some (.slice none 0 0):=(Gz iy.out 2).trans rfl
  have la3:=G8 iy.out 2
  refine skip_ (w1:=?_) (by rfl) rfl ?_ ?_
  rotate_left
  ·go_simp
   rfl
  refine hK.out _ _ ⟨(cf_ iz ((cf_ iz ((cf_ iz (hHeld.1)))))),(cf_ iz ((cf_ iz ((cf_ iz (hHeld.2.1)))))),(cf_ iz ((cf_ iz ((cf_ iz (hHeld.2.2))))))⟩ (fun hHeld=>?_)
  clear hK K
  refine pw_ 10 8 (tl_ 11 2047) ?_
  refine done_ (done_of HT_.out (g1_)) ?_
  have dg5:=wn.out
  have dg6:=yd.out
  obtain⟨ba8,ba9,bn0,bb0,bb1,bn1⟩:=blk3_ iy
  have ea3:=cd7.out
  have ea4:=ab1.out
  have fg0:=u4.out
  have fg1:=cp5.out
  obtain⟨dc0,dc1,fw9,dc2,dc3,fx0⟩:=blk3_ a7
  try go_wp2
  go_roundg k1
  case measure=>have:=HK1.out;omega
  case rel=>exact⟨(wrap64 (jt - 1)),(t1),(pl),(ql),(qz),(.slice ti pl.length tj),(.slice cd ql.length b7),(.slice ka qz.length kb),(g2_),H',⟨g13_⟩,⟨ra_ ye⟩,⟨sa_ yf⟩,⟨qa_ yg⟩,⟨ba_ cv⟩,⟨ba_ a7⟩,⟨ct⟩,⟨fj⟩,⟨i9⟩⟩
 replace f7:=Bool.eq_false_iff.mpr f7
 subst f7
 replace H:=ifn_ H
 have H':=A_ H
 clear H
 obtain⟨lx,la,ai2⟩:=Kd.R_slice bl.out
 subst ai2
 obtain⟨q9,ra,lf1⟩:=Kd.S_slice ch.out
 subst lf1
 obtain⟨oz,m3,av6,_⟩:=Kd.Q_slice cl.out
 subst av6
 try go_wp2
 replace bl:=rd_ bl
 replace ch:=sd_ ch
 replace cl:=qd_ cl
 replace cv:=bd_ cv
 replace a7:=bd_ a7
 replace HI0:=A_ (Jp.drew HI0.out)
 replace HK:=A_ (Jk HK.out)
 replace HB:=A_ (G2 HB.out)
 refine start_ (n:=11) (S:=fun w'=>w'.cell? ⟨d8,0,none⟩=some (.slice lx cx.length la)/\w'.cell? ⟨d8,1,none⟩=some (.slice q9 d9.length ra)/\w'.cell? ⟨d8,2,none⟩=some (.slice oz fi.length m3)) (ds:=[]) (tl_ 11 0) (g1_) rfl (g1_) ⟨(Gz a7.out 0).trans rfl,(Gz a7.out 1).trans rfl,(Gz a7.out 2).trans rfl⟩ (fun hHeld=>?_);refine Jm Ft.tab5 Ft.bits5 (fun HT_ HW_=>?_)
 generalize wr.drew=w42 at bl ch cl cv a7 HI0 HK HB hHeld |-
 refine pw_ 1 20 (tl_ 11 2) ?_
 refine tk3_ 0 19 (tl_ 11 3) hHeld ?_
 refine tk3_ 2 21 (tl_ 11 7) hHeld ?_
 refine join_ (σ:=Value × Value × Value × Nat) 2 (tl_ 11 511) (fun s_=>[(22, .agg #[.int .i64 tw, .int .i64 tx, .int .i64 ty, .int .i64 tz]),(23, .tuple #[.agg #[s_.1,s_.2.1,s_.2.2.1], .bool false]),(7, .pointer (some ⟨s_.2.2.2,0,none⟩)),(18, .tuple #[.agg #[s_.1,s_.2.1,s_.2.2.1], .bool false]),(24, .agg #[s_.1,s_.2.1,s_.2.2.1]),(25, .bool false)]) (fun s_ w'=>(w'.cell? ⟨d8,0,none⟩=some (.slice lx cx.length la)/\w'.cell? ⟨d8,1,none⟩=some (.slice q9 d9.length ra)/\w'.cell? ⟨d8,2,none⟩=some (.slice oz fi.length m3))/\(Kd.R (Kd.int .i64) 3 w' w.heap.size (fun k_=>some k_≠(.slice lx cx.length la:Value).ownBlock) s_.1 pl)/\(Kd.S (Kd.slice 3 (Kd.int .i64)) 22 w' w.heap.size (fun k_=>some k_≠(s_.1:Value).ownBlock/\some k_≠(.slice lx cx.length la:Value).ownBlock/\some k_≠(.slice q9 d9.length ra:Value).ownBlock) s_.2.1 ql)/\(Kd.Q k25 25 w' w.heap.size (fun k_=>some k_≠(s_.1:Value).ownBlock/\some k_≠(s_.2.1:Value).ownBlock/\some k_≠(.slice lx cx.length la:Value).ownBlock/\some k_≠(.slice q9 d9.length ra:Value).ownBlock/\some k_≠(.slice oz fi.length m3:Value).ownBlock) s_.2.2.1 qz)/\(Kd.R (Kd.int .i64) 3 w' w.heap.size (fun k_=>some k_≠(s_.1:Value).ownBlock) (.slice lx cx.length la) cx)/\(Kd.S (Kd.slice 3 (Kd.int .i64)) 22 w' w.heap.size (fun k_=>some k_≠(s_.1:Value).ownBlock/\some k_≠(s_.2.1:Value).ownBlock/\some k_≠(.slice lx cx.length la:Value).ownBlock) (.slice q9 d9.length ra) d9)/\(Kd.Q k25 25 w' w.heap.size (fun k_=>some k_≠(s_.1:Value).ownBlock/\some k_≠(s_.2.1:Value).ownBlock/\some k_≠(s_.2.2.1:Value).ownBlock/\some k_≠(.slice lx cx.length la:Value).ownBlock/\some k_≠(.slice q9 d9.length ra:Value).ownBlock) (.slice oz fi.length m3) fi)/\(hc_ w' fg #[.slice none 0 0, .slice none 0 0, .slice none 0 0] 28)/\(hc_ w' d8 #[.slice lx cx.length la, .slice q9 d9.length ra, .slice oz fi.length m3] 28)/\(hc_ w' s_.2.2.2 #[.slice none 0 0, .slice none 0 0, .slice none 0 0] 28)/\(w.heap.size<=s_.2.2.2)/\(w0.heap.size<=s_.2.2.2)/\(g≠s_.2.2.2)/\(s_.2.2.2≠g)/\(fg≠s_.2.2.2)/\(s_.2.2.2≠fg)/\(d8≠s_.2.2.2)/\(s_.2.2.2≠d8)/\(Jp w0 w' g ah t1)/\(Jb w w' g none)/\(Below w0.heap.size w0 w')) ?_ ?_
 rotate_left
 ·intro hCont
  refine two_ (i:=3) (j:=8) (Ni:=some 22) (Nj:=some 7) (tl_ 11 15) (tl_ 11 263) rfl rfl rfl rfl (two_of HT_.out (g1_)) (by decide) (by decide) (fun K hK=>?_) (fun K hK=>?_)
  ·skip
   refine goes_ Try.func103 (g1_) rfl #[.pointer (some ⟨g,0,none⟩), .agg #[.slice lx cx.length la, .slice q9 d9.length ra, .slice oz fi.length m3]] (by rfl) rfl rfl (g3_) ?_
   refine(Fh.calls k1 g ah f5 _ _ cx _ _ d9 _ _ fi tw tx ty tz t1 w0 _ ct i9 (cR_ bl) (lR_ bl) (far_slice (Jp.own_ne HI0.out bl.out (by decide))) (Kd.C_foot_own ((Kd.S_R (Jp.apartS (show Jp w0 _ g ah f5 from ct) (uf3_ ch) (by decide)))) (fun _ h_=>h_.2)) (lS_ ch) (Kd.C_foot_ownQ (Jp.apartQ (show Jp w0 _ g ah f5 from ct) (uf6_ cl) (by decide)) (fun _ h_=>h_.2)) (lQ_ cl) A15.out).mono ?_
   rintro e w43 ⟨rfl,hi,hb,hk⟩
   refine⟨_,rfl,?_⟩
   replace bl:=A_ (Kd.R_mono (Kd.R_keep (Jp.apart (show Jp w0 _ g ah f5 from ct) (uf2_ bl) (by decide)) hk (fun _ h=>h.2)) (fun _ h=>h.1))
   replace ch:=A_ (Kd.S_mono (Kd.S_keep (Jp.apartS (show Jp w0 _ g ah f5 from ct) (uf3_ ch) (by decide)) hk (fun _ h=>h.2)) (fun _ h=>h.1))
   replace cl:=A_ (Kd.Q_mono (Kd.Q_keep (Jp.apartQ (show Jp w0 _ g ah f5 from ct) (uf6_ cl) (by decide)) hk (fun _ h=>h.2)) (fun _ h=>h.1))
   replace cv:=kb_ hk cv u2
   replace a7:=kb_ hk a7 u4
   replace HK:=A_ (Jb.trans (fj) hk (.inl rfl))
   replace HB:=A_ (hb)
   replace HI0:=A_ (hi)
   refine hK.out _ _ ⟨(Gz a7.out 0).trans rfl,(Gz a7.out 1).trans rfl,(Gz a7.out 2).trans rfl⟩ (fun hHeld=>?_)
   clear hK K
   refine nm_ ?_
   refine two_ (i:=4) (j:=8) (Ni:=some 23) (Nj:=some 7) (tl_ 11 31) (tl_ 11 271) rfl rfl rfl rfl (two_of HT_.out (g1_)) (by decide) (by decide) (fun K hK=>?_) (fun K hK=>?_)
   ·skip
    refine goes_ Try.func54 (g1_) rfl #[.agg #[.slice lx cx.length la, .slice q9 d9.length ra, .slice oz fi.length m3], .agg #[.int .i64 tw, .int .i64 tx, .int .i64 ty, .int .i64 tz]] (by rfl) rfl rfl (g3_) ?_
    refine(Gg.calls k1 _ _ cx _ _ d9 _ _ fi tw tx ty tz pl ql qz false _ (cR_ bl) (lR_ bl) (cS_ ch) (lS_ ch) (cQ_ cl) (lQ_ cl) A16.out).mono ?_
    rintro e w44 ⟨op,q8,u6,rfl,aj,ar,ef,hb⟩
    refine⟨_,rfl,?_⟩
    have ye:=A_ (Kd.R_lower (Kd.R_new' aj (Kd.R_lt (uf2_ bl))) (Ji (w:=w) (g:=g) (row:=none) (fj)))
    have yf:=A_ (Kd.S_lower (Kd.S_new' (Kd.S_new' ar (Kd.R_lt (uf2_ bl))) (Kd.S_lt (uf3_ ch))) (Ji (w:=w) (g:=g) (row:=none) (fj)))
    have yg:=A_ (Kd.Q_lower (Kd.Q_new' (Kd.Q_new' (Kd.Q_new' ef (Kd.R_lt (uf2_ bl))) (Kd.S_lt (uf3_ ch))) (Kd.Q_lt (uf6_ cl))) (Ji (w:=w) (g:=g) (row:=none) (fj)))
    replace bl:=A_ (Kd.R_elder' (uf2_ bl) (Kd.R_base aj) hb)
    replace ch:=A_ (Kd.S_mono (Kd.S_told (Kd.S_told (Kd.S_old (uf3_ ch) hb) (Kd.R_base aj)) (Kd.S_base ar)) (fun _ h_=>h_.1))
    replace cl:=A_ (Kd.Q_mono (Kd.Q_told (Kd.Q_told (Kd.Q_told (Kd.Q_old (uf6_ cl) hb) (Kd.R_base aj)) (Kd.S_base ar)) (Kd.Q_base ef)) (fun _ h_=>h_.1))
    replace cv:=bb_ cv hb
    replace a7:=bb_ a7 hb
    replace HK:=kt_ (fj) hb
    replace HB:=hs_ (i9) hb
    replace HI0:=A_ (Jp.below (ct) hb)
    refine hK.out _ _ ⟨(Gz a7.out 0).trans rfl,(Gz a7.out 1).trans rfl,(Gz a7.out 2).trans rfl⟩ (fun hHeld=>?_)
    clear hK K
    refine nm_ ?_
    refine pw_ 5 18 (tl_ 11 63) ?_
    refine pw_ 6 24 (tl_ 11 127) ?_
    refine pw_ 7 25 (tl_ 11 255) ?_
    refine one_ (i:=8) (N:=some 7) (tl_ 11 511) rfl rfl (Jo HT_.out (g1_)) (by decide) (fun K hK=>?_)
    refine bs_ (N:=7) #[.slice none 0 0, .slice none 0 0, .slice none 0 0] 28 ?_
    intro cc hg w45 hbox hb
    replace bl:=rb_ bl hb
    replace ch:=sb_ ch hb
    replace cl:=qb_ cl hb
    replace ye:=rb_ ye hb
    replace yf:=sb_ yf hb
    replace yg:=qb_ yg hb
    replace HB:=hs_ (i9) hb
    have iy:=A_ (hbox)
    have aa9:=A_ ((g17_:w.heap.size<=cc))
    have ab0:=A_ (Nat.le_trans HW0.out aa9.out)
    replace HK:=kt_ (fj) hb
    have n4:=A_ ((g51_:fg≠cc))
    have sd:=A_ ((g52_:cc≠fg))
    replace cv:=bb_ cv hb
    have iz:=A_ ((g160_:d8≠cc))
    have se:=A_ ((g161_:cc≠d8))
    replace a7:=bb_ a7 hb
    have yd:=A_ ((by rw[hg];exact Nat.ne_of_lt (Jp.lt (show Jp w0 _ g ah t1 from ct)):g≠cc))
    have wn:=A_ ((by rw[hg];exact Nat.ne_of_gt (Jp.lt (show Jp w0 _ g ah t1 from ct)):cc≠g))
    replace HI0:=A_ (Jp.below (ct) hb)
    clear hb hbox hg
    refine hK.out _ _ ⟨(Gz a7.out 0).trans rfl,(Gz a7.out 1).trans rfl,(Gz a7.out 2).trans rfl⟩ (fun hHeld=>?_)
    clear hK K
    refine nm_ ?_
    exact norm_ (g19_) (hCont (op,q8,u6,cc) _ ⟨hHeld,(g77_),(g78_),(g79_),(g80_),(g81_),(g82_),(uf0_ cv),(uf0_ a7),(uf0_ iy),aa9.out,ab0.out,yd.out,wn.out,n4.out,sd.out,iz.out,se.out,(ct),(fj),(i9)⟩)
   skip
   refine bs_ (N:=7) #[.slice none 0 0, .slice none 0 0, .slice none 0 0] 28 ?_
   intro cc hg w44 hbox hb
   replace bl:=rb_ bl hb
   replace ch:=sb_ ch hb
   replace cl:=qb_ cl hb
   replace HB:=hs_ (i9) hb
   have iy:=A_ (hbox)
   have aa9:=A_ ((g17_:w.heap.size<=cc))
   have ab0:=A_ (Nat.le_trans HW0.out aa9.out)
   replace HK:=kt_ (fj) hb
   have n4:=A_ ((g51_:fg≠cc))
   have sd:=A_ ((g52_:cc≠fg))
   replace cv:=bb_ cv hb
   have iz:=A_ ((g160_:d8≠cc))
   have se:=A_ ((g161_:cc≠d8))
   replace a7:=bb_ a7 hb
   have yd:=A_ ((by rw[hg];exact Nat.ne_of_lt (Jp.lt (show Jp w0 _ g ah t1 from ct)):g≠cc))
   have wn:=A_ ((by rw[hg];exact Nat.ne_of_gt (Jp.lt (show Jp w0 _ g ah t1 from ct)):cc≠g))
   replace HI0:=A_ (Jp.below (ct) hb)
   clear hb hbox hg
   refine hK.out _ _ ⟨(Gz a7.out 0).trans rfl,(Gz a7.out 1).trans rfl,(Gz a7.out 2).trans rfl⟩ (fun hHeld=>?_)
   clear hK K
   refine nm_ ?_
   refine one_ (i:=4) (N:=some 23) (tl_ 11 287) rfl rfl (Jo HT_.out (g1_)) (by decide) (fun K hK=>?_)
   refine goes_ Try.func54 (g1_) rfl #[.agg #[.slice lx cx.length la, .slice q9 d9.length ra, .slice oz fi.length m3], .agg #[.int .i64 tw, .int .i64 tx, .int .i64 ty, .int .i64 tz]] (by rfl) rfl rfl (g3_) ?_
   refine(Gg.calls k1 _ _ cx _ _ d9 _ _ fi tw tx ty tz pl ql qz false _ (cR_ bl) (lR_ bl) (cS_ ch) (lS_ ch) (cQ_ cl) (lQ_ cl) A16.out).mono ?_
   rintro e w45 ⟨op,q8,u6,rfl,aj,ar,ef,hb⟩
   refine⟨_,rfl,?_⟩
   have ye:=A_ (Kd.R_lower (Kd.R_new' aj (Kd.R_lt (uf2_ bl))) (Ji (w:=w) (g:=g) (row:=none) (fj)))
   have yf:=A_ (Kd.S_lower (Kd.S_new' (Kd.S_new' ar (Kd.R_lt (uf2_ bl))) (Kd.S_lt (uf3_ ch))) (Ji (w:=w) (g:=g) (row:=none) (fj)))
   have yg:=A_ (Kd.Q_lower (Kd.Q_new' (Kd.Q_new' (Kd.Q_new' ef (Kd.R_lt (uf2_ bl))) (Kd.S_lt (uf3_ ch))) (Kd.Q_lt (uf6_ cl))) (Ji (w:=w) (g:=g) (row:=none) (fj)))
   replace bl:=A_ (Kd.R_elder' (uf2_ bl) (Kd.R_base aj) hb)
   replace ch:=A_ (Kd.S_mono (Kd.S_told (Kd.S_told (Kd.S_old (uf3_ ch) hb) (Kd.R_base aj)) (Kd.S_base ar)) (fun _ h_=>h_.1))
   replace cl:=A_ (Kd.Q_mono (Kd.Q_told (Kd.Q_told (Kd.Q_told (Kd.Q_old (uf6_ cl) hb) (Kd.R_base aj)) (Kd.S_base ar)) (Kd.Q_base ef)) (fun _ h_=>h_.1))
   replace cv:=bb_ cv hb
   replace a7:=bb_ a7 hb
   replace iy:=bb_ iy hb
   replace HK:=kt_ (fj) hb
   replace HB:=hs_ (i9) hb
   replace HI0:=A_ (Jp.below (ct) hb)
   refine hK.out _ _ ⟨(Gz a7.out 0).trans rfl,(Gz a7.out 1).trans rfl,(Gz a7.out 2).trans rfl⟩ (fun hHeld=>?_)
   clear hK K
   refine nm_ ?_
   refine pw_ 5 18 (tl_ 11 319) ?_
   refine pw_ 6 24 (tl_ 11 383) ?_
   refine pw_ 7 25 (tl_ 11 511) ?_
   exact norm_ (g19_) (hCont (op,q8,u6,cc) _ ⟨hHeld,(g77_),(g78_),(g79_),(g80_),(g81_),(g82_),(uf0_ cv),(uf0_ a7),(uf0_ iy),aa9.out,ab0.out,yd.out,wn.out,n4.out,sd.out,iz.out,se.out,(ct),(fj),(i9)⟩)
  skip
  refine bs_ (N:=7) #[.slice none 0 0, .slice none 0 0, .slice none 0 0] 28 ?_
  intro cc hg w43 hbox hb
  replace bl:=rb_ bl hb
  replace ch:=sb_ ch hb
  replace cl:=qb_ cl hb
  replace HB:=hs_ (i9) hb
  have iy:=A_ (hbox)
  have aa9:=A_ ((g17_:w.heap.size<=cc))
  have ab0:=A_ (Nat.le_trans HW0.out aa9.out)
  replace HK:=kt_ (fj) hb
  have n4:=A_ ((g51_:fg≠cc))
  have sd:=A_ ((g52_:cc≠fg))
  replace cv:=bb_ cv hb
  have iz:=A_ ((g160_:d8≠cc))
  have se:=A_ ((g161_:cc≠d8))
  replace a7:=bb_ a7 hb
  have yd:=A_ ((by rw[hg];exact Nat.ne_of_lt (Jp.lt (show Jp w0 _ g ah f5 from ct)):g≠cc))
  have wn:=A_ ((by rw[hg];exact Nat.ne_of_gt (Jp.lt (show Jp w0 _ g ah f5 from ct)):cc≠g))
  replace HI0:=A_ (Jp.below (ct) hb)
  clear hb hbox hg
  refine hK.out _ _ ⟨(Gz a7.out 0).trans rfl,(Gz a7.out 1).trans rfl,(Gz a7.out 2).trans rfl⟩ (fun hHeld=>?_)
  clear hK K
  refine nm_ ?_
  refine one_ (i:=3) (N:=some 22) (tl_ 11 271) rfl rfl (Jo HT_.out (g1_)) (by decide) (fun K hK=>?_)
  refine goes_ Try.func103 (g1_) rfl #[.pointer (some ⟨g,0,none⟩), .agg #[.slice lx cx.length la, .slice q9 d9.length ra, .slice oz fi.length m3]] (by rfl) rfl rfl (g3_) ?_
  refine(Fh.calls k1 g ah f5 _ _ cx _ _ d9 _ _ fi tw tx ty tz t1 w0 _ ct i9 (cR_ bl) (lR_ bl) (far_slice (Jp.own_ne HI0.out bl.out (by decide))) (Kd.C_foot_own ((Kd.S_R (Jp.apartS (show Jp w0 _ g ah f5 from ct) (uf3_ ch) (by decide)))) (fun _ h_=>h_.2)) (lS_ ch) (Kd.C_foot_ownQ (Jp.apartQ (show Jp w0 _ g ah f5 from ct) (uf6_ cl) (by decide)) (fun _ h_=>h_.2)) (lQ_ cl) A15.out).mono ?_
  rintro e w44 ⟨rfl,hi,hb,hk⟩
  refine⟨_,rfl,?_⟩
  replace bl:=A_ (Kd.R_mono (Kd.R_keep (Jp.apart (show Jp w0 _ g ah f5 from ct) (uf2_ bl) (by decide)) hk (fun _ h=>h.2)) (fun _ h=>h.1))
  replace ch:=A_ (Kd.S_mono (Kd.S_keep (Jp.apartS (show Jp w0 _ g ah f5 from ct) (uf3_ ch) (by decide)) hk (fun _ h=>h.2)) (fun _ h=>h.1))
  replace cl:=A_ (Kd.Q_mono (Kd.Q_keep (Jp.apartQ (show Jp w0 _ g ah f5 from ct) (uf6_ cl) (by decide)) hk (fun _ h=>h.2)) (fun _ h=>h.1))
  replace cv:=kb_ hk cv u2
  replace a7:=kb_ hk a7 u4
  replace iy:=kb_ hk iy wn
  replace HK:=A_ (Jb.trans (fj) hk (.inl rfl))
  replace HB:=A_ (hb)
  replace HI0:=A_ (hi)
  refine hK.out _ _ ⟨(Gz a7.out 0).trans rfl,(Gz a7.out 1).trans rfl,(Gz a7.out 2).trans rfl⟩ (fun hHeld=>?_)
  clear hK K
  refine nm_ ?_
  refine one_ (i:=4) (N:=some 23) (tl_ 11 287) rfl rfl (Jo HT_.out (g1_)) (by decide) (fun K hK=>?_)
  refine goes_ Try.func54 (g1_) rfl #[.agg #[.slice lx cx.length la, .slice q9 d9.length ra, .slice oz fi.length m3], .agg #[.int .i64 tw, .int .i64 tx, .int .i64 ty, .int .i64 tz]] (by rfl) rfl rfl (g3_) ?_
  refine(Gg.calls k1 _ _ cx _ _ d9 _ _ fi tw tx ty tz pl ql qz false _ (cR_ bl) (lR_ bl) (cS_ ch) (lS_ ch) (cQ_ cl) (lQ_ cl) A16.out).mono ?_
  rintro e w45 ⟨op,q8,u6,rfl,aj,ar,ef,hb⟩
  refine⟨_,rfl,?_⟩
  have ye:=A_ (Kd.R_lower (Kd.R_new' aj (Kd.R_lt (uf2_ bl))) (Ji (w:=w) (g:=g) (row:=none) (fj)))
  have yf:=A_ (Kd.S_lower (Kd.S_new' (Kd.S_new' ar (Kd.R_lt (uf2_ bl))) (Kd.S_lt (uf3_ ch))) (Ji (w:=w) (g:=g) (row:=none) (fj)))
  have yg:=A_ (Kd.Q_lower (Kd.Q_new' (Kd.Q_new' (Kd.Q_new' ef (Kd.R_lt (uf2_ bl))) (Kd.S_lt (uf3_ ch))) (Kd.Q_lt (uf6_ cl))) (Ji (w:=w) (g:=g) (row:=none) (fj)))
  replace bl:=A_ (Kd.R_elder' (uf2_ bl) (Kd.R_base aj) hb)
  replace ch:=A_ (Kd.S_mono (Kd.S_told (Kd.S_told (Kd.S_old (uf3_ ch) hb) (Kd.R_base aj)) (Kd.S_base ar)) (fun _ h_=>h_.1))
  replace cl:=A_ (Kd.Q_mono (Kd.Q_told (Kd.Q_told (Kd.Q_told (Kd.Q_old (uf6_ cl) hb) (Kd.R_base aj)) (Kd.S_base ar)) (Kd.Q_base ef)) (fun _ h_=>h_.1))
  replace cv:=bb_ cv hb
  replace a7:=bb_ a7 hb
  replace iy:=bb_ iy hb
  replace HK:=kt_ (fj) hb
  replace HB:=hs_ (i9) hb
  replace HI0:=A_ (Jp.below (ct) hb)
  refine hK.out _ _ ⟨(Gz a7.out 0).trans rfl,(Gz a7.out 1).trans rfl,(Gz a7.out 2).trans rfl⟩ (fun hHeld=>?_)
  clear hK K
  refine nm_ ?_
  refine pw_ 5 18 (tl_ 11 319) ?_
  refine pw_ 6 24 (tl_ 11 383) ?_
  refine pw_ 7 25 (tl_ 11 511) ?_
  exact norm_ (g19_) (hCont (op,q8,u6,cc) _ ⟨hHeld,(g77_),(g78_),(g79_),(g80_),(g81_),(g82_),(uf0_ cv),(uf0_ a7),(uf0_ iy),aa9.out,ab0.out,yd.out,wn.out,n4.out,sd.out,iz.out,se.out,(ct),(fj),(i9)⟩)
 rintro⟨op,q8,u6,cc⟩ ro ⟨hS_,h0_,h1_,h2_,h3_,h4_,h5_,h6_,h7_,h8_,h9_,h10_,h11_,h12_,h13_,h14_,h15_,h16_,h17_,h18_,h19_⟩
 have ye:Gy (Kd.R (Kd.int .i64) 3 ro w.heap.size (fun k_=>some k_≠(.slice lx cx.length la:Value).ownBlock) op pl):=⟨h0_⟩
 have yf:Gy (Kd.S (Kd.slice 3 (Kd.int .i64)) 22 ro w.heap.size (fun k_=>some k_≠(op:Value).ownBlock/\some k_≠(.slice lx cx.length la:Value).ownBlock/\some k_≠(.slice q9 d9.length ra:Value).ownBlock) q8 ql):=⟨h1_⟩
 have yg:Gy (Kd.Q k25 25 ro w.heap.size (fun k_=>some k_≠(op:Value).ownBlock/\some k_≠(q8:Value).ownBlock/\some k_≠(.slice lx cx.length la:Value).ownBlock/\some k_≠(.slice q9 d9.length ra:Value).ownBlock/\some k_≠(.slice oz fi.length m3:Value).ownBlock) u6 qz):=⟨h2_⟩
 replace bl:Gy (Kd.R (Kd.int .i64) 3 ro w.heap.size (fun k_=>some k_≠(op:Value).ownBlock) (.slice lx cx.length la) cx):=⟨h3_⟩
 replace ch:Gy (Kd.S (Kd.slice 3 (Kd.int .i64)) 22 ro w.heap.size (fun k_=>some k_≠(op:Value).ownBlock/\some k_≠(q8:Value).ownBlock/\some k_≠(.slice lx cx.length la:Value).ownBlock) (.slice q9 d9.length ra) d9):=⟨h4_⟩
 replace cl:Gy (Kd.Q k25 25 ro w.heap.size (fun k_=>some k_≠(op:Value).ownBlock/\some k_≠(q8:Value).ownBlock/\some k_≠(u6:Value).ownBlock/\some k_≠(.slice lx cx.length la:Value).ownBlock/\some k_≠(.slice q9 d9.length ra:Value).ownBlock) (.slice oz fi.length m3) fi):=⟨h5_⟩
 replace cv:Gy (hc_ ro fg #[.slice none 0 0, .slice none 0 0, .slice none 0 0] 28):=⟨h6_⟩
 replace a7:Gy (hc_ ro d8 #[.slice lx cx.length la, .slice q9 d9.length ra, .slice oz fi.length m3] 28):=⟨h7_⟩
 have iy:Gy (hc_ ro cc #[.slice none 0 0, .slice none 0 0, .slice none 0 0] 28):=⟨h8_⟩
 have aa9:Gy (w.heap.size<=cc):=⟨h9_⟩
 have ab0:Gy (w0.heap.size<=cc):=⟨h10_⟩
 have yd:Gy (g≠cc):=⟨h11_⟩
 have wn:Gy (cc≠g):=⟨h12_⟩
 have n4:Gy (fg≠cc):=⟨h13_⟩
 have sd:Gy (cc≠fg):=⟨h14_⟩
 have iz:Gy (d8≠cc):=⟨h15_⟩
 have se:Gy (cc≠d8):=⟨h16_⟩
 replace HI0:Gy (Jp w0 ro g ah t1):=⟨h17_⟩
 replace HK:Gy (Jb w ro g none):=⟨h18_⟩
 replace HB:Gy (Below w0.heap.size w0 ro):=⟨h19_⟩
 clear h0_ h1_ h2_ h3_ h4_ h5_ h6_ h7_ h8_ h9_ h10_ h11_ h12_ h13_ h14_ h15_ h16_ h17_ h18_ h19_
 have hHeld:ro.cell? ⟨d8,0,none⟩=some (.slice lx cx.length la)/\ro.cell? ⟨d8,1,none⟩=some (.slice q9 d9.length ra)/\ro.cell? ⟨d8,2,none⟩=some (.slice oz fi.length m3):=hS_
 obtain⟨ae6,ae7,ck4⟩:=Kd.R_slice ye.out
 (first|subst ck4|(injection ck4 with f1_ f2_ f3_;have f4_:=f1_.symm;have f5_:=f3_.symm;clear f1_ f2_ f3_;subst f4_;subst f5_))
 obtain⟨fx6,fx7,ih5⟩:=Kd.S_slice yf.out
 (first|subst ih5|(injection ih5 with f1_ f2_ f3_;have f4_:=f1_.symm;have f5_:=f3_.symm;clear f1_ f2_ f3_;subst f4_;subst f5_))
 obtain⟨i4,i5,ca2,_⟩:=Kd.Q_slice yg.out
 (first|subst ca2|(injection ca2 with f1_ f2_ f3_;have f4_:=f1_.symm;have f5_:=f3_.symm;clear f1_ f2_ f3_;subst f4_;subst f5_))
 refine norm_ (a':=?_) ?_ ?_
 rotate_left
 ·simp only[putAll,Act.put,List.setIfInBounds_toArray,List.set_cons_zero,List.set_cons_succ]
  rfl
 refine one_ (i:=9) (N:=none) (tl_ 11 1023) rfl rfl (Jo HT_.out (g1_)) (by decide) (fun K hK=>?_)
 have nn8:ro.cell? ⟨cc,0,none⟩=some (.slice none 0 0):=(Gz iy.out 0).trans rfl
 have nn9:=G8 iy.out 0
 have no0:=n4.out
 have no1:=iz.out
 have no2:=sd.out
 have no3:=se.out
 have no4:ro.cell? ⟨cc,1,none⟩=some (.slice none 0 0):=(Gz iy.out 1).trans rfl
 have no5:=G8 iy.out 1
 have ks6:ro.cell? ⟨cc,2,none⟩=some (.slice none 0 0):=(Gz iy.out 2).trans rfl
 have ks7:=G8 iy.out 2
 refine skip_ (w1:=?_) (by rfl) rfl ?_ ?_
 rotate_left
 ·go_simp
  rfl
 refine hK.out _ _ ⟨(cf_ iz ((cf_ iz ((cf_ iz (hHeld.1)))))),(cf_ iz ((cf_ iz ((cf_ iz (hHeld.2.1)))))),(cf_ iz ((cf_ iz ((cf_ iz (hHeld.2.2))))))⟩ (fun hHeld=>?_)
 clear hK K
 refine pw_ 10 8 (tl_ 11 2047) ?_
 refine done_ (done_of HT_.out (g1_)) ?_
 try go_wp2
 go_roundg k1
 case measure=>have:=HK1.out;omega
 case rel=>exact⟨(wrap64 (jt - 1)),(t1),(cx),(d9),(fi),(.slice lx cx.length la),(.slice q9 d9.length ra),(.slice oz fi.length m3),(g2_),H',⟨g13_⟩,⟨ra_ bl⟩,⟨sa_ ch⟩,⟨qa_ cl⟩,⟨ba_ cv⟩,⟨ba_ a7⟩,⟨ct⟩,⟨fj⟩,⟨i9⟩⟩
def Gs.f (k:Nat) (l0:List Int):Option (List Int × (List (List Int)) × (List (S25)) × Int × Int × Int × Int):=(Gx.f l0).bind fun bt691=>((Ft.f k bt691.1 bt691.2 12).bind fun bt694=>((Fh.f k bt691.1 bt694.2.2.2 bt694.1 bt694.2.1 bt694.2.2.1).bind fun bt705=>(some (bt694.1,bt694.2.1,bt694.2.2.1,bt705.1,bt705.2.1,bt705.2.2.1,bt705.2.2.2.1))))
theorem am1 {p:Prop} (h:p:=by repeat(first|(with_reducible first|exact HB.out|apply G4|apply G3|apply G2|refine G1 ?_ lg7.out|refine G1 ?_ lg8.out|refine G1 ?_ (Jp.ge HI693.out)|refine G1 ?_ lg9.out)|exact HB.out)):p:=h
theorem as7 {p:Prop} (h:p:=by repeat(first|(with_reducible first|exact HI693.out|apply Jp.alloc|apply Jp.drewN|apply Jp.drew|apply Jp.set_1|refine Jp.far ?_ lh0.out _|refine Jp.far ?_ lh1.out _|refine Jp.far ?_ ii4.out _)|exact HI693.out)):p:=h
set_option maxHeartbeats 8000000 in
set_option maxRecDepth 100000 in
theorem Gs.calls (k:Nat) (A0:Option Addr) (c0:Nat) (l0:List Int) (r1:List Int) (r2:List (List Int)) (r3:List (S25)) (r4:Int) (r5:Int) (r6:Int) (r7:Int) (w:World) (fc:Kd.C (Kd.int .u8) w A0 l0.length l0) (gc:l0.length<=c0) (h:Gs.f k l0=some (r1,r2,r3,r4,r5,r6,r7)) :
  Calls Try.prog 57 #[.slice A0 l0.length c0] w fun e w'=>∃v0_ v1_ v2_:Value,e = .returned (.tuple #[.agg #[v0_,v1_,v2_], .agg #[.int .i64 r4, .int .i64 r5, .int .i64 r6, .int .i64 r7]])/\Kd.R (Kd.int .i64) 3 w' w.heap.size (fun _=>True) v0_ r1/\Kd.S (Kd.slice 3 (Kd.int .i64)) 22 w' w.heap.size (fun k_=>some k_≠(v0_:Value).ownBlock) v1_ r2/\Kd.Q k25 25 w' w.heap.size (fun k_=>some k_≠(v0_:Value).ownBlock/\some k_≠(v1_:Value).ownBlock) v2_ r3/\Below w.heap.size w w':=by
 have hu28:=Try.underlying28
 have hu69:=Try.underlying69
 have i3:=A_ fc
 have qn:=A_ gc
 clear fc gc
 have HB:=A_ (Below.refl w.heap.size w)
 have H:=h
 unfold Gs.f at H
 clear h
 replace H:=Option.bind_eq_some_iff.mp H
 obtain⟨⟨as4,ii5⟩,th,H⟩:=H
 try dsimp only at H
 have A2:=A_ th
 clear th
 replace H:=Option.bind_eq_some_iff.mp H
 obtain⟨⟨mt,n5,pm,ax4⟩,pb,H⟩:=H
 try dsimp only at H
 have A3:=A_ pb
 clear pb
 replace H:=Option.bind_eq_some_iff.mp H
 obtain⟨⟨bq5,ce1,cq4,dn4,lh2⟩,oc,H⟩:=H
 try dsimp only at H
 have A4:=A_ oc
 clear oc
 simp only[Option.some.injEq,Prod.mk.injEq] at H
 obtain⟨rfl,rfl,rfl,rfl,rfl,rfl,rfl⟩:=H
 go_enter Try.func57,Try.ntmps57
 try go_wp2_with (first|((with_reducible refine gd_ 2 ?_);refine bx_ (N:=2) #[.slice none 0 0, .slice none 0 0, .slice none 0 0] 28 ?_;intro nj hg w5 hbox hb;have lg:=A_ (hbox);have ns0:=A_ ((g83_:w.heap.size<=nj));have lg7:=ns0;replace HB:=hs_ (am1) hb;clear hb hbox hg)|((with_reducible refine gd_ 3 ?_);refine bx_ (N:=3) #[.int .i64 0, .int .i64 0, .int .i64 0, .int .i64 0] 69 ?_;intro mu hg w6 hbox hb;have l6:=A_ (hbox);have ns1:=A_ ((g83_:w.heap.size<=mu));have lg8:=ns1;replace HB:=hs_ (am1) hb;have as5:=nl_ lg hg;have ax5:=nr_ lg hg;replace lg:=bb_ lg hb;clear hb hbox hg)|((with_reducible refine gc_ 69 ?_);refine gl_ 7 Try.func69 #[.slice A0 l0.length c0] ?_;(refine(Gx.calls _ _ l0 as4 ii5 w _ am1 i3.out qn.out A2.out).mono ?_);rintro e w7 ⟨g693,rfl,hi,hb,hb2⟩;refine⟨_,rfl,?_⟩;replace HB:=A_ (hb);have HI693:=A_ (hi);have lh0:=A_ (Jp.ne_blk hi (G9 (g:=nj) (o:=.cells #[.slice none 0 0, .slice none 0 0, .slice none 0 0] 28 (0,0)) (uf0_ lg) hb2) (by decide));have ii6:=A_ (Ne.symm (Jp.ne_blk hi (G9 (g:=nj) (o:=.cells #[.slice none 0 0, .slice none 0 0, .slice none 0 0] 28 (0,0)) (uf0_ lg) hb2) (by decide)));replace lg:=A_ (G9 (g:=nj) (o:=.cells #[.slice none 0 0, .slice none 0 0, .slice none 0 0] 28 (0,0)) (uf0_ lg) hb2);have lh1:=A_ (Jp.ne_blk hi (G9 (g:=mu) (o:=.cells #[.int .i64 0, .int .i64 0, .int .i64 0, .int .i64 0] 69 (0,0)) (uf0_ l6) hb2) (by decide));have ii7:=A_ (Ne.symm (Jp.ne_blk hi (G9 (g:=mu) (o:=.cells #[.int .i64 0, .int .i64 0, .int .i64 0, .int .i64 0] 69 (0,0)) (uf0_ l6) hb2) (by decide)));replace l6:=A_ (G9 (g:=mu) (o:=.cells #[.int .i64 0, .int .i64 0, .int .i64 0, .int .i64 0] 69 (0,0)) (uf0_ l6) hb2))|((with_reducible refine gc_ 77 ?_);refine gl_ 9 Try.func77 #[.pointer (some ⟨g693,0,none⟩), .int .i64 12] ?_;(refine(Ft.calls k g693 as4 ii5 12 mt n5 pm ax4 w _ as7 am1 A3.out).mono ?_);rintro e w8 ⟨ns2,ns3,ns4,rfl,aj,ar,ef,hi,hb,hk⟩;refine⟨_,rfl,?_⟩;replace lg:=kb_ hk lg ii6;replace l6:=kb_ hk l6 ii7;have yh:=A_ (Kd.R_lower aj (G0 (am1)));have ab3:=A_ (Kd.S_lower ar (G0 (am1)));have ab4:=A_ (Kd.Q_lower ef (G0 (am1)));replace HB:=A_ (hb);replace HI693:=A_ (hi))|((with_reducible refine gd_ 5 ?_);refine bx_ (N:=5) #[.slice none 0 0, .slice none 0 0, .slice none 0 0] 28 ?_;intro h9 hg w9 hbox hb;replace yh:=rb_ yh hb;replace ab3:=sb_ ab3 hb;replace ab4:=qb_ ab4 hb;have t2:=A_ (hbox);have ns5:=A_ ((g83_:w.heap.size<=h9));have lg9:=ns5;replace HB:=hs_ (am1) hb;have ce2:=nl_ lg hg;have ag3:=nr_ lg hg;replace lg:=bb_ lg hb;have bq6:=nl_ l6 hg;have u7:=nr_ l6 hg;replace l6:=bb_ l6 hb;have ii4:=A_ ((by rw[hg];exact Nat.ne_of_lt (Jp.lt (show Jp w _ g693 as4 ax4 from as7)):g693≠h9));have ii8:=A_ ((by rw[hg];exact Nat.ne_of_gt (Jp.lt (show Jp w _ g693 as4 ax4 from as7)):h9≠g693));replace HI693:=A_ (Jp.below (as7) hb);clear hb hbox hg;obtain⟨ax,av,ao5⟩:=Kd.R_slice yh.out;subst ao5;have ah3:=ag3.out;have ah4:=ce2.out;have bv1:=u7.out;have bv2:=bq6.out;have cg3:=ii8.out;have cg4:=ii4.out;obtain⟨sf,sg,ch5,sh,si,ch6⟩:=blk3_ t2;obtain⟨ow,m7,ep5⟩:=Kd.S_slice ab3.out;subst ep5;obtain⟨j9,jy,at5,_⟩:=Kd.Q_slice ab4.out;subst at5))
 have n0_:Gy (Kd.R (Kd.int .i64) 3 (((w9.setCell ⟨h9,0,none⟩ (.slice ax mt.length av)).setCell ⟨h9,1,none⟩ (.slice ow n5.length m7)).setCell ⟨h9,2,none⟩ (.slice j9 pm.length jy)) w.heap.size (fun _=>True) (.slice ax mt.length av) mt):=⟨ra_ yh⟩
 have n1_:Gy (Kd.S (Kd.slice 3 (Kd.int .i64)) 22 (((w9.setCell ⟨h9,0,none⟩ (.slice ax mt.length av)).setCell ⟨h9,1,none⟩ (.slice ow n5.length m7)).setCell ⟨h9,2,none⟩ (.slice j9 pm.length jy)) w.heap.size (fun k_=>some k_≠(.slice ax mt.length av:Value).ownBlock) (.slice ow n5.length m7) n5):=⟨sa_ ab3⟩
 have n2_:Gy (Kd.Q k25 25 (((w9.setCell ⟨h9,0,none⟩ (.slice ax mt.length av)).setCell ⟨h9,1,none⟩ (.slice ow n5.length m7)).setCell ⟨h9,2,none⟩ (.slice j9 pm.length jy)) w.heap.size (fun k_=>some k_≠(.slice ax mt.length av:Value).ownBlock/\some k_≠(.slice ow n5.length m7:Value).ownBlock) (.slice j9 pm.length jy) pm):=⟨qa_ ab4⟩
 have n3_:Gy ((((w9.setCell ⟨h9,0,none⟩ (.slice ax mt.length av)).setCell ⟨h9,1,none⟩ (.slice ow n5.length m7)).setCell ⟨h9,2,none⟩ (.slice j9 pm.length jy)).heap[nj]? = some (.cells #[.slice none 0 0, .slice none 0 0, .slice none 0 0] 28 (0,0))):=⟨ba_ lg⟩
 have n4_:Gy ((((w9.setCell ⟨h9,0,none⟩ (.slice ax mt.length av)).setCell ⟨h9,1,none⟩ (.slice ow n5.length m7)).setCell ⟨h9,2,none⟩ (.slice j9 pm.length jy)).heap[mu]? = some (.cells #[.int .i64 0, .int .i64 0, .int .i64 0, .int .i64 0] 69 (0,0))):=⟨ba_ l6⟩
 have n5_:Gy ((((w9.setCell ⟨h9,0,none⟩ (.slice ax mt.length av)).setCell ⟨h9,1,none⟩ (.slice ow n5.length m7)).setCell ⟨h9,2,none⟩ (.slice j9 pm.length jy)).heap[h9]? = some (.cells #[.slice ax mt.length av, .slice ow n5.length m7, .slice j9 pm.length jy] 28 (0,0))):=⟨ba_ t2⟩
 have n6_:Gy (Jp w (((w9.setCell ⟨h9,0,none⟩ (.slice ax mt.length av)).setCell ⟨h9,1,none⟩ (.slice ow n5.length m7)).setCell ⟨h9,2,none⟩ (.slice j9 pm.length jy)) g693 as4 ax4):=⟨as7⟩
 have n7_:Gy (Below w.heap.size w (((w9.setCell ⟨h9,0,none⟩ (.slice ax mt.length av)).setCell ⟨h9,1,none⟩ (.slice ow n5.length m7)).setCell ⟨h9,2,none⟩ (.slice j9 pm.length jy))):=⟨am1⟩
 generalize (((w9.setCell ⟨h9,0,none⟩ (.slice ax mt.length av)).setCell ⟨h9,1,none⟩ (.slice ow n5.length m7)).setCell ⟨h9,2,none⟩ (.slice j9 pm.length jy))=j4 at n0_ n1_ n2_ n3_ n4_ n5_ n6_ n7_ |-
 have yh:=n0_
 have ab3:=n1_
 have ab4:=n2_
 have lg:=n3_
 have l6:=n4_
 have t2:=n5_
 have HI693:=n6_
 have HB:=n7_
 clear n0_ n1_ n2_ n3_ n4_ n5_ n6_ n7_
 replace yh:=rd_ yh
 replace ab3:=sd_ ab3
 replace ab4:=qd_ ab4
 replace lg:=bd_ lg
 replace l6:=bd_ l6
 replace t2:=bd_ t2
 replace HI693:=A_ (Jp.drew HI693.out)
 replace HB:=A_ (G2 HB.out)
 refine start_ (n:=6) (S:=fun w'=>w'.cell? ⟨h9,0,none⟩=some (.slice ax mt.length av)/\w'.cell? ⟨h9,1,none⟩=some (.slice ow n5.length m7)/\w'.cell? ⟨h9,2,none⟩=some (.slice j9 pm.length jy)) (ds:=[]) (tl_ 6 0) (g1_) rfl (g1_) ⟨(Gz t2.out 0).trans rfl,(Gz t2.out 1).trans rfl,(Gz t2.out 2).trans rfl⟩ (fun hHeld=>?_)
 generalize j4.drew=pp at yh ab3 ab4 lg l6 t2 HI693 HB hHeld |-
 refine pure_ (i:=1) (N:=some 11) (v:=?_) (a':=?_) (tl_ 6 2) rfl rfl (g1_) (fun _ _ _ h=>h) (Or.inl ⟨by rfl,?_⟩) ?_ ?_
 rotate_left
 ·intro w'
  go_simp
  with_reducible rfl
 rotate_left
 ·simp only[Act.put,List.setIfInBounds_toArray,List.set_cons_zero,List.set_cons_succ,i64_w,i32_w]
  rfl
 refine take_ (i:=0) (N:=some 10) (v:=?_) (a':=?_) (tl_ 6 3) rfl rfl (g1_) (fun _ _ _ h=>h) (Or.inl ⟨by rfl,?_⟩) hHeld ?_ ?_
 rotate_left
 ·rintro w' ⟨s0,s1,s2⟩
  go_simp
  with_reducible rfl
 rotate_left
 ·simp only[Act.put,List.setIfInBounds_toArray,List.set_cons_zero,List.set_cons_succ,i64_w,i32_w]
  rfl
 refine take_ (i:=2) (N:=some 12) (v:=?_) (a':=?_) (tl_ 6 7) rfl rfl (g1_) (fun _ _ _ h=>h) (Or.inl ⟨by rfl,?_⟩) hHeld ?_ ?_
 rotate_left
 ·rintro w' ⟨s0,s1,s2⟩
  go_simp
  with_reducible rfl
 rotate_left
 ·simp only[Act.put,List.setIfInBounds_toArray,List.set_cons_zero,List.set_cons_succ,i64_w,i32_w]
  rfl
 refine one_ (i:=3) (N:=some 13) (tl_ 6 15) rfl rfl (g1_) (by decide) (fun K hK=>?_)
 refine goes_ Try.func103 (g1_) rfl #[.pointer (some ⟨g693,0,none⟩), .agg #[.slice ax mt.length av, .slice ow n5.length m7, .slice j9 pm.length jy]] (by rfl) rfl rfl (g3_) ?_
 refine(Fh.calls k g693 as4 ax4 _ _ mt _ _ n5 _ _ pm bq5 ce1 cq4 dn4 lh2 w _ as7 am1 (cR_ yh) (lR_ yh) (far_slice (Jp.own_ne HI693.out yh.out (by decide))) (Kd.C_foot_own ((Kd.S_R (Jp.apartS (show Jp w _ g693 as4 ax4 from as7) (uf3_ ab3) (by decide)))) (fun _ h_=>h_.2)) (lS_ ab3) (Kd.C_foot_ownQ (Jp.apartQ (show Jp w _ g693 as4 ax4 from as7) (uf6_ ab4) (by decide)) (fun _ h_=>h_.2)) (lQ_ ab4) A4.out).mono ?_
 rintro e iq ⟨rfl,hi,hb,hk⟩
 refine⟨_,rfl,?_⟩
 replace lg:=kb_ hk lg ii6
 replace l6:=kb_ hk l6 ii7
 replace yh:=A_ (Kd.R_mono (Kd.R_keep (Jp.apart (show Jp w _ g693 as4 ax4 from as7) (uf2_ yh) (by decide)) hk (fun _ h=>h.2)) (fun _ h=>h.1))
 replace ab3:=A_ (Kd.S_mono (Kd.S_keep (Jp.apartS (show Jp w _ g693 as4 ax4 from as7) (uf3_ ab3) (by decide)) hk (fun _ h=>h.2)) (fun _ h=>h.1))
 replace ab4:=A_ (Kd.Q_mono (Kd.Q_keep (Jp.apartQ (show Jp w _ g693 as4 ax4 from as7) (uf6_ ab4) (by decide)) hk (fun _ h=>h.2)) (fun _ h=>h.1))
 replace t2:=kb_ hk t2 ii8
 replace HB:=A_ (hb)
 replace HI693:=A_ (hi)
 refine hK.out _ _ ⟨(Gz t2.out 0).trans rfl,(Gz t2.out 1).trans rfl,(Gz t2.out 2).trans rfl⟩ (fun hHeld=>?_)
 clear hK K
 refine nm_ ?_
 refine one_ (i:=4) (N:=none) (tl_ 6 31) rfl rfl (g1_) (by decide) (fun K hK=>?_)
 have ns6:iq.cell? ⟨nj,0,none⟩=some (.slice none 0 0):=(Gz lg.out 0).trans rfl
 have ns7:=G8 lg.out 0
 have ns8:=ax5.out
 have ns9:=ag3.out
 have nt0:=as5.out
 have nt1:=ce2.out
 have nt2:iq.cell? ⟨nj,1,none⟩=some (.slice none 0 0):=(Gz lg.out 1).trans rfl
 have nt3:=G8 lg.out 1
 have nt8:iq.cell? ⟨nj,2,none⟩=some (.slice none 0 0):=(Gz lg.out 2).trans rfl
 have nt9:=G8 lg.out 2
 refine skip_ (w1:=?_) (by rfl) rfl ?_ ?_
 rotate_left
 ·go_simp
  rfl
 refine hK.out _ _ ⟨(cf_ ag3 ((cf_ ag3 ((cf_ ag3 (hHeld.1)))))),(cf_ ag3 ((cf_ ag3 ((cf_ ag3 (hHeld.2.1)))))),(cf_ ag3 ((cf_ ag3 ((cf_ ag3 (hHeld.2.2))))))⟩ (fun hHeld=>?_)
 clear hK K
 refine one_ (i:=5) (N:=none) (tl_ 6 63) rfl rfl (g1_) (by decide) (fun K hK=>?_)
 have lc8:iq.cell? ⟨mu,0,none⟩=some (.int .i64 0):=(Gz l6.out 0).trans rfl
 have lc9:=G8 l6.out 0
 have nu4:=u7.out
 have nu5:=bq6.out
 have ld2:iq.cell? ⟨mu,1,none⟩=some (.int .i64 0):=(Gz l6.out 1).trans rfl
 have ld3:=G8 l6.out 1
 have ld6:iq.cell? ⟨mu,2,none⟩=some (.int .i64 0):=(Gz l6.out 2).trans rfl
 have ld7:=G8 l6.out 2
 have le0:iq.cell? ⟨mu,3,none⟩=some (.int .i64 0):=(Gz l6.out 3).trans rfl
 have le1:=G8 l6.out 3
 refine skip_ (w1:=?_) (by rfl) rfl ?_ ?_
 rotate_left
 ·go_simp
  rfl
 refine hK.out _ _ ⟨(cf_ u7 ((cf_ u7 ((cf_ u7 ((cf_ u7 (hHeld.1)))))))),(cf_ u7 ((cf_ u7 ((cf_ u7 ((cf_ u7 (hHeld.2.1)))))))),(cf_ u7 ((cf_ u7 ((cf_ u7 ((cf_ u7 (hHeld.2.2))))))))⟩ (fun hHeld=>?_)
 clear hK K
 refine done_ (g1_) ?_
 try go_wp2
 refine bodyPost_ret (results_cc rfl _ _ nj mu 28 69 #[.slice ax mt.length av, .slice ow n5.length m7, .slice j9 pm.length jy] #[.int .i64 bq5, .int .i64 ce1, .int .i64 cq4, .int .i64 dn4] (0,0) (0,0) _ _ rfl (ba_ lg) Try.underlying28 rfl (g1_) rfl (ba_ l6) Try.underlying69 rfl (g1_)) rfl ?_
 exact⟨_,_,_,g4_,ra_ yh,sa_ ab3,qa_ ab4,am1⟩
mutual
def Fl.j0:Nat->Bool->Bool->List Int->List (List Int)->List (S25)->Int->Int->Int->Int->List Int->List (List Int)->List (S25)->Option (Bool)
 | 0,_,_,_,_,_,_,_,_,_,_,_,_=>none
 | k + 1,x6,x39,bg7,bg8,bq7,ce3,ek1,ek2,ek3,bg9,bh0,ce4=>if x39=true then(some false) else(if x6=true then((Gv.f k bg9 bh0 ce4 4 0 0 0).bind fun bt752=>(if ce3=2 then((Gj.f k bg9 bh0).bind fun dn5=>((Gj.f k bg7 bg8).bind fun dn6=>((Fy.f k dn5 dn6).bind fun ek4=>(Fl.j1 k bt752.2.2.2 (!ek4) bg7 bg8 bq7 ce3 ek1 ek2 ek3 bg9 bh0 ce4 bt752.1 bt752.2.1 bt752.2.2.1)))) else(if ce3=3 then((Gj.f k bg9 bh0).bind fun dn7=>((Gj.f k bg7 bg8).bind fun dn8=>((Fy.f k dn7 dn8).bind fun ek5=>(Fl.j1 k bt752.2.2.2 (!ek5) bg7 bg8 bq7 ce3 ek1 ek2 ek3 bg9 bh0 ce4 bt752.1 bt752.2.1 bt752.2.2.1)))) else(Fl.j1 k bt752.2.2.2 false bg7 bg8 bq7 ce3 ek1 ek2 ek3 bg9 bh0 ce4 bt752.1 bt752.2.1 bt752.2.2.1)))) else((Fp.f k bg9 bh0 ce4 bg7 bg8 bq7).bind fun fy2=>(if fy2=true then((Gn.f k).bind fun fy3=>(some fy3)) else((Gk.f k bg7 bg8 bq7).bind fun fy4=>(if fy4=true then(some false) else((Gn.f k).bind fun fy5=>(some fy5)))))))
def Fl.j1:Nat->Bool->Bool->List Int->List (List Int)->List (S25)->Int->Int->Int->Int->List Int->List (List Int)->List (S25)->List Int->List (List Int)->List (S25)->Option (Bool)
 | 0,_,_,_,_,_,_,_,_,_,_,_,_,_,_,_=>none
 | k + 1,wv,x76,bg7,bg8,bq7,ce3,ek1,ek2,ek3,bg9,bh0,ce4,lh3,lh4,lh5=>if x76=true then(some false) else((Gk.f k bg9 bh0 ce4).bind fun fy6=>(if fy6=true then(if ce3=4 then(some true) else(if (bq7.length:Int) ≥ 8 then(some true) else(if wv=true then((Fp.f k lh3 lh4 lh5 bg7 bg8 bq7).bind fun fy7=>(some fy7)) else(some false)))) else(some false)))
end
def Fl.f (k:Nat) (l0:List Int):Option (Bool):=if (l0.length:Int) > 1048576 then(some true) else((Gs.f k l0).bind fun bt710=>((Gv.f k bt710.1 bt710.2.1 bt710.2.2.1 bt710.2.2.2.1 bt710.2.2.2.2.1 bt710.2.2.2.2.2.1 bt710.2.2.2.2.2.2).bind fun bt725=>((Gg.f k bt710.1 bt710.2.1 bt710.2.2.1 bt710.2.2.2.1 bt710.2.2.2.2.1 bt710.2.2.2.2.2.1 bt710.2.2.2.2.2.2).bind fun bt736=>((Fp.f k bt725.1 bt725.2.1 bt725.2.2.1 bt736.1 bt736.2.1 bt736.2.2.1).bind fun dn9=>(if dn9=true then(Fl.j0 k bt725.2.2.2 (bt725.2.2.2 != bt736.2.2.2) bt710.1 bt710.2.1 bt710.2.2.1 bt710.2.2.2.1 bt710.2.2.2.2.1 bt710.2.2.2.2.2.1 bt710.2.2.2.2.2.2 bt725.1 bt725.2.1 bt725.2.2.1) else(Fl.j0 k bt725.2.2.2 true bt710.1 bt710.2.1 bt710.2.2.1 bt710.2.2.2.1 bt710.2.2.2.2.1 bt710.2.2.2.2.2.1 bt710.2.2.2.2.2.2 bt725.1 bt725.2.1 bt725.2.2.1))))))
def Fl.T11:Bool × List (List Nat × List Nat):=(true,[([],[]),([0],[0]),([1],[1]),([2],[2]),([3],[3]),([4,3],[3,4]),([5,3],[3,5]),([3,6],[3,6]),([7,3],[7]),([8],[8]),([9,8],[8,9]),([10,8,8],[8,10]),([8],[8]),([12,8],[8,12]),([13,11,8],[8,13]),([11,14,14,8],[8,11,14]),([15,8],[8,15]),([8,16],[8,16])])
def Fl.B11:List Nat:=[0,1,3,7,15,31,63,127,255,511,1023,2047,511,4607,16383,32767,65535,131071]
theorem Fl.tab11:rtab .any (opsOf Try.f12 11)=Fl.T11:=by kernel_rfl
theorem Fl.bits11:waitsOk Fl.T11.2 Fl.B11=true:=by kernel_rfl
theorem fn {p:Prop} (h:p:=by repeat(first|(with_reducible first|exact HB.out|apply G4|apply G3|apply G2|refine G1 ?_ lh6.out|refine G1 ?_ lh7.out|refine G1 ?_ lh8.out|refine G1 ?_ lh9.out|refine G1 ?_ li0.out)|exact HB.out)):p:=h
set_option maxHeartbeats 8000000 in
set_option maxRecDepth 100000 in
theorem Fl.calls (k:Nat) (A0:Option Addr) (c0:Nat) (l0:List Int) (r:Bool) (w:World) (fc:Kd.C (Kd.int .u8) w A0 l0.length l0) (gc:l0.length<=c0) (h:Fl.f k l0=some r) :
  Calls Try.prog 12 #[.slice A0 l0.length c0] w fun e w'=>e = .returned (.bool r)/\Below w.heap.size w w':=by
 have hu28:=Try.underlying28
 have hu69:=Try.underlying69
 have hu25:=Try.underlying25
 have i3:=A_ fc
 have qn:=A_ gc
 clear fc gc
 have HB:=A_ (Below.refl w.heap.size w)
 have H:=h
 unfold Fl.f at H
 clear h
 by_cases c2:(l0.length:Int) > 1048576
 ·rw[if_pos c2] at H
  have yt:=decide_eq_true c2
  have at3:decide (1048576 < l0.length)=true:=decide_eq_true (by omega)
  clear c2
  obtain rfl:=Option.some.inj H
  go_enter Try.func12,Try.ntmps12
  go_wp2
  go_ret
  exact⟨g4_,fn⟩
 rw[if_neg c2] at H
 have yt:=decide_eq_false c2
 have at3:decide (1048576 < l0.length)=false:=decide_eq_false (by omega)
 clear c2
 replace H:=Option.bind_eq_some_iff.mp H
 obtain⟨⟨bt,dh,fk,i7,n6,oq,o8⟩,pb,H⟩:=H
 try dsimp only at H
 have A3:=A_ pb
 clear pb
 replace H:=Option.bind_eq_some_iff.mp H
 obtain⟨⟨be,cm,ep,ek6⟩,oc,H⟩:=H
 try dsimp only at H
 have A4:=A_ oc
 clear oc
 replace H:=Option.bind_eq_some_iff.mp H
 obtain⟨⟨cn,ea,gm,ii9⟩,A50,H⟩:=H
 try dsimp only at H
 have A5:=A_ A50
 clear A50
 have HC6:=A_ H
 clear H
 go_enter Try.func12,Try.ntmps12
 go_upto_region 6 with(first|((with_reducible refine gc_ 57 ?_);refine gl_ 16 Try.func57 #[.slice A0 l0.length c0] ?_;(refine(Gs.calls k _ _ l0 bt dh fk i7 n6 oq o8 _ (cu_ i3.out) qn.out A3.out).mono ?_);rintro e w7 ⟨nv2,nv3,nv4,rfl,aj,ar,ef,hb⟩;refine⟨_,rfl,?_⟩;have rb:=A_ (Kd.R_lower aj (G0 (fn)));have rc:=A_ (Kd.S_lower ar (G0 (fn)));have re:=A_ (Kd.Q_lower ef (G0 (fn)));replace HB:=hs_ (fn) hb)|((with_reducible refine gd_ 3 ?_);(try(refine gate_guard (by rfl) ?_;dsimp only));refine bx_ (N:=3) #[.slice none 0 0, .slice none 0 0, .slice none 0 0] 28 ?_;intro jv hg w8 hbox hb;replace rb:=rbs_ rb hb;replace rc:=sbs_ rc hb;replace re:=qbs_ re hb;have bx:=A_ (hbox);have nv5:=A_ ((g29_:w.heap.size<=jv));have lh6:=nv5;replace HB:=hs_ (fn) hb;clear hb hbox hg)|((with_reducible refine gd_ 4 ?_);(try(refine gate_guard (by rfl) ?_;dsimp only));refine bx_ (N:=4) #[.int .i64 0, .int .i64 0, .int .i64 0, .int .i64 0] 69 ?_;intro ip hg w9 hbox hb;replace rb:=rbs_ rb hb;replace rc:=sbs_ rc hb;replace re:=qbs_ re hb;have bs:=A_ (hbox);have nv6:=A_ ((g29_:w.heap.size<=ip));have lh7:=nv6;replace HB:=hs_ (fn) hb;have al4:=nl_ bx hg;have as6:=nr_ bx hg;replace bx:=bb_ bx hb;clear hb hbox hg;obtain⟨ax,av,ao5⟩:=Kd.R_slice rb.out;subst ao5;have ah3:=al4.out;have ah4:=as6.out;obtain⟨xg,xh,bd7,zv,xi,bd8⟩:=blk3_ bx;obtain⟨bq,bb,ao8⟩:=Kd.S_slice rc.out;subst ao8;obtain⟨es,dr,ag7,_⟩:=Kd.Q_slice re.out;subst ag7;obtain⟨am8,am9,el9,ia8,an0,an1,em0,ia9⟩:=blk4_ bs)|((with_reducible refine gc_ 56 ?_);refine gl_ 22 Try.func56 #[.agg #[.slice ax bt.length av, .slice bq dh.length bb, .slice es fk.length dr], .agg #[.int .i64 i7, .int .i64 n6, .int .i64 oq, .int .i64 o8]] ?_;(refine(Gv.calls k _ _ bt _ _ dh _ _ fk i7 n6 oq o8 be cm ep ek6 _ (c2R_ rb) (lR_ rb) (c2S_ rc) (lS_ rc) (c2Q_ re) (lQ_ re) A4.out).mono ?_);rintro e jp ⟨nv7,nv8,nv9,rfl,aj,ar,ef,hb⟩;refine⟨_,rfl,?_⟩;have ab5:=A_ (Kd.R_lower aj (G0 (fn)));have ab6:=A_ (Kd.S_lower ar (G0 (fn)));have yi:=A_ (Kd.R_lower ef (G0 (fn)));replace rb:=rbs_ rb hb;replace rc:=sbs_ rc hb;replace re:=qbs_ re hb;replace bx:=A_ (G9 (g:=jv) (o:=.cells #[.slice ax bt.length av, .slice bq dh.length bb, .slice es fk.length dr] 28 (0,0)) (ba_ bx) hb);replace bs:=A_ (G9 (g:=ip) (o:=.cells #[.int .i64 i7, .int .i64 n6, .int .i64 oq, .int .i64 o8] 69 (0,0)) (ba_ bs) hb);replace HB:=hs_ (fn) hb)|((with_reducible refine gd_ 5 ?_);(try(refine gate_guard (by rfl) ?_;dsimp only));refine bx_ (N:=5) #[.slice none 0 0, .slice none 0 0, .slice none 0 0] 28 ?_;intro g8 hg j4 hbox hb;replace rb:=rbs_ rb hb;replace rc:=sbs_ rc hb;replace re:=qbs_ re hb;replace ab5:=rbs_ ab5 hb;replace ab6:=sbs_ ab6 hb;replace yi:=rbs_ yi hb;have bz:=A_ (hbox);have nw0:=A_ ((g29_:w.heap.size<=g8));have lh8:=nw0;replace HB:=hs_ (fn) hb;have yj:=A_ ((g163_:jv≠g8));have al5:=A_ ((g164_:g8≠jv));replace bx:=bb_ bx hb;have yk:=A_ ((g165_:ip≠g8));have al6:=A_ ((g166_:g8≠ip));replace bs:=bb_ bs hb;clear hb hbox hg;obtain⟨az,ay,az9⟩:=Kd.R_slice ab5.out;subst az9;have ch8:=al5.out;have ch9:=yj.out;have bv3:=al6.out;have bv4:=yk.out;obtain⟨vh,vi,bj7,wu,vj,bj8⟩:=blk3_ bz;obtain⟨bh,bc,aq5⟩:=Kd.S_slice ab6.out;subst aq5;obtain⟨dj,bw,by5⟩:=Kd.R_slice yi.out;subst by5;obtain⟨ct9,cu0,gc0,cu1,cu2,gc1⟩:=blk3_ bx;obtain⟨dp5,dp6,gc2,li1,dp7,dp8,gc3,li2⟩:=blk4_ bs)|((with_reducible refine gc_ 54 ?_);refine gl_ 28 Try.func54 #[.agg #[.slice ax bt.length av, .slice bq dh.length bb, .slice es fk.length dr], .agg #[.int .i64 i7, .int .i64 n6, .int .i64 oq, .int .i64 o8]] ?_;(refine(Gg.calls k _ _ bt _ _ dh _ _ fk i7 n6 oq o8 cn ea gm ii9 _ (c2R_ rb) (lR_ rb) (c2S_ rc) (lS_ rc) (c2Q_ re) (lQ_ re) A5.out).mono ?_);rintro e w26 ⟨nw1,nw2,nw3,rfl,aj,ar,ef,hb⟩;refine⟨_,rfl,?_⟩;have ax6:=A_ (Kd.R_lower aj (G0 (fn)));have ax7:=A_ (Kd.S_lower ar (G0 (fn)));have ax8:=A_ (Kd.Q_lower ef (G0 (fn)));replace rb:=rbs_ rb hb;replace rc:=sbs_ rc hb;replace re:=qbs_ re hb;replace ab5:=rbs_ ab5 hb;replace ab6:=sbs_ ab6 hb;replace yi:=rbs_ yi hb;replace bx:=A_ (G9 (g:=jv) (o:=.cells #[.slice ax bt.length av, .slice bq dh.length bb, .slice es fk.length dr] 28 (0,0)) (ba_ bx) hb);replace bs:=A_ (G9 (g:=ip) (o:=.cells #[.int .i64 i7, .int .i64 n6, .int .i64 oq, .int .i64 o8] 69 (0,0)) (ba_ bs) hb);replace bz:=A_ (G9 (g:=g8) (o:=.cells #[.slice az be.length ay, .slice bh cm.length bc, .slice dj ep.length bw] 28 (0,0)) (ba_ bz) hb);replace HB:=hs_ (fn) hb)|((with_reducible refine gd_ 7 ?_);(try(refine gate_guard (by rfl) ?_;dsimp only));refine bx_ (N:=7) #[.slice none 0 0, .slice none 0 0, .slice none 0 0] 28 ?_;intro gi hg w27 hbox hb;replace rb:=rbs_ rb hb;replace rc:=sbs_ rc hb;replace re:=qbs_ re hb;replace ab5:=rbs_ ab5 hb;replace ab6:=sbs_ ab6 hb;replace yi:=rbs_ yi hb;replace ax6:=rbs_ ax6 hb;replace ax7:=sbs_ ax7 hb;replace ax8:=qbs_ ax8 hb;have dz:=A_ (hbox);have nw4:=A_ ((g29_:w.heap.size<=gi));have lh9:=nw4;replace HB:=hs_ (fn) hb;have yl:=A_ ((g163_:jv≠gi));have bh1:=A_ ((g164_:gi≠jv));replace bx:=bb_ bx hb;have ag4:=A_ ((g165_:ip≠gi));have ce5:=A_ ((g166_:gi≠ip));replace bs:=bb_ bs hb;have t5:=nl_ bz hg;have al7:=nr_ bz hg;replace bz:=bb_ bz hb;clear hb hbox hg;obtain⟨cd,b7,ba7⟩:=Kd.R_slice ax6.out;subst ba7;have br5:=bh1.out;have br6:=yl.out;have ds4:=ce5.out;have ds5:=ag4.out;have et6:=al7.out;have et7:=t5.out;obtain⟨ds6,ds7,gj3,ds8,ds9,gj4⟩:=blk3_ dz;obtain⟨fa,er,av4⟩:=Kd.S_slice ax7.out;subst av4;obtain⟨gl,f4,bw3,_⟩:=Kd.Q_slice ax8.out;subst bw3))
 (try simp only[Act.put,List.setIfInBounds_toArray,List.set_cons_zero,List.set_cons_succ])
 go_cut [39] (fun v39 wc=>∃(kq:Nat) (ek7:Bool),v39 = .bool ek7/\Gy (Fl.j0 kq ek6 ek7 bt dh fk i7 n6 oq o8 be cm ep=some r)/\Gy (kq<=k)/\Gy (Kd.R (Kd.int .i64) 3 wc w.heap.size (fun _=>True) (.slice ax bt.length av) bt)/\Gy (Kd.S (Kd.slice 3 (Kd.int .i64)) 22 wc w.heap.size (fun _=>True) (.slice bq dh.length bb) dh)/\Gy (Kd.Q k25 25 wc w.heap.size (fun _=>True) (.slice es fk.length dr) fk)/\Gy (Kd.R (Kd.int .i64) 3 wc w.heap.size (fun _=>True) (.slice az be.length ay) be)/\Gy (Kd.S (Kd.slice 3 (Kd.int .i64)) 22 wc w.heap.size (fun _=>True) (.slice bh cm.length bc) cm)/\Gy (Kd.Q k25 25 wc w.heap.size (fun _=>True) (.slice dj ep.length bw) ep)/\Gy (Kd.R (Kd.int .i64) 3 wc w.heap.size (fun _=>True) (.slice cd cn.length b7) cn)/\Gy (Kd.S (Kd.slice 3 (Kd.int .i64)) 22 wc w.heap.size (fun _=>True) (.slice fa ea.length er) ea)/\Gy (Kd.Q k25 25 wc w.heap.size (fun _=>True) (.slice gl gm.length f4) gm)/\Gy (hc_ wc jv #[(.slice ax bt.length av),(.slice bq dh.length bb),(.slice es fk.length dr)] 28)/\Gy (hc_ wc ip #[.int .i64 i7, .int .i64 n6, .int .i64 oq, .int .i64 o8] 69)/\Gy (hc_ wc g8 #[(.slice az be.length ay),(.slice bh cm.length bc),(.slice dj ep.length bw)] 28)/\Gy (hc_ wc gi #[(.slice cd cn.length b7),(.slice fa ea.length er),(.slice gl gm.length f4)] 28)/\Gy (Below w.heap.size w wc))
 case first=>
  have H:=HC6.out
  clear HC6
  obtain⟨dn9,A35,H⟩:=bind_ H
  by_cases k9:dn9=true
  ·subst k9
   replace H:=ifp_ H
   have H':=A_ H
   clear H
   have fg0:=al5.out
   have fg1:=yj.out
   have je9:=al6.out
   have jf0:=yk.out
   have kq7:=t5.out
   have kq8:=al7.out
   obtain⟨ej2,ej3,ej4,ej5,ej6,ej7⟩:=blk3_ bz
   have kq9:=bh1.out
   have kr0:=yl.out
   have jr8:=ce5.out
   have jr9:=ag4.out
   obtain⟨li3,li4,li5,li6,li7,li8⟩:=blk3_ dz
   go_wp2_with (first|((with_reducible refine gc_ 21 ?_);refine gl_ 33 Try.func21 #[.agg #[.slice az be.length ay, .slice bh cm.length bc, .slice dj ep.length bw], .agg #[.slice cd cn.length b7, .slice fa ea.length er, .slice gl gm.length f4]] ?_;(refine(Fp.calls k _ _ be _ _ cm _ _ ep _ _ cn _ _ ea _ _ gm true _ (c2R_ ab5) (lR_ ab5) (c2S_ ab6) (lS_ ab6) (c2R_ yi) (lR_ yi) (c2R_ ax6) (lR_ ax6) (c2S_ ax7) (lS_ ax7) (c2Q_ ax8) (lQ_ ax8) A35.out).mono ?_);rintro e w44 ⟨rfl,hb⟩;refine⟨_,rfl,?_⟩;replace rb:=rbs_ rb hb;replace rc:=sbs_ rc hb;replace re:=qbs_ re hb;replace ab5:=rbs_ ab5 hb;replace ab6:=sbs_ ab6 hb;replace yi:=rbs_ yi hb;replace ax6:=rbs_ ax6 hb;replace ax7:=sbs_ ax7 hb;replace ax8:=qbs_ ax8 hb;replace bx:=A_ (G9 (g:=jv) (o:=.cells #[.slice ax bt.length av, .slice bq dh.length bb, .slice es fk.length dr] 28 (0,0)) (ba_ bx) hb);replace bs:=A_ (G9 (g:=ip) (o:=.cells #[.int .i64 i7, .int .i64 n6, .int .i64 oq, .int .i64 o8] 69 (0,0)) (ba_ bs) hb);replace bz:=A_ (G9 (g:=g8) (o:=.cells #[.slice az be.length ay, .slice bh cm.length bc, .slice dj ep.length bw] 28 (0,0)) (ba_ bz) hb);replace dz:=A_ (G9 (g:=gi) (o:=.cells #[.slice cd cn.length b7, .slice fa ea.length er, .slice gl gm.length f4] 28 (0,0)) (ba_ dz) hb);replace HB:=hs_ (fn) hb))
   go_meet
   case rel=>exact⟨_,((ek6 != ii9)),(g2_),H',⟨g9_⟩,⟨ra_ rb⟩,⟨sa_ rc⟩,⟨qa_ re⟩,⟨ra_ ab5⟩,⟨sa_ ab6⟩,⟨Kd.Q_of_R (ra_ yi)⟩,⟨ra_ ax6⟩,⟨sa_ ax7⟩,⟨qa_ ax8⟩,⟨uf0_ bx⟩,⟨uf0_ bs⟩,⟨uf0_ bz⟩,⟨uf0_ dz⟩,⟨fn⟩⟩
  replace k9:=Bool.eq_false_iff.mpr k9
  subst k9
  replace H:=ifn_ H
  have H':=A_ H
  clear H
  have da7:=al5.out
  have da8:=yj.out
  have dv3:=al6.out
  have dv4:=yk.out
  have dz2:=t5.out
  have dz3:=al7.out
  obtain⟨df1,df2,hc4,df3,df4,hc5⟩:=blk3_ bz
  have fg2:=bh1.out
  have fg3:=yl.out
  have fg4:=ce5.out
  have fg5:=ag4.out
  obtain⟨au2,au3,bn2,au4,au5,bn3⟩:=blk3_ dz
  go_wp2_with (first|((with_reducible refine gc_ 21 ?_);refine gl_ 33 Try.func21 #[.agg #[.slice az be.length ay, .slice bh cm.length bc, .slice dj ep.length bw], .agg #[.slice cd cn.length b7, .slice fa ea.length er, .slice gl gm.length f4]] ?_;(refine(Fp.calls k _ _ be _ _ cm _ _ ep _ _ cn _ _ ea _ _ gm false _ (c2R_ ab5) (lR_ ab5) (c2S_ ab6) (lS_ ab6) (c2R_ yi) (lR_ yi) (c2R_ ax6) (lR_ ax6) (c2S_ ax7) (lS_ ax7) (c2Q_ ax8) (lQ_ ax8) A35.out).mono ?_);rintro e w52 ⟨rfl,hb⟩;refine⟨_,rfl,?_⟩;replace rb:=rbs_ rb hb;replace rc:=sbs_ rc hb;replace re:=qbs_ re hb;replace ab5:=rbs_ ab5 hb;replace ab6:=sbs_ ab6 hb;replace yi:=rbs_ yi hb;replace ax6:=rbs_ ax6 hb;replace ax7:=sbs_ ax7 hb;replace ax8:=qbs_ ax8 hb;replace bx:=A_ (G9 (g:=jv) (o:=.cells #[.slice ax bt.length av, .slice bq dh.length bb, .slice es fk.length dr] 28 (0,0)) (ba_ bx) hb);replace bs:=A_ (G9 (g:=ip) (o:=.cells #[.int .i64 i7, .int .i64 n6, .int .i64 oq, .int .i64 o8] 69 (0,0)) (ba_ bs) hb);replace bz:=A_ (G9 (g:=g8) (o:=.cells #[.slice az be.length ay, .slice bh cm.length bc, .slice dj ep.length bw] 28 (0,0)) (ba_ bz) hb);replace dz:=A_ (G9 (g:=gi) (o:=.cells #[.slice cd cn.length b7, .slice fa ea.length er, .slice gl gm.length f4] 28 (0,0)) (ba_ dz) hb);replace HB:=hs_ (fn) hb))
  go_meet
  case rel=>exact⟨_,(true),(g2_),H',⟨g9_⟩,⟨ra_ rb⟩,⟨sa_ rc⟩,⟨qa_ re⟩,⟨ra_ ab5⟩,⟨sa_ ab6⟩,⟨Kd.Q_of_R (ra_ yi)⟩,⟨ra_ ax6⟩,⟨sa_ ax7⟩,⟨qa_ ax8⟩,⟨uf0_ bx⟩,⟨uf0_ bs⟩,⟨uf0_ bz⟩,⟨uf0_ dz⟩,⟨fn⟩⟩
 clear HC6
 obtain⟨kq,ek7,rfl,HA,HJ5,d4,ek,ez,dn,d2,eh,fl,fv,fy,bx,bs,bz,dz,HB⟩:=hcut
 cases kq with
 | zero=>exact absurd HA.out (by simp[Fl.j0])
 | succ kj5=>?_
 have H:=HA.out
 clear HA
 simp only[Fl.j0] at H
 by_cases c53:ek7=true
 ·subst c53
  replace H:=ifp_ H
  obtain rfl:=Option.some.inj H
  go_wp2
  go_ret
  exact⟨g4_,fn⟩
 replace c53:=Bool.eq_false_iff.mpr c53
 subst c53
 replace H:=ifn_ H
 by_cases c54:ek6=true
 case neg=>
  replace c54:=Bool.eq_false_iff.mpr c54
  subst c54
  replace H:=ifn_ H
  obtain⟨fy2,fz2,H⟩:=bind_ H
  by_cases el0:fy2=true
  ·subst el0
   replace H:=ifp_ H
   obtain⟨fy3,bv8,H⟩:=bind_ H
   obtain rfl:=Option.some.inj H
   have og8:=al5.out
   have og9:=yj.out
   have oh0:=al6.out
   have oh1:=yk.out
   have oh2:=t5.out
   have oh3:=al7.out
   obtain⟨oh4,oh5,oh6,oh7,oh8,oh9⟩:=blk3_ bz
   have oi0:=al4.out
   have oi1:=as6.out
   have oi2:=yl.out
   have oi3:=bh1.out
   obtain⟨oi4,oi5,oi6,oi7,oi8,oi9⟩:=blk3_ bx
   go_wp2_with (first|((with_reducible refine gc_ 21 ?_);refine gl_ 44 Try.func21 #[.agg #[.slice az be.length ay, .slice bh cm.length bc, .slice dj ep.length bw], .agg #[.slice ax bt.length av, .slice bq dh.length bb, .slice es fk.length dr]] ?_;(refine(Fp.calls kj5 _ _ be _ _ cm _ _ ep _ _ bt _ _ dh _ _ fk true _ (cR_ dn) (lR_ dn) (cS_ d2) (lS_ d2) (cQ_ eh) (lQ_ eh) (cR_ d4) (lR_ d4) (cS_ ek) (lS_ ek) (cQ_ ez) (lQ_ ez) fz2.out).mono ?_);rintro e oj0 ⟨rfl,hb⟩;refine⟨_,rfl,?_⟩;replace d4:=rbs_ d4 hb;replace ek:=sbs_ ek hb;replace ez:=qbs_ ez hb;replace dn:=rbs_ dn hb;replace d2:=sbs_ d2 hb;replace eh:=qbs_ eh hb;replace fl:=rbs_ fl hb;replace fv:=sbs_ fv hb;replace fy:=qbs_ fy hb;replace bx:=bb_ bx hb;replace bs:=bb_ bs hb;replace bz:=bb_ bz hb;replace dz:=bb_ dz hb;replace HB:=hs_ (fn) hb)|(go_at_call 23;(with_reducible refine(Gn.calls kj5  fy3 _ bv8.out).mono ?_);rintro e oj1 ⟨rfl,hb⟩;replace d4:=rbs_ d4 hb;replace ek:=sbs_ ek hb;replace ez:=qbs_ ez hb;replace dn:=rbs_ dn hb;replace d2:=sbs_ d2 hb;replace eh:=qbs_ eh hb;replace fl:=rbs_ fl hb;replace fv:=sbs_ fv hb;replace fy:=qbs_ fy hb;replace bx:=bb_ bx hb;replace bs:=bb_ bs hb;replace bz:=bb_ bz hb;replace dz:=bb_ dz hb;replace HB:=hs_ (fn) hb))
   go_ret
   exact⟨g4_,fn⟩
  replace el0:=Bool.eq_false_iff.mpr el0
  subst el0
  replace H:=ifn_ H
  obtain⟨fy4,ij3,H⟩:=bind_ H
  by_cases el1:fy4=true
  ·subst el1
   replace H:=ifp_ H
   obtain rfl:=Option.some.inj H
   have oj2:=al5.out
   have oj3:=yj.out
   have oj4:=al6.out
   have oj5:=yk.out
   have oj6:=t5.out
   have oj7:=al7.out
   obtain⟨oj8,oj9,ok0,ok1,ok2,ok3⟩:=blk3_ bz
   have ok4:=al4.out
   have ok5:=as6.out
   have ok6:=yl.out
   have ok7:=bh1.out
   obtain⟨ok8,ok9,ol0,ol1,ol2,ol3⟩:=blk3_ bx
   go_wp2_with (first|((with_reducible refine gc_ 21 ?_);refine gl_ 44 Try.func21 #[.agg #[.slice az be.length ay, .slice bh cm.length bc, .slice dj ep.length bw], .agg #[.slice ax bt.length av, .slice bq dh.length bb, .slice es fk.length dr]] ?_;(refine(Fp.calls kj5 _ _ be _ _ cm _ _ ep _ _ bt _ _ dh _ _ fk false _ (cR_ dn) (lR_ dn) (cS_ d2) (lS_ d2) (cQ_ eh) (lQ_ eh) (cR_ d4) (lR_ d4) (cS_ ek) (lS_ ek) (cQ_ ez) (lQ_ ez) fz2.out).mono ?_);rintro e ol4 ⟨rfl,hb⟩;refine⟨_,rfl,?_⟩;replace d4:=rbs_ d4 hb;replace ek:=sbs_ ek hb;replace ez:=qbs_ ez hb;replace dn:=rbs_ dn hb;replace d2:=sbs_ d2 hb;replace eh:=qbs_ eh hb;replace fl:=rbs_ fl hb;replace fv:=sbs_ fv hb;replace fy:=qbs_ fy hb;replace bx:=bb_ bx hb;replace bs:=bb_ bs hb;replace bz:=bb_ bz hb;replace dz:=bb_ dz hb;replace HB:=hs_ (fn) hb;obtain⟨ol5,ol6,ol7,ol8,ol9,om0⟩:=blk3_ bx)|(go_at_call 24;(refine(Gk.calls kj5 _ _ bt _ _ dh _ _ fk true _ (cR_ d4) (lR_ d4) (cS_ ek) (lS_ ek) (cQ_ ez) (lQ_ ez) ij3.out).mono ?_);rintro e om1 ⟨rfl,hb⟩;replace d4:=rbs_ d4 hb;replace ek:=sbs_ ek hb;replace ez:=qbs_ ez hb;replace dn:=rbs_ dn hb;replace d2:=sbs_ d2 hb;replace eh:=qbs_ eh hb;replace fl:=rbs_ fl hb;replace fv:=sbs_ fv hb;replace fy:=qbs_ fy hb;replace bx:=bb_ bx hb;replace bs:=bb_ bs hb;replace bz:=bb_ bz hb;replace dz:=bb_ dz hb;replace HB:=hs_ (fn) hb))
   go_ret
   exact⟨g4_,fn⟩
  replace el1:=Bool.eq_false_iff.mpr el1
  subst el1
  replace H:=ifn_ H
  obtain⟨fy5,lj6,H⟩:=bind_ H
  obtain rfl:=Option.some.inj H
  have om2:=al5.out
  have om3:=yj.out
  have om4:=al6.out
  have om5:=yk.out
  have om6:=t5.out
  have om7:=al7.out
  obtain⟨om8,om9,on0,on1,on2,on3⟩:=blk3_ bz
  have on4:=al4.out
  have on5:=as6.out
  have on6:=yl.out
  have on7:=bh1.out
  obtain⟨on8,on9,oo0,oo1,oo2,oo3⟩:=blk3_ bx
  go_wp2_with (first|((with_reducible refine gc_ 21 ?_);refine gl_ 44 Try.func21 #[.agg #[.slice az be.length ay, .slice bh cm.length bc, .slice dj ep.length bw], .agg #[.slice ax bt.length av, .slice bq dh.length bb, .slice es fk.length dr]] ?_;(refine(Fp.calls kj5 _ _ be _ _ cm _ _ ep _ _ bt _ _ dh _ _ fk false _ (cR_ dn) (lR_ dn) (cS_ d2) (lS_ d2) (cQ_ eh) (lQ_ eh) (cR_ d4) (lR_ d4) (cS_ ek) (lS_ ek) (cQ_ ez) (lQ_ ez) fz2.out).mono ?_);rintro e oo4 ⟨rfl,hb⟩;refine⟨_,rfl,?_⟩;replace d4:=rbs_ d4 hb;replace ek:=sbs_ ek hb;replace ez:=qbs_ ez hb;replace dn:=rbs_ dn hb;replace d2:=sbs_ d2 hb;replace eh:=qbs_ eh hb;replace fl:=rbs_ fl hb;replace fv:=sbs_ fv hb;replace fy:=qbs_ fy hb;replace bx:=bb_ bx hb;replace bs:=bb_ bs hb;replace bz:=bb_ bz hb;replace dz:=bb_ dz hb;replace HB:=hs_ (fn) hb;obtain⟨oo5,oo6,oo7,oo8,oo9,op0⟩:=blk3_ bx)|(go_at_call 24;(refine(Gk.calls kj5 _ _ bt _ _ dh _ _ fk false _ (cR_ d4) (lR_ d4) (cS_ ek) (lS_ ek) (cQ_ ez) (lQ_ ez) ij3.out).mono ?_);rintro e op1 ⟨rfl,hb⟩;replace d4:=rbs_ d4 hb;replace ek:=sbs_ ek hb;replace ez:=qbs_ ez hb;replace dn:=rbs_ dn hb;replace d2:=sbs_ d2 hb;replace eh:=qbs_ eh hb;replace fl:=rbs_ fl hb;replace fv:=sbs_ fv hb;replace fy:=qbs_ fy hb;replace bx:=bb_ bx hb;replace bs:=bb_ bs hb;replace bz:=bb_ bz hb;replace dz:=bb_ dz hb;replace HB:=hs_ (fn) hb)|(go_at_call 23;(with_reducible refine(Gn.calls kj5  fy5 _ lj6.out).mono ?_);rintro e op2 ⟨rfl,hb⟩;replace d4:=rbs_ d4 hb;replace ek:=sbs_ ek hb;replace ez:=qbs_ ez hb;replace dn:=rbs_ dn hb;replace d2:=sbs_ d2 hb;replace eh:=qbs_ eh hb;replace fl:=rbs_ fl hb;replace fv:=sbs_ fv hb;replace fy:=qbs_ fy hb;replace bx:=bb_ bx hb;replace bs:=bb_ bs hb;replace bz:=bb_ bz hb;replace dz:=bb_ dz hb;replace HB:=hs_ (fn) hb))
  go_ret
  exact⟨g4_,fn⟩
 subst c54
 replace H:=ifp_ H
 replace H:=Option.bind_eq_some_iff.mp H
 obtain⟨⟨bd,b4,db,fy8⟩,dn2,H⟩:=H
 try dsimp only at H
 have A55:=A_ dn2
 clear dn2
 have fy9:=A_ H
 clear H
 have nw5:=al5.out
 have nw6:=yj.out
 have nw7:=al6.out
 have nw8:=yk.out
 have fi8:=t5.out
 have fi9:=al7.out
 obtain⟨go4,go5,js3,go6,go8,js4⟩:=blk3_ bz
 go_upto_region 11 with(first|((with_reducible refine gc_ 56 ?_);refine gl_ 56 Try.func56 #[.agg #[.slice az be.length ay, .slice bh cm.length bc, .slice dj ep.length bw], .agg #[.int .i64 4, .int .i64 0, .int .i64 0, .int .i64 0]] ?_;(refine(Gv.calls kj5 _ _ be _ _ cm _ _ ep 4 0 0 0 bd b4 db fy8 _ (cR_ dn) (lR_ dn) (cS_ d2) (lS_ d2) (cQ_ eh) (lQ_ eh) A55.out).mono ?_);rintro e w61 ⟨nw9,nx0,nx1,rfl,aj,ar,ef,hb⟩;refine⟨_,rfl,?_⟩;have ku:=A_ (Kd.R_lower aj (G0 (fn)));have l7:=A_ (Kd.S_lower ar (G0 (fn)));have l8:=A_ (Kd.R_lower ef (G0 (fn)));replace d4:=rbs_ d4 hb;replace ek:=sbs_ ek hb;replace ez:=qbs_ ez hb;replace dn:=rbs_ dn hb;replace d2:=sbs_ d2 hb;replace eh:=qbs_ eh hb;replace fl:=rbs_ fl hb;replace fv:=sbs_ fv hb;replace fy:=qbs_ fy hb;replace bx:=bb_ bx hb;replace bs:=bb_ bs hb;replace bz:=bb_ bz hb;replace dz:=bb_ dz hb;replace HB:=hs_ (fn) hb)|((with_reducible refine gd_ 9 ?_);(try(refine gate_guard (by rfl) ?_;dsimp only));refine bx_ (N:=9) #[.slice none 0 0, .slice none 0 0, .slice none 0 0] 28 ?_;intro al hg f6 hbox hb;replace d4:=rbs_ d4 hb;replace ek:=sbs_ ek hb;replace ez:=qbs_ ez hb;replace dn:=rbs_ dn hb;replace d2:=sbs_ d2 hb;replace eh:=qbs_ eh hb;replace fl:=rbs_ fl hb;replace fv:=sbs_ fv hb;replace fy:=qbs_ fy hb;replace ku:=rbs_ ku hb;replace l7:=sbs_ l7 hb;replace l8:=rbs_ l8 hb;have gn:=A_ (hbox);have nx2:=A_ ((g29_:w.heap.size<=al));have li0:=nx2;replace HB:=hs_ (fn) hb;have ce6:=A_ ((g163_:jv≠al));have ek8:=A_ ((g164_:al≠jv));replace bx:=bb_ bx hb;have bq8:=A_ ((g165_:ip≠al));have do0:=A_ ((g166_:al≠ip));replace bs:=bb_ bs hb;have bh2:=nl_ bz hg;have cq5:=nr_ bz hg;replace bz:=bb_ bz hb;have do1:=nl_ dz hg;have ij0:=nr_ dz hg;replace dz:=bb_ dz hb;clear hb hbox hg;obtain⟨bm,bn,li9⟩:=Kd.R_slice ku.out;subst li9;have nx3:=ek8.out;have nx4:=ce6.out;have jg2:=do0.out;have jg3:=bq8.out;have jg4:=cq5.out;have jg5:=bh2.out;have gw5:=ij0.out;have gw6:=do1.out;obtain⟨ea6,ea7,ea8,ea9,eb0,eb1⟩:=blk3_ gn;obtain⟨b8,b9,fx8⟩:=Kd.S_slice l7.out;subst fx8;obtain⟨df,dg,fx9⟩:=Kd.R_slice l8.out;subst fx9))
 (try simp only[Act.put,List.setIfInBounds_toArray,List.set_cons_zero,List.set_cons_succ])
 go_cut [76] (fun v76 wc=>∃(kq:Nat) (ek9:Bool),v76 = .bool ek9/\Gy (Fl.j1 kq fy8 ek9 bt dh fk i7 n6 oq o8 be cm ep bd b4 db=some r)/\Gy (kq<=kj5)/\Gy (Kd.R (Kd.int .i64) 3 wc w.heap.size (fun _=>True) (.slice ax bt.length av) bt)/\Gy (Kd.S (Kd.slice 3 (Kd.int .i64)) 22 wc w.heap.size (fun _=>True) (.slice bq dh.length bb) dh)/\Gy (Kd.Q k25 25 wc w.heap.size (fun _=>True) (.slice es fk.length dr) fk)/\Gy (Kd.R (Kd.int .i64) 3 wc w.heap.size (fun _=>True) (.slice az be.length ay) be)/\Gy (Kd.S (Kd.slice 3 (Kd.int .i64)) 22 wc w.heap.size (fun _=>True) (.slice bh cm.length bc) cm)/\Gy (Kd.Q k25 25 wc w.heap.size (fun _=>True) (.slice dj ep.length bw) ep)/\Gy (Kd.R (Kd.int .i64) 3 wc w.heap.size (fun _=>True) (.slice cd cn.length b7) cn)/\Gy (Kd.S (Kd.slice 3 (Kd.int .i64)) 22 wc w.heap.size (fun _=>True) (.slice fa ea.length er) ea)/\Gy (Kd.Q k25 25 wc w.heap.size (fun _=>True) (.slice gl gm.length f4) gm)/\Gy (Kd.R (Kd.int .i64) 3 wc w.heap.size (fun _=>True) (.slice bm bd.length bn) bd)/\Gy (Kd.S (Kd.slice 3 (Kd.int .i64)) 22 wc w.heap.size (fun _=>True) (.slice b8 b4.length b9) b4)/\Gy (Kd.Q k25 25 wc w.heap.size (fun _=>True) (.slice df db.length dg) db)/\Gy (hc_ wc jv #[(.slice ax bt.length av),(.slice bq dh.length bb),(.slice es fk.length dr)] 28)/\Gy (hc_ wc ip #[.int .i64 i7, .int .i64 n6, .int .i64 oq, .int .i64 o8] 69)/\Gy (hc_ wc g8 #[(.slice az be.length ay),(.slice bh cm.length bc),(.slice dj ep.length bw)] 28)/\Gy (hc_ wc gi #[(.slice cd cn.length b7),(.slice fa ea.length er),(.slice gl gm.length f4)] 28)/\Gy (hc_ wc al #[(.slice bm bd.length bn),(.slice b8 b4.length b9),(.slice df db.length dg)] 28)/\Gy (Below w.heap.size w wc))
 case first=>
  have H:=fy9.out
  clear fy9
  by_cases uo:i7=2
  ·rw[if_pos uo] at H
   have cd8:(i7 == 2)=true:=beq_iff_eq.mpr uo
   have fy0:(i7 != 2)=false:=bne_eq_false_iff_eq.mpr uo
   clear uo
   (first|rw[cd8]|(simp only[i64_w,i32_w];rw[cd8])|skip)
   obtain⟨dn5,A72,H⟩:=bind_ H
   obtain⟨dn6,A73,H⟩:=bind_ H
   obtain⟨ek4,A74,H⟩:=bind_ H
   have H':=A_ H
   clear H
   try go_wp2
   generalize hw_:(((f6.setCell ⟨al,0,none⟩ (.slice bm bd.length bn)).setCell ⟨al,1,none⟩ (.slice b8 b4.length b9)).setCell ⟨al,2,none⟩ (.slice df db.length dg))=w75
   have n0_:Gy (Kd.R (Kd.int .i64) 3 w75 w.heap.size (fun _=>True) (.slice ax bt.length av) bt):=A_ (by rw[<- hw_];exact ra_ d4)
   have n1_:Gy (Kd.S (Kd.slice 3 (Kd.int .i64)) 22 w75 w.heap.size (fun _=>True) (.slice bq dh.length bb) dh):=A_ (by rw[<- hw_];exact sa_ ek)
   have n2_:Gy (Kd.Q k25 25 w75 w.heap.size (fun _=>True) (.slice es fk.length dr) fk):=A_ (by rw[<- hw_];exact qa_ ez)
   have n3_:Gy (Kd.R (Kd.int .i64) 3 w75 w.heap.size (fun _=>True) (.slice az be.length ay) be):=A_ (by rw[<- hw_];exact ra_ dn)
   have n4_:Gy (Kd.S (Kd.slice 3 (Kd.int .i64)) 22 w75 w.heap.size (fun _=>True) (.slice bh cm.length bc) cm):=A_ (by rw[<- hw_];exact sa_ d2)
   have n5_:Gy (Kd.Q k25 25 w75 w.heap.size (fun _=>True) (.slice dj ep.length bw) ep):=A_ (by rw[<- hw_];exact qa_ eh)
   have n6_:Gy (Kd.R (Kd.int .i64) 3 w75 w.heap.size (fun _=>True) (.slice cd cn.length b7) cn):=A_ (by rw[<- hw_];exact ra_ fl)
   have n7_:Gy (Kd.S (Kd.slice 3 (Kd.int .i64)) 22 w75 w.heap.size (fun _=>True) (.slice fa ea.length er) ea):=A_ (by rw[<- hw_];exact sa_ fv)
   have n8_:Gy (Kd.Q k25 25 w75 w.heap.size (fun _=>True) (.slice gl gm.length f4) gm):=A_ (by rw[<- hw_];exact qa_ fy)
   have n9_:Gy (Kd.R (Kd.int .i64) 3 w75 w.heap.size (fun _=>True) (.slice bm bd.length bn) bd):=A_ (by rw[<- hw_];exact ra_ ku)
   have n10_:Gy (Kd.S (Kd.slice 3 (Kd.int .i64)) 22 w75 w.heap.size (fun _=>True) (.slice b8 b4.length b9) b4):=A_ (by rw[<- hw_];exact sa_ l7)
   have n11_:Gy (Kd.R k25 25 w75 w.heap.size (fun _=>True) (.slice df db.length dg) db):=A_ (by rw[<- hw_];exact ra_ l8)
   have n12_:Gy (hc_ w75 jv #[.slice ax bt.length av, .slice bq dh.length bb, .slice es fk.length dr] 28):=A_ (by rw[<- hw_];exact ba_ bx)
   have n13_:Gy (hc_ w75 ip #[.int .i64 i7, .int .i64 n6, .int .i64 oq, .int .i64 o8] 69):=A_ (by rw[<- hw_];exact ba_ bs)
   have n14_:Gy (hc_ w75 g8 #[.slice az be.length ay, .slice bh cm.length bc, .slice dj ep.length bw] 28):=A_ (by rw[<- hw_];exact ba_ bz)
   have n15_:Gy (hc_ w75 gi #[.slice cd cn.length b7, .slice fa ea.length er, .slice gl gm.length f4] 28):=A_ (by rw[<- hw_];exact ba_ dz)
   have n16_:Gy (hc_ w75 al #[.slice bm bd.length bn, .slice b8 b4.length b9, .slice df db.length dg] 28):=A_ (by rw[<- hw_];exact ba_ gn)
   have n17_:Gy (Below w.heap.size w w75):=A_ (by rw[<- hw_];exact fn)
   have d4:=n0_
   have ek:=n1_
   have ez:=n2_
   have dn:=n3_
   have d2:=n4_
   have eh:=n5_
   have fl:=n6_
   have fv:=n7_
   have fy:=n8_
   have ku:=n9_
   have l7:=n10_
   have l8:=n11_
   have bx:=n12_
   have bs:=n13_
   have bz:=n14_
   have dz:=n15_
   have gn:=n16_
   have HB:=n17_
   clear n0_ n1_ n2_ n3_ n4_ n5_ n6_ n7_ n8_ n9_ n10_ n11_ n12_ n13_ n14_ n15_ n16_ n17_
   clear hw_
   replace d4:=rd_ d4
   replace ek:=sd_ ek
   replace ez:=qd_ ez
   replace dn:=rd_ dn
   replace d2:=sd_ d2
   replace eh:=qd_ eh
   replace fl:=rd_ fl
   replace fv:=sd_ fv
   replace fy:=qd_ fy
   replace ku:=rd_ ku
   replace l7:=sd_ l7
   replace l8:=rd_ l8
   replace bx:=bd_ bx
   replace bs:=bd_ bs
   replace bz:=bd_ bz
   replace dz:=bd_ dz
   replace gn:=bd_ gn
   replace HB:=A_ (G2 HB.out)
   refine start_ (n:=18) (S:=fun w'=>w'.cell? ⟨ip,0,none⟩=some (.int .i64 i7)/\w'.cell? ⟨ip,1,none⟩=some (.int .i64 n6)/\w'.cell? ⟨ip,2,none⟩=some (.int .i64 oq)/\w'.cell? ⟨ip,3,none⟩=some (.int .i64 o8)/\w'.cell? ⟨g8,0,none⟩=some (.slice az be.length ay)/\w'.cell? ⟨g8,1,none⟩=some (.slice bh cm.length bc)/\w'.cell? ⟨g8,2,none⟩=some (.slice dj ep.length bw)/\w'.cell? ⟨jv,0,none⟩=some (.slice ax bt.length av)/\w'.cell? ⟨jv,1,none⟩=some (.slice bq dh.length bb)/\w'.cell? ⟨jv,2,none⟩=some (.slice es fk.length dr)) (ds:=[]) (tl_ 18 0) (g1_) rfl (g1_) ⟨(Gz bs.out 0).trans rfl,(Gz bs.out 1).trans rfl,(Gz bs.out 2).trans rfl,(Gz bs.out 3).trans rfl,(Gz bz.out 0).trans rfl,(Gz bz.out 1).trans rfl,(Gz bz.out 2).trans rfl,(Gz bx.out 0).trans rfl,(Gz bx.out 1).trans rfl,(Gz bx.out 2).trans rfl⟩ (fun hHeld=>?_);refine Jm Fl.tab11 Fl.bits11 (fun HT_ HW_=>?_)
   generalize w75.drew=w76 at d4 ek ez dn d2 eh fl fv fy ku l7 l8 bx bs bz dz gn HB hHeld |-
   refine pw_ 0 59 (tl_ 18 1) ?_
   refine tk0_ 1 60 (tl_ 18 3) hHeld ?_
   refine pw_ 2 61 (tl_ 18 7) ?_
   refine pw_ 3 62 (tl_ 18 15) ?_
   refine pu_ 4 63 (tl_ 18 31) ?_
   refine pu_ 5 64 (tl_ 18 63) ?_
   refine pu_ 6 65 (tl_ 18 127) ?_
   refine pw_ 7 66 (tl_ 18 255) ?_
   refine pw_ 8 67 (tl_ 18 511) ?_
   refine pw_ 9 68 (tl_ 18 1023) ?_
   refine pw_ 12 71 (tl_ 18 5119) ?_
   refine tk0_ 10 69 (tl_ 18 6143) hHeld ?_
   refine tk0_ 13 72 (tl_ 18 14335) hHeld ?_
   refine one_ (i:=11) (N:=some 70) (tl_ 18 16383) rfl rfl (Jo HT_.out (g1_)) (by decide) (fun K hK=>?_)
   refine goes_ Try.func46 (g1_) rfl #[.agg #[.slice az be.length ay, .slice bh cm.length bc]] (by rfl) rfl rfl (g3_) ?_
   refine(Gj.calls kj5 _ _ be _ _ cm dn5 _ (cR_ dn) (lR_ dn) (cS_ d2) (lS_ d2) A72.out).mono ?_
   rintro e w77 ⟨nx5,rfl,aj,hb⟩
   refine⟨_,rfl,?_⟩
   replace ek:=sbs_ ek hb
   replace ez:=qbs_ ez hb
   replace d2:=sbs_ d2 hb
   replace eh:=qbs_ eh hb
   replace fv:=sbs_ fv hb
   replace fy:=qbs_ fy hb
   replace l7:=sbs_ l7 hb
   replace l8:=rbs_ l8 hb
   have cq6:=A_ (Kd.R_lower aj (G0 (fn)))
   replace d4:=rbs_ d4 hb
   replace dn:=rbs_ dn hb
   replace fl:=rbs_ fl hb
   replace ku:=rbs_ ku hb
   replace bx:=bb_ bx hb
   replace bs:=bb_ bs hb
   replace bz:=bb_ bz hb
   replace dz:=bb_ dz hb
   replace gn:=bb_ gn hb
   replace HB:=hs_ (fn) hb
   refine hK.out _ _ ⟨(Gz bs.out 0).trans rfl,(Gz bs.out 1).trans rfl,(Gz bs.out 2).trans rfl,(Gz bs.out 3).trans rfl,(Gz bz.out 0).trans rfl,(Gz bz.out 1).trans rfl,(Gz bz.out 2).trans rfl,(Gz bx.out 0).trans rfl,(Gz bx.out 1).trans rfl,(Gz bx.out 2).trans rfl⟩ (fun hHeld=>?_)
   clear hK K
   refine nm_ ?_
   refine one_ (i:=14) (N:=some 73) (tl_ 18 32767) rfl rfl (Jo HT_.out (g1_)) (by decide) (fun K hK=>?_)
   refine goes_ Try.func46 (g1_) rfl #[.agg #[.slice ax bt.length av, .slice bq dh.length bb]] (by rfl) rfl rfl (g3_) ?_
   refine(Gj.calls kj5 _ _ bt _ _ dh dn6 _ (cR_ d4) (lR_ d4) (cS_ ek) (lS_ ek) A73.out).mono ?_
   rintro e w78 ⟨nx6,rfl,aj,hb⟩
   refine⟨_,rfl,?_⟩
   replace ek:=sbs_ ek hb
   replace ez:=qbs_ ez hb
   replace d2:=sbs_ d2 hb
   replace eh:=qbs_ eh hb
   replace fv:=sbs_ fv hb
   replace fy:=qbs_ fy hb
   replace l7:=sbs_ l7 hb
   replace l8:=rbs_ l8 hb
   have fz0:=A_ (Kd.R_lower aj (G0 (fn)))
   replace d4:=rbs_ d4 hb
   replace dn:=rbs_ dn hb
   replace fl:=rbs_ fl hb
   replace ku:=rbs_ ku hb
   replace cq6:=rbs_ cq6 hb
   replace bx:=bb_ bx hb
   replace bs:=bb_ bs hb
   replace bz:=bb_ bz hb
   replace dz:=bb_ dz hb
   replace gn:=bb_ gn hb
   replace HB:=hs_ (fn) hb
   obtain⟨jm,jj,cc4⟩:=Kd.R_slice cq6.out
   (first|subst cc4|(injection cc4 with f1_ f2_ f3_;have f4_:=f1_.symm;have f5_:=f3_.symm;clear f1_ f2_ f3_;subst f4_;subst f5_))
   obtain⟨lj0,lj1,ij1⟩:=Kd.R_slice fz0.out
   (first|subst ij1|(injection ij1 with f1_ f2_ f3_;have f4_:=f1_.symm;have f5_:=f3_.symm;clear f1_ f2_ f3_;subst f4_;subst f5_))
   refine hK.out _ _ ⟨(Gz bs.out 0).trans rfl,(Gz bs.out 1).trans rfl,(Gz bs.out 2).trans rfl,(Gz bs.out 3).trans rfl,(Gz bz.out 0).trans rfl,(Gz bz.out 1).trans rfl,(Gz bz.out 2).trans rfl,(Gz bx.out 0).trans rfl,(Gz bx.out 1).trans rfl,(Gz bx.out 2).trans rfl⟩ (fun hHeld=>?_)
   clear hK K
   refine nm_ ?_
   refine one_ (i:=15) (N:=some 74) (tl_ 18 65535) rfl rfl (Jo HT_.out (g1_)) (by decide) (fun K hK=>?_)
   refine goes_ Try.func45 (g1_) rfl #[.slice jm dn5.length jj, .slice lj0 dn6.length lj1] (by rfl) rfl rfl (g3_) ?_
   refine(Fy.calls kj5 _ _ dn5 _ _ dn6 ek4 _ (cR_ cq6) (lR_ cq6) (cR_ fz0) (lR_ fz0) A74.out).mono ?_
   rintro e w' ⟨rfl,⟨nd,rfl⟩⟩
   refine⟨_,rfl,?_⟩
   refine hK.out _ _ ⟨(Gz bs.out 0).trans rfl,(Gz bs.out 1).trans rfl,(Gz bs.out 2).trans rfl,(Gz bs.out 3).trans rfl,(Gz bz.out 0).trans rfl,(Gz bz.out 1).trans rfl,(Gz bz.out 2).trans rfl,(Gz bx.out 0).trans rfl,(Gz bx.out 1).trans rfl,(Gz bx.out 2).trans rfl⟩ (fun hHeld=>?_)
   clear hK K
   refine nm_ ?_
   refine pw_ 16 75 (tl_ 18 131071) ?_
   refine pw_ 17 76 (tl_ 18 262143) ?_
   refine done_ (done_of HT_.out (g1_)) ?_
   try go_wp2
   go_meet
   case rel=>exact⟨_,(!ek4),(g2_),H',⟨g85_⟩,⟨ra_ d4⟩,⟨sa_ ek⟩,⟨qa_ ez⟩,⟨ra_ dn⟩,⟨sa_ d2⟩,⟨qa_ eh⟩,⟨ra_ fl⟩,⟨sa_ fv⟩,⟨qa_ fy⟩,⟨ra_ ku⟩,⟨sa_ l7⟩,⟨Kd.Q_of_R (ra_ l8)⟩,⟨uf0_ bx⟩,⟨uf0_ bs⟩,⟨uf0_ bz⟩,⟨uf0_ dz⟩,⟨uf0_ gn⟩,⟨fn⟩⟩
  rw[if_neg uo] at H
  have cd8:(i7 == 2)=false:=beq_eq_false_iff_ne.mpr uo
  have fy0:(i7 != 2)=true:=bne_iff_ne.mpr uo
  (first|rw[cd8]|(simp only[i64_w,i32_w];rw[cd8])|skip)
  by_cases c81:i7=3
  case neg=>
   rw[if_neg c81] at H
   have fr7:(i7 == 3)=false:=beq_eq_false_iff_ne.mpr c81
   have ij2:(i7 != 3)=true:=bne_iff_ne.mpr c81
   have H':=A_ H
   clear H
   try go_wp2
   generalize hw_:(((f6.setCell ⟨al,0,none⟩ (.slice bm bd.length bn)).setCell ⟨al,1,none⟩ (.slice b8 b4.length b9)).setCell ⟨al,2,none⟩ (.slice df db.length dg))=w91
   have n0_:Gy (Kd.R (Kd.int .i64) 3 w91 w.heap.size (fun _=>True) (.slice ax bt.length av) bt):=A_ (by rw[<- hw_];exact ra_ d4)
   have n1_:Gy (Kd.S (Kd.slice 3 (Kd.int .i64)) 22 w91 w.heap.size (fun _=>True) (.slice bq dh.length bb) dh):=A_ (by rw[<- hw_];exact sa_ ek)
   have n2_:Gy (Kd.Q k25 25 w91 w.heap.size (fun _=>True) (.slice es fk.length dr) fk):=A_ (by rw[<- hw_];exact qa_ ez)
   have n3_:Gy (Kd.R (Kd.int .i64) 3 w91 w.heap.size (fun _=>True) (.slice az be.length ay) be):=A_ (by rw[<- hw_];exact ra_ dn)
   have n4_:Gy (Kd.S (Kd.slice 3 (Kd.int .i64)) 22 w91 w.heap.size (fun _=>True) (.slice bh cm.length bc) cm):=A_ (by rw[<- hw_];exact sa_ d2)
   have n5_:Gy (Kd.Q k25 25 w91 w.heap.size (fun _=>True) (.slice dj ep.length bw) ep):=A_ (by rw[<- hw_];exact qa_ eh)
   have n6_:Gy (Kd.R (Kd.int .i64) 3 w91 w.heap.size (fun _=>True) (.slice cd cn.length b7) cn):=A_ (by rw[<- hw_];exact ra_ fl)
   have n7_:Gy (Kd.S (Kd.slice 3 (Kd.int .i64)) 22 w91 w.heap.size (fun _=>True) (.slice fa ea.length er) ea):=A_ (by rw[<- hw_];exact sa_ fv)
   have n8_:Gy (Kd.Q k25 25 w91 w.heap.size (fun _=>True) (.slice gl gm.length f4) gm):=A_ (by rw[<- hw_];exact qa_ fy)
   have n9_:Gy (Kd.R (Kd.int .i64) 3 w91 w.heap.size (fun _=>True) (.slice bm bd.length bn) bd):=A_ (by rw[<- hw_];exact ra_ ku)
   have n10_:Gy (Kd.S (Kd.slice 3 (Kd.int .i64)) 22 w91 w.heap.size (fun _=>True) (.slice b8 b4.length b9) b4):=A_ (by rw[<- hw_];exact sa_ l7)
   have n11_:Gy (Kd.R k25 25 w91 w.heap.size (fun _=>True) (.slice df db.length dg) db):=A_ (by rw[<- hw_];exact ra_ l8)
   have n12_:Gy (hc_ w91 jv #[.slice ax bt.length av, .slice bq dh.length bb, .slice es fk.length dr] 28):=A_ (by rw[<- hw_];exact ba_ bx)
   have n13_:Gy (hc_ w91 ip #[.int .i64 i7, .int .i64 n6, .int .i64 oq, .int .i64 o8] 69):=A_ (by rw[<- hw_];exact ba_ bs)
   have n14_:Gy (hc_ w91 g8 #[.slice az be.length ay, .slice bh cm.length bc, .slice dj ep.length bw] 28):=A_ (by rw[<- hw_];exact ba_ bz)
   have n15_:Gy (hc_ w91 gi #[.slice cd cn.length b7, .slice fa ea.length er, .slice gl gm.length f4] 28):=A_ (by rw[<- hw_];exact ba_ dz)
   have n16_:Gy (hc_ w91 al #[.slice bm bd.length bn, .slice b8 b4.length b9, .slice df db.length dg] 28):=A_ (by rw[<- hw_];exact ba_ gn)
   have n17_:Gy (Below w.heap.size w w91):=A_ (by rw[<- hw_];exact fn)
   have d4:=n0_
   have ek:=n1_
   have ez:=n2_
   have dn:=n3_
   have d2:=n4_
   have eh:=n5_
   have fl:=n6_
   have fv:=n7_
   have fy:=n8_
   have ku:=n9_
   have l7:=n10_
   have l8:=n11_
   have bx:=n12_
   have bs:=n13_
   have bz:=n14_
   have dz:=n15_
   have gn:=n16_
   have HB:=n17_
   clear n0_ n1_ n2_ n3_ n4_ n5_ n6_ n7_ n8_ n9_ n10_ n11_ n12_ n13_ n14_ n15_ n16_ n17_
   clear hw_
   replace d4:=rd_ d4
   replace ek:=sd_ ek
   replace ez:=qd_ ez
   replace dn:=rd_ dn
   replace d2:=sd_ d2
   replace eh:=qd_ eh
   replace fl:=rd_ fl
   replace fv:=sd_ fv
   replace fy:=qd_ fy
   replace ku:=rd_ ku
   replace l7:=sd_ l7
   replace l8:=rd_ l8
   replace bx:=bd_ bx
   replace bs:=bd_ bs
   replace bz:=bd_ bz
   replace dz:=bd_ dz
   replace gn:=bd_ gn
   replace HB:=A_ (G2 HB.out)
   refine start_ (n:=18) (S:=fun w'=>w'.cell? ⟨ip,0,none⟩=some (.int .i64 i7)/\w'.cell? ⟨ip,1,none⟩=some (.int .i64 n6)/\w'.cell? ⟨ip,2,none⟩=some (.int .i64 oq)/\w'.cell? ⟨ip,3,none⟩=some (.int .i64 o8)) (ds:=[]) (tl_ 18 0) (g1_) rfl (g1_) ⟨(Gz bs.out 0).trans rfl,(Gz bs.out 1).trans rfl,(Gz bs.out 2).trans rfl,(Gz bs.out 3).trans rfl⟩ (fun hHeld=>?_);refine Jm Fl.tab11 Fl.bits11 (fun HT_ HW_=>?_)
   generalize w91.drew=w92 at d4 ek ez dn d2 eh fl fv fy ku l7 l8 bx bs bz dz gn HB hHeld |-
   refine pw_ 0 59 (tl_ 18 1) ?_
   refine tk2_ 1 60 (tl_ 18 3) hHeld ?_
   refine pw_ 2 61 (tl_ 18 7) ?_
   refine pw_ 3 62 (tl_ 18 15) ?_
   refine pw_ 4 63 (tl_ 18 31) ?_
   refine tk2_ 5 64 (tl_ 18 63) hHeld ?_
   refine pw_ 6 65 (tl_ 18 127) ?_
   refine pw_ 7 66 (tl_ 18 255) ?_
   refine pw_ 8 67 (tl_ 18 511) ?_
   refine pu_ 9 68 (tl_ 18 1023) ?_
   refine pu_ 10 69 (tl_ 18 2047) ?_
   refine pu_ 11 70 (tl_ 18 4095) ?_
   refine pu_ 12 71 (tl_ 18 8191) ?_
   refine pu_ 13 72 (tl_ 18 16383) ?_
   refine pu_ 14 73 (tl_ 18 32767) ?_
   refine pu_ 15 74 (tl_ 18 65535) ?_
   refine pu_ 16 75 (tl_ 18 131071) ?_
   refine pw_ 17 76 (tl_ 18 262143) ?_
   refine done_ (done_of HT_.out (g1_)) ?_
   try go_wp2
   go_meet
   case rel=>exact⟨_,(false),(g2_),H',⟨g85_⟩,⟨ra_ d4⟩,⟨sa_ ek⟩,⟨qa_ ez⟩,⟨ra_ dn⟩,⟨sa_ d2⟩,⟨qa_ eh⟩,⟨ra_ fl⟩,⟨sa_ fv⟩,⟨qa_ fy⟩,⟨ra_ ku⟩,⟨sa_ l7⟩,⟨Kd.Q_of_R (ra_ l8)⟩,⟨uf0_ bx⟩,⟨uf0_ bs⟩,⟨uf0_ bz⟩,⟨uf0_ dz⟩,⟨uf0_ gn⟩,⟨fn⟩⟩
  rw[if_pos c81] at H
  have fr7:(i7 == 3)=true:=beq_iff_eq.mpr c81
  have ij2:(i7 != 3)=false:=bne_eq_false_iff_eq.mpr c81
  clear c81
  obtain⟨dn7,A82,H⟩:=bind_ H
  obtain⟨dn8,A83,H⟩:=bind_ H
  obtain⟨ek5,A84,H⟩:=bind_ H
  have H':=A_ H
  clear H
  try go_wp2
  generalize hw_:(((f6.setCell ⟨al,0,none⟩ (.slice bm bd.length bn)).setCell ⟨al,1,none⟩ (.slice b8 b4.length b9)).setCell ⟨al,2,none⟩ (.slice df db.length dg))=w85
  have n0_:Gy (Kd.R (Kd.int .i64) 3 w85 w.heap.size (fun _=>True) (.slice ax bt.length av) bt):=A_ (by rw[<- hw_];exact ra_ d4)
  have n1_:Gy (Kd.S (Kd.slice 3 (Kd.int .i64)) 22 w85 w.heap.size (fun _=>True) (.slice bq dh.length bb) dh):=A_ (by rw[<- hw_];exact sa_ ek)
  have n2_:Gy (Kd.Q k25 25 w85 w.heap.size (fun _=>True) (.slice es fk.length dr) fk):=A_ (by rw[<- hw_];exact qa_ ez)
  have n3_:Gy (Kd.R (Kd.int .i64) 3 w85 w.heap.size (fun _=>True) (.slice az be.length ay) be):=A_ (by rw[<- hw_];exact ra_ dn)
  have n4_:Gy (Kd.S (Kd.slice 3 (Kd.int .i64)) 22 w85 w.heap.size (fun _=>True) (.slice bh cm.length bc) cm):=A_ (by rw[<- hw_];exact sa_ d2)
  have n5_:Gy (Kd.Q k25 25 w85 w.heap.size (fun _=>True) (.slice dj ep.length bw) ep):=A_ (by rw[<- hw_];exact qa_ eh)
  have n6_:Gy (Kd.R (Kd.int .i64) 3 w85 w.heap.size (fun _=>True) (.slice cd cn.length b7) cn):=A_ (by rw[<- hw_];exact ra_ fl)
  have n7_:Gy (Kd.S (Kd.slice 3 (Kd.int .i64)) 22 w85 w.heap.size (fun _=>True) (.slice fa ea.length er) ea):=A_ (by rw[<- hw_];exact sa_ fv)
  have n8_:Gy (Kd.Q k25 25 w85 w.heap.size (fun _=>True) (.slice gl gm.length f4) gm):=A_ (by rw[<- hw_];exact qa_ fy)
  have n9_:Gy (Kd.R (Kd.int .i64) 3 w85 w.heap.size (fun _=>True) (.slice bm bd.length bn) bd):=A_ (by rw[<- hw_];exact ra_ ku)
  have n10_:Gy (Kd.S (Kd.slice 3 (Kd.int .i64)) 22 w85 w.heap.size (fun _=>True) (.slice b8 b4.length b9) b4):=A_ (by rw[<- hw_];exact sa_ l7)
  have n11_:Gy (Kd.R k25 25 w85 w.heap.size (fun _=>True) (.slice df db.length dg) db):=A_ (by rw[<- hw_];exact ra_ l8)
  have n12_:Gy (hc_ w85 jv #[.slice ax bt.length av, .slice bq dh.length bb, .slice es fk.length dr] 28):=A_ (by rw[<- hw_];exact ba_ bx)
  have n13_:Gy (hc_ w85 ip #[.int .i64 i7, .int .i64 n6, .int .i64 oq, .int .i64 o8] 69):=A_ (by rw[<- hw_];exact ba_ bs)
  have n14_:Gy (hc_ w85 g8 #[.slice az be.length ay, .slice bh cm.length bc, .slice dj ep.length bw] 28):=A_ (by rw[<- hw_];exact ba_ bz)
  have n15_:Gy (hc_ w85 gi #[.slice cd cn.length b7, .slice fa ea.length er, .slice gl gm.length f4] 28):=A_ (by rw[<- hw_];exact ba_ dz)
  have n16_:Gy (hc_ w85 al #[.slice bm bd.length bn, .slice b8 b4.length b9, .slice df db.length dg] 28):=A_ (by rw[<- hw_];exact ba_ gn)
  have n17_:Gy (Below w.heap.size w w85):=A_ (by rw[<- hw_];exact fn)
  have d4:=n0_
  have ek:=n1_
  have ez:=n2_
  have dn:=n3_
  have d2:=n4_
  have eh:=n5_
  have fl:=n6_
  have fv:=n7_
  have fy:=n8_
  have ku:=n9_
  have l7:=n10_
  have l8:=n11_
  have bx:=n12_
  have bs:=n13_
  have bz:=n14_
  have dz:=n15_
  have gn:=n16_
  have HB:=n17_
  clear n0_ n1_ n2_ n3_ n4_ n5_ n6_ n7_ n8_ n9_ n10_ n11_ n12_ n13_ n14_ n15_ n16_ n17_
  clear hw_
  replace d4:=rd_ d4
  replace ek:=sd_ ek
  replace ez:=qd_ ez
  replace dn:=rd_ dn
  replace d2:=sd_ d2
  replace eh:=qd_ eh
  replace fl:=rd_ fl
  replace fv:=sd_ fv
  replace fy:=qd_ fy
  replace ku:=rd_ ku
  replace l7:=sd_ l7
  replace l8:=rd_ l8
  replace bx:=bd_ bx
  replace bs:=bd_ bs
  replace bz:=bd_ bz
  replace dz:=bd_ dz
  replace gn:=bd_ gn
  replace HB:=A_ (G2 HB.out)
  refine start_ (n:=18) (S:=fun w'=>w'.cell? ⟨ip,0,none⟩=some (.int .i64 i7)/\w'.cell? ⟨ip,1,none⟩=some (.int .i64 n6)/\w'.cell? ⟨ip,2,none⟩=some (.int .i64 oq)/\w'.cell? ⟨ip,3,none⟩=some (.int .i64 o8)/\w'.cell? ⟨g8,0,none⟩=some (.slice az be.length ay)/\w'.cell? ⟨g8,1,none⟩=some (.slice bh cm.length bc)/\w'.cell? ⟨g8,2,none⟩=some (.slice dj ep.length bw)/\w'.cell? ⟨jv,0,none⟩=some (.slice ax bt.length av)/\w'.cell? ⟨jv,1,none⟩=some (.slice bq dh.length bb)/\w'.cell? ⟨jv,2,none⟩=some (.slice es fk.length dr)) (ds:=[]) (tl_ 18 0) (g1_) rfl (g1_) ⟨(Gz bs.out 0).trans rfl,(Gz bs.out 1).trans rfl,(Gz bs.out 2).trans rfl,(Gz bs.out 3).trans rfl,(Gz bz.out 0).trans rfl,(Gz bz.out 1).trans rfl,(Gz bz.out 2).trans rfl,(Gz bx.out 0).trans rfl,(Gz bx.out 1).trans rfl,(Gz bx.out 2).trans rfl⟩ (fun hHeld=>?_);refine Jm Fl.tab11 Fl.bits11 (fun HT_ HW_=>?_)
  generalize w85.drew=w86 at d4 ek ez dn d2 eh fl fv fy ku l7 l8 bx bs bz dz gn HB hHeld |-
  refine pw_ 0 59 (tl_ 18 1) ?_
  refine tk0_ 1 60 (tl_ 18 3) hHeld ?_
  refine pw_ 2 61 (tl_ 18 7) ?_
  refine pw_ 3 62 (tl_ 18 15) ?_
  refine pw_ 4 63 (tl_ 18 31) ?_
  refine tk0_ 5 64 (tl_ 18 63) hHeld ?_
  refine pw_ 6 65 (tl_ 18 127) ?_
  refine pw_ 7 66 (tl_ 18 255) ?_
  refine pw_ 8 67 (tl_ 18 511) ?_
  refine pw_ 9 68 (tl_ 18 1023) ?_
  refine pw_ 12 71 (tl_ 18 5119) ?_
  refine tk0_ 10 69 (tl_ 18 6143) hHeld ?_
  refine tk0_ 13 72 (tl_ 18 14335) hHeld ?_
  refine one_ (i:=11) (N:=some 70) (tl_ 18 16383) rfl rfl (Jo HT_.out (g1_)) (by decide) (fun K hK=>?_)
  refine goes_ Try.func46 (g1_) rfl #[.agg #[.slice az be.length ay, .slice bh cm.length bc]] (by rfl) rfl rfl (g3_) ?_
  refine(Gj.calls kj5 _ _ be _ _ cm dn7 _ (cR_ dn) (lR_ dn) (cS_ d2) (lS_ d2) A82.out).mono ?_
  rintro e w87 ⟨nx7,rfl,aj,hb⟩
  refine⟨_,rfl,?_⟩
  replace ek:=sbs_ ek hb
  replace ez:=qbs_ ez hb
  replace d2:=sbs_ d2 hb
  replace eh:=qbs_ eh hb
  replace fv:=sbs_ fv hb
  replace fy:=qbs_ fy hb
  replace l7:=sbs_ l7 hb
  replace l8:=rbs_ l8 hb
  have cq7:=A_ (Kd.R_lower aj (G0 (fn)))
  replace d4:=rbs_ d4 hb
  replace dn:=rbs_ dn hb
  replace fl:=rbs_ fl hb
  replace ku:=rbs_ ku hb
  replace bx:=bb_ bx hb
  replace bs:=bb_ bs hb
  replace bz:=bb_ bz hb
  replace dz:=bb_ dz hb
  replace gn:=bb_ gn hb
  replace HB:=hs_ (fn) hb
  refine hK.out _ _ ⟨(Gz bs.out 0).trans rfl,(Gz bs.out 1).trans rfl,(Gz bs.out 2).trans rfl,(Gz bs.out 3).trans rfl,(Gz bz.out 0).trans rfl,(Gz bz.out 1).trans rfl,(Gz bz.out 2).trans rfl,(Gz bx.out 0).trans rfl,(Gz bx.out 1).trans rfl,(Gz bx.out 2).trans rfl⟩ (fun hHeld=>?_)
  clear hK K
  refine nm_ ?_
  refine one_ (i:=14) (N:=some 73) (tl_ 18 32767) rfl rfl (Jo HT_.out (g1_)) (by decide) (fun K hK=>?_)
  refine goes_ Try.func46 (g1_) rfl #[.agg #[.slice ax bt.length av, .slice bq dh.length bb]] (by rfl) rfl rfl (g3_) ?_
  refine(Gj.calls kj5 _ _ bt _ _ dh dn8 _ (cR_ d4) (lR_ d4) (cS_ ek) (lS_ ek) A83.out).mono ?_
  rintro e w88 ⟨nx8,rfl,aj,hb⟩
  refine⟨_,rfl,?_⟩
  replace ek:=sbs_ ek hb
  replace ez:=qbs_ ez hb
  replace d2:=sbs_ d2 hb
  replace eh:=qbs_ eh hb
  replace fv:=sbs_ fv hb
  replace fy:=qbs_ fy hb
  replace l7:=sbs_ l7 hb
  replace l8:=rbs_ l8 hb
  have fz1:=A_ (Kd.R_lower aj (G0 (fn)))
  replace d4:=rbs_ d4 hb
  replace dn:=rbs_ dn hb
  replace fl:=rbs_ fl hb
  replace ku:=rbs_ ku hb
  replace cq7:=rbs_ cq7 hb
  replace bx:=bb_ bx hb
  replace bs:=bb_ bs hb
  replace bz:=bb_ bz hb
  replace dz:=bb_ dz hb
  replace gn:=bb_ gn hb
  replace HB:=hs_ (fn) hb
  obtain⟨xl,xm,cm1⟩:=Kd.R_slice cq7.out
  (first|subst cm1|(injection cm1 with f1_ f2_ f3_;have f4_:=f1_.symm;have f5_:=f3_.symm;clear f1_ f2_ f3_;subst f4_;subst f5_))
  obtain⟨nz,n0,eg6⟩:=Kd.R_slice fz1.out
  (first|subst eg6|(injection eg6 with f1_ f2_ f3_;have f4_:=f1_.symm;have f5_:=f3_.symm;clear f1_ f2_ f3_;subst f4_;subst f5_))
  refine hK.out _ _ ⟨(Gz bs.out 0).trans rfl,(Gz bs.out 1).trans rfl,(Gz bs.out 2).trans rfl,(Gz bs.out 3).trans rfl,(Gz bz.out 0).trans rfl,(Gz bz.out 1).trans rfl,(Gz bz.out 2).trans rfl,(Gz bx.out 0).trans rfl,(Gz bx.out 1).trans rfl,(Gz bx.out 2).trans rfl⟩ (fun hHeld=>?_)
  clear hK K
  refine nm_ ?_
  refine one_ (i:=15) (N:=some 74) (tl_ 18 65535) rfl rfl (Jo HT_.out (g1_)) (by decide) (fun K hK=>?_)
  refine goes_ Try.func45 (g1_) rfl #[.slice xl dn7.length xm, .slice nz dn8.length n0] (by rfl) rfl rfl (g3_) ?_
  refine(Fy.calls kj5 _ _ dn7 _ _ dn8 ek5 _ (cR_ cq7) (lR_ cq7) (cR_ fz1) (lR_ fz1) A84.out).mono ?_
  rintro e w' ⟨rfl,⟨nd,rfl⟩⟩
  refine⟨_,rfl,?_⟩
  refine hK.out _ _ ⟨(Gz bs.out 0).trans rfl,(Gz bs.out 1).trans rfl,(Gz bs.out 2).trans rfl,(Gz bs.out 3).trans rfl,(Gz bz.out 0).trans rfl,(Gz bz.out 1).trans rfl,(Gz bz.out 2).trans rfl,(Gz bx.out 0).trans rfl,(Gz bx.out 1).trans rfl,(Gz bx.out 2).trans rfl⟩ (fun hHeld=>?_)
  clear hK K
  refine nm_ ?_
  refine pw_ 16 75 (tl_ 18 131071) ?_
  refine pw_ 17 76 (tl_ 18 262143) ?_
  refine done_ (done_of HT_.out (g1_)) ?_
  try go_wp2
  go_meet
  case rel=>exact⟨_,(!ek5),(g2_),H',⟨g85_⟩,⟨ra_ d4⟩,⟨sa_ ek⟩,⟨qa_ ez⟩,⟨ra_ dn⟩,⟨sa_ d2⟩,⟨qa_ eh⟩,⟨ra_ fl⟩,⟨sa_ fv⟩,⟨qa_ fy⟩,⟨ra_ ku⟩,⟨sa_ l7⟩,⟨Kd.Q_of_R (ra_ l8)⟩,⟨uf0_ bx⟩,⟨uf0_ bs⟩,⟨uf0_ bz⟩,⟨uf0_ dz⟩,⟨uf0_ gn⟩,⟨fn⟩⟩
 clear fy9
 obtain⟨kq,ek9,rfl,HA,HJ55,d4,ek,ez,dn,d2,eh,fl,fv,fy,ab7,ab8,ab9,bx,bs,bz,dz,gn,HB⟩:=hcut
 cases kq with
 | zero=>exact absurd HA.out (by simp[Fl.j1])
 | succ kj55=>?_
 have H:=HA.out
 clear HA
 simp only[Fl.j1] at H
 by_cases c93:ek9=true
 ·subst c93
  replace H:=ifp_ H
  obtain rfl:=Option.some.inj H
  go_wp2
  go_ret
  exact⟨g4_,fn⟩
 replace c93:=Bool.eq_false_iff.mpr c93
 subst c93
 replace H:=ifn_ H
 obtain⟨fy6,A94,H⟩:=bind_ H
 by_cases c95:fy6=true
 case neg=>
  replace c95:=Bool.eq_false_iff.mpr c95
  subst c95
  replace H:=ifn_ H
  obtain rfl:=Option.some.inj H
  have of9:=bh2.out
  have og0:=cq5.out
  obtain⟨og1,og2,og3,og4,og5,og6⟩:=blk3_ bz
  go_wp2_with (first|((with_reducible refine gc_ 24 ?_);refine gl_ 78 Try.func24 #[.agg #[.slice az be.length ay, .slice bh cm.length bc, .slice dj ep.length bw]] ?_;(refine(Gk.calls kj55 _ _ be _ _ cm _ _ ep false _ (cR_ dn) (lR_ dn) (cS_ d2) (lS_ d2) (cQ_ eh) (lQ_ eh) A94.out).mono ?_);rintro e og7 ⟨rfl,hb⟩;refine⟨_,rfl,?_⟩;replace d4:=rbs_ d4 hb;replace ek:=sbs_ ek hb;replace ez:=qbs_ ez hb;replace dn:=rbs_ dn hb;replace d2:=sbs_ d2 hb;replace eh:=qbs_ eh hb;replace fl:=rbs_ fl hb;replace fv:=sbs_ fv hb;replace fy:=qbs_ fy hb;replace ab7:=rbs_ ab7 hb;replace ab8:=sbs_ ab8 hb;replace ab9:=qbs_ ab9 hb;replace bx:=bb_ bx hb;replace bs:=bb_ bs hb;replace bz:=bb_ bz hb;replace dz:=bb_ dz hb;replace gn:=bb_ gn hb;replace HB:=hs_ (fn) hb))
  go_ret
  exact⟨g4_,fn⟩
 subst c95
 replace H:=ifp_ H
 by_cases c96:i7=4
 ·rw[if_pos c96] at H
  have lj2:(i7 == 4)=true:=beq_iff_eq.mpr c96
  have lj3:(i7 != 4)=false:=bne_eq_false_iff_eq.mpr c96
  clear c96
  obtain rfl:=Option.some.inj H
  have hy9:=bh2.out
  have hz1:=cq5.out
  obtain⟨lg0,lg1,lg2,lg3,lg4,lg5⟩:=blk3_ bz
  go_wp2_with (first|((with_reducible refine gc_ 24 ?_);refine gl_ 78 Try.func24 #[.agg #[.slice az be.length ay, .slice bh cm.length bc, .slice dj ep.length bw]] ?_;(refine(Gk.calls kj55 _ _ be _ _ cm _ _ ep true _ (cR_ dn) (lR_ dn) (cS_ d2) (lS_ d2) (cQ_ eh) (lQ_ eh) A94.out).mono ?_);rintro e fs1 ⟨rfl,hb⟩;refine⟨_,rfl,?_⟩;replace d4:=rbs_ d4 hb;replace ek:=sbs_ ek hb;replace ez:=qbs_ ez hb;replace dn:=rbs_ dn hb;replace d2:=sbs_ d2 hb;replace eh:=qbs_ eh hb;replace fl:=rbs_ fl hb;replace fv:=sbs_ fv hb;replace fy:=qbs_ fy hb;replace ab7:=rbs_ ab7 hb;replace ab8:=sbs_ ab8 hb;replace ab9:=qbs_ ab9 hb;replace bx:=bb_ bx hb;replace bs:=bb_ bs hb;replace bz:=bb_ bz hb;replace dz:=bb_ dz hb;replace gn:=bb_ gn hb;replace HB:=hs_ (fn) hb;have jv2:=as6.out;have jv3:=al4.out;have fh3:=ag4.out;have fh4:=ce5.out;have fh5:=bq8.out;have fh6:=do0.out;obtain⟨nx9,ny0,ny1,ny2,ny3,ny4,ny5,ny6⟩:=blk4_ bs))
  go_ret
  exact⟨g4_,fn⟩
 rw[if_neg c96] at H
 have lj2:(i7 == 4)=false:=beq_eq_false_iff_ne.mpr c96
 have lj3:(i7 != 4)=true:=bne_iff_ne.mpr c96
 by_cases cq8:(fk.length:Int) ≥ 8
 ·rw[if_pos cq8] at H
  have lj4:=decide_eq_true cq8
  have lj5:decide (8<=fk.length)=true:=decide_eq_true (by omega)
  clear cq8
  obtain rfl:=Option.some.inj H
  have ny7:=bh2.out
  have ny8:=cq5.out
  obtain⟨ny9,nz0,nz1,nz2,nz3,nz4⟩:=blk3_ bz
  go_wp2_with (first|((with_reducible refine gc_ 24 ?_);refine gl_ 78 Try.func24 #[.agg #[.slice az be.length ay, .slice bh cm.length bc, .slice dj ep.length bw]] ?_;(refine(Gk.calls kj55 _ _ be _ _ cm _ _ ep true _ (cR_ dn) (lR_ dn) (cS_ d2) (lS_ d2) (cQ_ eh) (lQ_ eh) A94.out).mono ?_);rintro e jw0 ⟨rfl,hb⟩;refine⟨_,rfl,?_⟩;replace d4:=rbs_ d4 hb;replace ek:=sbs_ ek hb;replace ez:=qbs_ ez hb;replace dn:=rbs_ dn hb;replace d2:=sbs_ d2 hb;replace eh:=qbs_ eh hb;replace fl:=rbs_ fl hb;replace fv:=sbs_ fv hb;replace fy:=qbs_ fy hb;replace ab7:=rbs_ ab7 hb;replace ab8:=sbs_ ab8 hb;replace ab9:=qbs_ ab9 hb;replace bx:=bb_ bx hb;replace bs:=bb_ bs hb;replace bz:=bb_ bz hb;replace dz:=bb_ dz hb;replace gn:=bb_ gn hb;replace HB:=hs_ (fn) hb;have kv5:=as6.out;have kv6:=al4.out;have hf1:=ag4.out;have hf2:=ce5.out;have jw1:=bq8.out;have jw2:=do0.out;obtain⟨jw3,jw4,jw5,nz5,jw6,jw7,jw8,nz6⟩:=blk4_ bs;have kn5:=yl.out;have kn6:=bh1.out;have hf3:=ce6.out;have hf5:=ek8.out;obtain⟨hf6,hf7,hf8,hf9,hg0,hg3⟩:=blk3_ bx))
  go_ret
  exact⟨g4_,fn⟩
 rw[if_neg cq8] at H
 have lj4:=decide_eq_false cq8
 have lj5:decide (8<=fk.length)=false:=decide_eq_false (by omega)
 clear cq8
 by_cases vy:fy8=true
 ·subst vy
  replace H:=ifp_ H
  obtain⟨fy7,fi0,H⟩:=bind_ H
  obtain rfl:=Option.some.inj H
  have fi1:=bh2.out
  have fi2:=cq5.out
  obtain⟨jn7,jn8,jn9,jo0,jo1,jo2⟩:=blk3_ bz
  go_wp2_with (first|((with_reducible refine gc_ 24 ?_);refine gl_ 78 Try.func24 #[.agg #[.slice az be.length ay, .slice bh cm.length bc, .slice dj ep.length bw]] ?_;(refine(Gk.calls kj55 _ _ be _ _ cm _ _ ep true _ (cR_ dn) (lR_ dn) (cS_ d2) (lS_ d2) (cQ_ eh) (lQ_ eh) A94.out).mono ?_);rintro e nz9 ⟨rfl,hb⟩;refine⟨_,rfl,?_⟩;replace d4:=rbs_ d4 hb;replace ek:=sbs_ ek hb;replace ez:=qbs_ ez hb;replace dn:=rbs_ dn hb;replace d2:=sbs_ d2 hb;replace eh:=qbs_ eh hb;replace fl:=rbs_ fl hb;replace fv:=sbs_ fv hb;replace fy:=qbs_ fy hb;replace ab7:=rbs_ ab7 hb;replace ab8:=sbs_ ab8 hb;replace ab9:=qbs_ ab9 hb;replace bx:=bb_ bx hb;replace bs:=bb_ bs hb;replace bz:=bb_ bz hb;replace dz:=bb_ dz hb;replace gn:=bb_ gn hb;replace HB:=hs_ (fn) hb;have jo5:=as6.out;have jo6:=al4.out;have oa0:=ag4.out;have oa1:=ce5.out;have oa2:=bq8.out;have oa3:=do0.out;obtain⟨oa4,oa5,oa6,oa7,oa8,oa9,ob0,ob1⟩:=blk4_ bs;have fi3:=yl.out;have fi4:=bh1.out;have kw1:=ce6.out;have kw2:=ek8.out;obtain⟨ob2,ob3,ob4,ob5,ob6,ob7⟩:=blk3_ bx;have ob8:=ij0.out;have ob9:=do1.out;obtain⟨oc0,oc1,oc2,oc3,oc4,oc5⟩:=blk3_ gn)|(go_at_call 21;(refine(Fp.calls kj55 _ _ bd _ _ b4 _ _ db _ _ bt _ _ dh _ _ fk fy7 _ (cR_ ab7) (lR_ ab7) (cS_ ab8) (lS_ ab8) (cQ_ ab9) (lQ_ ab9) (cR_ d4) (lR_ d4) (cS_ ek) (lS_ ek) (cQ_ ez) (lQ_ ez) fi0.out).mono ?_);rintro e fi5 ⟨rfl,hb⟩;replace d4:=rbs_ d4 hb;replace ek:=sbs_ ek hb;replace ez:=qbs_ ez hb;replace dn:=rbs_ dn hb;replace d2:=sbs_ d2 hb;replace eh:=qbs_ eh hb;replace fl:=rbs_ fl hb;replace fv:=sbs_ fv hb;replace fy:=qbs_ fy hb;replace ab7:=rbs_ ab7 hb;replace ab8:=sbs_ ab8 hb;replace ab9:=qbs_ ab9 hb;replace bx:=bb_ bx hb;replace bs:=bb_ bs hb;replace bz:=bb_ bz hb;replace dz:=bb_ dz hb;replace gn:=bb_ gn hb;replace HB:=hs_ (fn) hb))
  go_ret
  exact⟨g4_,fn⟩
 replace vy:=Bool.eq_false_iff.mpr vy
 subst vy
 replace H:=ifn_ H
 obtain rfl:=Option.some.inj H
 have jp5:=bh2.out
 have jp6:=cq5.out
 obtain⟨oc6,oc7,oc8,oc9,od0,od1⟩:=blk3_ bz
 go_wp2_with (first|((with_reducible refine gc_ 24 ?_);refine gl_ 78 Try.func24 #[.agg #[.slice az be.length ay, .slice bh cm.length bc, .slice dj ep.length bw]] ?_;(refine(Gk.calls kj55 _ _ be _ _ cm _ _ ep true _ (cR_ dn) (lR_ dn) (cS_ d2) (lS_ d2) (cQ_ eh) (lQ_ eh) A94.out).mono ?_);rintro e od2 ⟨rfl,hb⟩;refine⟨_,rfl,?_⟩;replace d4:=rbs_ d4 hb;replace ek:=sbs_ ek hb;replace ez:=qbs_ ez hb;replace dn:=rbs_ dn hb;replace d2:=sbs_ d2 hb;replace eh:=qbs_ eh hb;replace fl:=rbs_ fl hb;replace fv:=sbs_ fv hb;replace fy:=qbs_ fy hb;replace ab7:=rbs_ ab7 hb;replace ab8:=sbs_ ab8 hb;replace ab9:=qbs_ ab9 hb;replace bx:=bb_ bx hb;replace bs:=bb_ bs hb;replace bz:=bb_ bz hb;replace dz:=bb_ dz hb;replace gn:=bb_ gn hb;replace HB:=hs_ (fn) hb;have gz8:=as6.out;have gz9:=al4.out;have ha0:=ag4.out;have ha1:=ce5.out;have od3:=bq8.out;have od4:=do0.out;obtain⟨od5,od6,od7,od8,od9,oe0,oe1,oe2⟩:=blk4_ bs;have oe3:=yl.out;have oe4:=bh1.out;have oe5:=ce6.out;have oe6:=ek8.out;obtain⟨oe7,oe8,oe9,of0,of1,of2⟩:=blk3_ bx))
 go_ret
 exact⟨g4_,fn⟩
def Fl.Pure:Prop:=∀(l0:List Int),l0.length<=maxLen->l0.length * 1<=140737488351232->(∀x ∈ l0,(Lit.int .u8 x).wf=true)->∃k,Fl.f k l0=some true
theorem Fl.walk (P:Fl.Pure) (a0:Option Addr) (len0 cap0:Nat) (z0:List Int) (w:World) (w0:(a0=none/\len0=0/\cap0=0/\z0=[]) ∨ ∃x,a0=some x/\len0<=cap0/\cap0<=maxLen/\z0.length=cap0/\(∀i,i < z0.length->w.cell? (x.add i)=some (.int .u8 (z0.getD i 0)))/\∀n ∈ z0,(Lit.int .u8 n).wf=true) (y0:len0 * 1<=140737488351232) :
  Calls Try.prog 12 #[.slice a0 len0 cap0] w fun e w'=>e = .returned (.bool true)/\Below w.heap.size w w':=by
 obtain⟨l0,rfl,fc,hm0,hw0,gc⟩:=ReadsInt.ofRowC w0
 obtain⟨k,h⟩:=P l0 hm0 y0 hw0
 refine(Fl.calls k _ _ l0 true w (Kd.C_of_reads (d:=(0:Int)) (h1:=fun _=>rfl) fc) gc h).mono ?_
 rintro e w' ⟨rfl,hd⟩
 exact⟨rfl,hd⟩
end Go.Proofs.Ytfooakkhkehpiaa.PU
namespace Go.Proofs.Ytfooakkhkehpiaa.Qh
open Go.RowKit Go.Proofs.YtfooakkhkehpiaaW.PrintWords Go.Proofs.YtfooakkhkehpiaaW.PrintMore
set_option linter.unusedVariables false
set_option linter.unusedSimpArgs false
theorem w64 {n:Int} (h1 : -9223372036854775808<=n) (h2:n<=9223372036854775807):wrap64 n=n:=by unfold wrap64;omega
theorem wsucc {i n:Nat} (h:i < n) (hn:n<=4611686018427387904):wrap64 ((i:Int) + 1)=((i + 1:Nat):Int):=by unfold wrap64;omega
section
variable {α β:Type} {r:α}
theorem evPos {c:Prop} [Decidable c] {g f:Nat->Option α} (h:c) (k:Ev g r):Ev (fun n=>if c then g n else f n) r:=by
  simp only[if_pos h];exact k
theorem evNeg {c:Prop} [Decidable c] {g f:Nat->Option α} (h:¬ c) (k:Ev f r):Ev (fun n=>if c then g n else f n) r:=by
  simp only[if_neg h];exact k
theorem evBind0 {g:Option β} {f:Nat->β->Option α} {a:β} (h:g=some a) (k:Ev (fun n=>f n a) r):Ev (fun n=>g.bind (f n)) r:=by
  subst h;exact k
theorem evEq {g:Nat->Option α} {q:α} (h:Ev g q) (e:q=r):Ev g r:=e ▸ h
end
theorem rd_get (xs:List Int) (i:Nat) (h:i < xs.length):rd xs (i:Int)=xs[i]:=by
  simp[rd,List.getD_eq_getElem?_getD,List.getElem?_eq_getElem h]
theorem drop_rd (xs:List Int) (i:Nat) (h:i < xs.length):xs.drop i=rd xs (i:Int) :: xs.drop (i + 1):=by
  rw[rd_get xs i h,List.drop_eq_getElem_cons h]
theorem getD_set {α:Type} (xs:List α) (d v:α) (i j:Nat) (h:i < xs.length):(xs.set i v).getD j d=if i=j then v else xs.getD j d:=by
  simp only[List.getD_eq_getElem?_getD,List.getElem?_set]
  by_cases e:i=j
  · subst e;simp[h]
  · simp[e]
theorem rd_set (xs:List Int) (v:Int) (i j:Int) (h0:0<=i) (h:i < xs.length) (hj:0<=j):rd (xs.set i.toNat v) j=if i=j then v else rd xs j:=by
  unfold rd
  rw[getD_set xs 0 v i.toNat j.toNat (by omega)]
  by_cases e:i=j
  · subst e;simp
  · rw[if_neg e,if_neg (by omega)]
theorem rd_app (xs:List Int) (v:Int) (j:Nat):rd (xs ++ [v]) (j:Int)=if j < xs.length then rd xs j else if j=xs.length then v else 0:=by
  unfold rd
  simp only[Int.toNat_natCast,List.getD_eq_getElem?_getD,List.getElem?_append]
  by_cases h:j < xs.length
  · simp[h]
  · by_cases e:j=xs.length
    · subst e;simp
    · rw[if_neg h,if_neg h,if_neg e]
      have:1<=j - xs.length:=by omega
      rw[List.getElem?_eq_none (by simp;omega)];rfl
theorem ext_rd (xs ys:List Int) (hl:xs.length=ys.length) (h:∀i:Nat,i < xs.length->rd xs (i:Int)=rd ys (i:Int)):xs=ys:=by
  apply List.ext_getElem hl
  intro i h1 h2
  have:=h i h1
  rwa [rd_get xs i h1,rd_get ys i h2] at this
theorem getD_mem {α:Type} (d:α) (xs:List α) (i:Nat) (h:i < xs.length):xs.getD i d ∈ xs:=by
  simp[List.getD_eq_getElem?_getD,List.getElem?_eq_getElem h]
def EvB (g:Nat->Option Bool) (p:Prop):Prop:=∃b,(b=true ↔ p)/\Ev g b
section
variable {g f:Nat->Option Bool} {p q:Prop}
theorem EvB.congr (h:EvB g p) (e:p ↔ q):EvB g q:=by obtain⟨b,h1,h2⟩:=h;exact⟨b,h1.trans e,h2⟩
theorem EvB.tt (h:p):EvB (fun _=>some true) p:=⟨true,by simp[h],Ev.now _⟩
theorem EvB.ff (h:¬ p):EvB (fun _=>some false) p:=⟨false,by simp[h],Ev.now _⟩
theorem EvB.pos {c:Prop} [Decidable c] (h:c) (k:EvB g p):EvB (fun n=>if c then g n else f n) p:=by obtain⟨b,h1,h2⟩:=k;exact⟨b,h1,evPos h h2⟩
theorem EvB.neg {c:Prop} [Decidable c] (h:¬ c) (k:EvB f p):EvB (fun n=>if c then g n else f n) p:=by obtain⟨b,h1,h2⟩:=k;exact⟨b,h1,evNeg h h2⟩
theorem EvB.step {g f:Nat->Option Bool} (h:∀k,g (k + 1)=f k) (k:EvB f p):EvB g p:=by obtain⟨b,h1,h2⟩:=k;exact⟨b,h1,Ev.step h h2⟩
theorem EvB.bind {β:Type} {g:Nat->Option β} {f:Nat->β->Option Bool} {a:β} (h:Ev g a) (k:EvB (fun n=>f n a) p):EvB (fun n=>(g n).bind (f n)) p:=by obtain⟨b,h1,h2⟩:=k;exact⟨b,h1,Ev.bind h h2⟩
theorem EvB.bind0 {β:Type} {g:Option β} {f:Nat->β->Option Bool} {a:β} (h:g=some a) (k:EvB (fun n=>f n a) p):EvB (fun n=>g.bind (f n)) p:=by obtain⟨b,h1,h2⟩:=k;exact⟨b,h1,evBind0 h h2⟩
theorem EvB.yes (h:EvB g p) (hp:p):Ev g true:=by obtain⟨b,h1,h2⟩:=h;rw[h1.2 hp] at h2;exact h2
theorem EvB.no (h:EvB g p) (hp:¬ p):Ev g false:=by
  obtain⟨b,h1,h2⟩:=h
  have:b=false:=by cases b with
    | true=>exact absurd (h1.1 rfl) hp
    | false=>rfl
  rw[this] at h2;exact h2
end
end Go.Proofs.Ytfooakkhkehpiaa.Qh
namespace Go.Proofs.Ytfooakkhkehpiaa.Bk
open Go.RowKit Go.Proofs.Ytfooakkhkehpiaa.PU Go.Proofs.Ytfooakkhkehpiaa.Qh Go.Proofs.YtfooakkhkehpiaaW.PrintWords Go.Proofs.YtfooakkhkehpiaaW.PrintMore
set_option linter.unusedVariables false
set_option linter.unusedSimpArgs false
def RowP (c:List Int) (d:List (List Int)) (i:Nat):Prop:=
  0<=rd c (i:Int)/\rd c (i:Int)<=20/\(Jc d (i:Int)).length=c.length/\rd (Jc d (i:Int)) (i:Int)=0/\∀j:Nat,j < c.length->0<=rd (Jc d (i:Int)) (j:Int)/\rd (Jc d (i:Int)) (j:Int)<=9
def BookP (c:List Int) (d:List (List Int)):Prop:=1<=c.length/\c.length<=4/\d.length=c.length/\∀i:Nat,i < c.length->RowP c d i
theorem ib_l1 (c:List Int) (d:List (List Int)) (row:List Int) (x3:Int) (i:Nat) (hrow:row.length<=4) (hi:i < d.length) (hd:d.length<=4) {R:Prop}
    (hR:EvB (fun k=>Fg.l0 k x3 d (d.length:Int) ((i + 1:Nat):Int) c d) R):∀(e j:Nat),row.length - j=e->j<=row.length ->
    EvB (fun k=>Fg.l1 k x3 d (d.length:Int) (i:Int) row (row.length:Int) (j:Int) c d) ((∀j':Nat,j<=j'->j' < row.length->0<=rd row (j':Int)/\rd row (j':Int)<=9)/\R):=by
  have hs:wrap64 ((i:Int) + 1)=((i + 1:Nat):Int):=wsucc hi (by omega)
  intro e
  induction e with
  | zero=>
    intro j he hj
    refine EvB.step (fun k=>by rw[Fg.l1]) ?_
    rw[hs]
    exact EvB.neg (by omega) (hR.congr ⟨fun h=>⟨fun j' h1 h2=>by omega,h⟩,fun h=>h.2⟩)
  | succ e ih=>
    intro j he hj
    have hlt:j < row.length:=by omega
    have hj1:wrap64 ((j:Int) + 1)=((j + 1:Nat):Int):=wsucc hlt (by omega)
    refine EvB.step (fun k=>by rw[Fg.l1]) ?_
    refine EvB.pos (by omega) (EvB.pos (by omega) (EvB.pos (by omega) ?_))
    by_cases h1:rd row (j:Int) < 0
    · exact EvB.pos h1 (EvB.ff (fun h=>by have:=h.1 j (Nat.le_refl _) hlt;omega))
    · refine EvB.neg h1 ?_
      by_cases h2:rd row (j:Int) > 9
      · exact EvB.pos h2 (EvB.ff (fun h=>by have:=h.1 j (Nat.le_refl _) hlt;omega))
      · refine EvB.neg h2 ?_
        rw[hj1]
        refine(ih (j + 1) (by omega) (by omega)).congr ⟨fun h=>⟨fun j' h3 h4=>?_,h.2⟩,fun h=>⟨fun j' h3 h4=>h.1 j' (by omega) h4,h.2⟩⟩
        by_cases e':j'=j
        · subst e';exact⟨by omega,by omega⟩
        · exact h.1 j' (by omega) h4
theorem ib_l0 (c:List Int) (d:List (List Int)) (h4:c.length<=4) (hl:d.length=c.length):∀(e i:Nat),c.length - i=e->i<=c.length ->
    EvB (fun k=>Fg.l0 k (c.length:Int) d (d.length:Int) (i:Int) c d) (∀i':Nat,i<=i'->i' < c.length->RowP c d i'):=by
  intro e
  induction e with
  | zero=>
    intro i he hi
    refine EvB.step (fun k=>by rw[Fg.l0]) ?_
    exact EvB.neg (by omega) (EvB.tt (fun i' h1 h2=>by omega))
  | succ e ih=>
    intro i he hi
    have hlt:i < c.length:=by omega
    refine EvB.step (fun k=>by rw[Fg.l0]) ?_
    refine EvB.pos (by omega) (EvB.pos (by omega) (EvB.pos (by omega) (EvB.pos (by omega) ?_)))
    have bad:∀(P:Prop),(P->¬ RowP c d i)->P->EvB (fun k=>Fg.j2 k (c.length:Int) (Jc d (i:Int)) d (d.length:Int) (i:Int) true c d) (∀i':Nat,i<=i'->i' < c.length->RowP c d i'):=by
      intro P hP p
      refine EvB.step (fun k=>by rw[Fg.j2]) ?_
      exact EvB.pos rfl (EvB.ff (fun h=>hP p (h i (Nat.le_refl _) hlt)))
    by_cases h1:rd c (i:Int) < 0
    · exact EvB.pos h1 (bad _ (fun p h=>by have:=h.1;omega) h1)
    refine EvB.neg h1 ?_
    by_cases h2:rd c (i:Int) > 20
    · exact EvB.pos h2 (bad _ (fun p h=>by have:=h.2.1;omega) h2)
    refine EvB.neg h2 ?_
    by_cases h3:((Jc d (i:Int)).length:Int)=(c.length:Int)
    · refine EvB.pos h3 (EvB.pos (by omega) ?_)
      by_cases h5:rd (Jc d (i:Int)) (i:Int)=0
      · refine EvB.step (fun k=>by rw[Fg.j2]) ?_
        refine EvB.neg (by rw[h5];decide) ?_
        refine(ib_l1 c d (Jc d (i:Int)) (c.length:Int) i (by omega) (by omega) (by omega) (ih (i + 1) (by omega) (by omega)) _ 0 rfl (by omega)).congr ?_
        constructor
        · intro h i' h6 h7
          by_cases e':i'=i
          · subst e';exact⟨by omega,by omega,by omega,h5,fun j hj=>h.1 j (by omega) (by omega)⟩
          · exact h.2 i' (by omega) h7
        · intro h
          have hr:=h i (Nat.le_refl _) hlt
          exact⟨fun j' _ h7=>hr.2.2.2.2 j' (by omega),fun i' h6 h7=>h i' (by omega) h7⟩
      · have hb:(rd (Jc d (i:Int)) (i:Int) != 0)=true:=bne_iff_ne.mpr h5
        rw[hb]
        exact bad _ (fun p h=>p h.2.2.2.1) h5
    · exact EvB.neg h3 (bad _ (fun p h=>p (by rw[h.2.2.1])) h3)
theorem isBook (c:List Int) (d:List (List Int)):EvB (fun k=>Fg.f k c d) (BookP c d):=by
  unfold Fg.f
  by_cases h1:(c.length:Int) < 1
  · refine EvB.pos h1 (EvB.step (fun k=>by rw[Fg.j0]) ?_)
    exact EvB.pos rfl (EvB.ff (fun h=>by have:=h.1;omega))
  refine EvB.neg h1 ?_
  by_cases h2:(c.length:Int) > 4
  · refine EvB.pos h2 (EvB.step (fun k=>by rw[Fg.j0]) ?_)
    exact EvB.pos rfl (EvB.ff (fun h=>by have:=h.2.1;omega))
  refine EvB.neg h2 (EvB.step (fun k=>by rw[Fg.j0]) ?_)
  by_cases h3:d.length=c.length
  · refine EvB.neg (by rw[h3];simp) ?_
    refine(ib_l0 c d (by omega) h3 _ 0 rfl (by omega)).congr ⟨fun h=>⟨by omega,by omega,h3,fun i hi=>h i (by omega) hi⟩,fun h i _ hi=>h.2.2.2 i hi⟩
  · exact EvB.pos (bne_iff_ne.mpr (by omega)) (EvB.ff (fun h=>h3 h.2.2.1))
theorem sIn (a lo hi:Int):F5.f a lo hi=some (decide (lo<=a/\a<=hi)):=by
  unfold F5.f
  by_cases h:a ≥ lo
  · rw[if_pos h];simp[h]
  · rw[if_neg h];congr 1;symm;exact decide_eq_false (fun h'=>h h'.1)
theorem sb_l1 (c:List Int) (d:List (List Int)) (i:Nat) (hrow:(Jc d (i:Int)).length<=4) (hi:i < d.length) (hd:d.length<=4) {R:Prop}
    (hR:EvB (fun k=>Ff.l0 k ((i + 1:Nat):Int) c d) R):∀(e j:Nat),(Jc d (i:Int)).length - j=e->j<=(Jc d (i:Int)).length ->
    EvB (fun k=>Ff.l1 k (i:Int) (j:Int) c d) ((∀j':Nat,j<=j'->j' < (Jc d (i:Int)).length->0<=rd (Jc d (i:Int)) (j':Int)/\rd (Jc d (i:Int)) (j':Int)<=9)/\R):=by
  have hs:wrap64 ((i:Int) + 1)=((i + 1:Nat):Int):=wsucc hi (by omega)
  intro e
  induction e with
  | zero=>
    intro j he hj
    refine EvB.step (fun k=>by rw[Ff.l1]) ?_
    rw[hs]
    exact EvB.pos (by omega) (EvB.pos (by omega) (EvB.neg (by omega) (hR.congr ⟨fun h=>⟨fun j' h1 h2=>by omega,h⟩,fun h=>h.2⟩)))
  | succ e ih=>
    intro j he hj
    have hlt:j < (Jc d (i:Int)).length:=by omega
    have hj1:wrap64 ((j:Int) + 1)=((j + 1:Nat):Int):=wsucc hlt (by omega)
    refine EvB.step (fun k=>by rw[Ff.l1]) ?_
    refine EvB.pos (by omega) (EvB.pos (by omega) (EvB.pos (by omega) (EvB.pos (by omega) (EvB.bind0 (sIn _ _ _) ?_))))
    by_cases h1:0<=rd (Jc d (i:Int)) (j:Int)/\rd (Jc d (i:Int)) (j:Int)<=9
    · refine EvB.pos (decide_eq_true h1) ?_
      rw[hj1]
      refine(ih (j + 1) (by omega) (by omega)).congr ⟨fun h=>⟨fun j' h3 h4=>?_,h.2⟩,fun h=>⟨fun j' h3 h4=>h.1 j' (by omega) h4,h.2⟩⟩
      by_cases e':j'=j
      · subst e';exact h1
      · exact h.1 j' (by omega) h4
    · exact EvB.neg (by simpa using h1) (EvB.ff (fun h=>h1 (h.1 j (Nat.le_refl _) hlt)))
theorem sb_l0 (c:List Int) (d:List (List Int)) (h4:c.length<=4) (hl:d.length=c.length):∀(e i:Nat),c.length - i=e->i<=c.length ->
    EvB (fun k=>Ff.l0 k (i:Int) c d) (∀i':Nat,i<=i'->i' < c.length->RowP c d i'):=by
  intro e
  induction e with
  | zero=>
    intro i he hi
    refine EvB.step (fun k=>by rw[Ff.l0]) ?_
    exact EvB.neg (by omega) (EvB.tt (fun i' h1 h2=>by omega))
  | succ e ih=>
    intro i he hi
    have hlt:i < c.length:=by omega
    refine EvB.step (fun k=>by rw[Ff.l0]) ?_
    refine EvB.pos (by omega) (EvB.pos (by omega) (EvB.bind0 (sIn _ _ _) ?_))
    have bad:∀(P:Prop),(P->¬ RowP c d i)->P->EvB (fun k=>Ff.j2 k (i:Int) true c d) (∀i':Nat,i<=i'->i' < c.length->RowP c d i'):=by
      intro P hP p
      refine EvB.step (fun k=>by rw[Ff.j2]) ?_
      exact EvB.pos rfl (EvB.ff (fun h=>hP p (h i (Nat.le_refl _) hlt)))
    by_cases h1:0<=rd c (i:Int)/\rd c (i:Int)<=20
    · refine EvB.pos (decide_eq_true h1) (EvB.pos (by omega) ?_)
      by_cases h3:((Jc d (i:Int)).length:Int)=(c.length:Int)
      · refine EvB.pos h3 (EvB.pos (by omega) ?_)
        by_cases h5:rd (Jc d (i:Int)) (i:Int)=0
        · refine EvB.step (fun k=>by rw[Ff.j2]) ?_
          refine EvB.neg (by rw[h5];decide) ?_
          refine(sb_l1 c d i (by omega) (by omega) (by omega) (ih (i + 1) (by omega) (by omega)) _ 0 rfl (by omega)).congr ?_
          constructor
          · intro h i' h6 h7
            by_cases e':i'=i
            · subst e';exact⟨h1.1,h1.2,by omega,h5,fun j hj=>h.1 j (by omega) (by omega)⟩
            · exact h.2 i' (by omega) h7
          · intro h
            have hr:=h i (Nat.le_refl _) hlt
            exact⟨fun j' _ h7=>hr.2.2.2.2 j' (by omega),fun i' h6 h7=>h i' (by omega) h7⟩
        · have hb:(rd (Jc d (i:Int)) (i:Int) != 0)=true:=bne_iff_ne.mpr h5
          rw[hb]
          exact bad _ (fun p h=>p h.2.2.2.1) h5
      · exact EvB.neg h3 (bad _ (fun p h=>p (by rw[h.2.2.1])) h3)
    · exact EvB.neg (by simpa using h1) (bad _ (fun p h=>p ⟨h.1,h.2.1⟩) h1)
theorem bookOk (c:List Int) (d:List (List Int)):EvB (fun k=>Ff.f k c d) (BookP c d):=by
  unfold Ff.f
  refine EvB.bind0 (sIn _ _ _) ?_
  by_cases h1:1<=(c.length:Int)/\(c.length:Int)<=4
  · refine EvB.pos (decide_eq_true h1) (EvB.step (fun k=>by rw[Ff.j0]) ?_)
    by_cases h3:d.length=c.length
    · refine EvB.neg (by rw[h3];simp) ?_
      refine(sb_l0 c d (by omega) h3 _ 0 rfl (by omega)).congr ⟨fun h=>⟨by omega,by omega,h3,fun i hi=>h i (by omega) hi⟩,fun h i _ hi=>h.2.2.2 i hi⟩
    · exact EvB.pos (bne_iff_ne.mpr (by omega)) (EvB.ff (fun h=>h3 h.2.2.1))
  · refine EvB.neg (by simpa using h1) (EvB.step (fun k=>by rw[Ff.j0]) ?_)
    exact EvB.pos rfl (EvB.ff (fun h=>h1 ⟨by have:=h.1;omega,by have:=h.2.1;omega⟩))
end Go.Proofs.Ytfooakkhkehpiaa.Bk
namespace Go.Proofs.Ytfooakkhkehpiaa.Mx
open Go.RowKit Go.Proofs.Ytfooakkhkehpiaa.PU Go.Proofs.Ytfooakkhkehpiaa.Qh Go.Proofs.Ytfooakkhkehpiaa.Bk Go.Proofs.YtfooakkhkehpiaaW.PrintWords Go.Proofs.YtfooakkhkehpiaaW.PrintMore
set_option linter.unusedVariables false
set_option linter.unusedSimpArgs false
abbrev db (d:List (List Int)) (i j:Nat):Int:=rd (Jc d (i:Int)) (j:Int)
theorem rL (xs:List (List Int)) (i:Nat):Jc xs (i:Int)=xs.getD i []:=rfl
def rowF (n:Nat) (f:Nat->Int):List Int:=(List.range n).map f
def mk (n:Nat) (f:Nat->Nat->Int):List (List Int):=(List.range n).map (fun i=>rowF n (f i))
theorem rowF_len (n:Nat) (f:Nat->Int):(rowF n f).length=n:=by simp[rowF]
theorem mk_len (n:Nat) (f:Nat->Nat->Int):(mk n f).length=n:=by simp[mk]
theorem rd_rowF {n j:Nat} {f:Nat->Int} (h:j < n):rd (rowF n f) (j:Int)=f j:=by
  rw[rd_get _ _ (by rw[rowF_len];exact h)];simp[rowF]
theorem mk_get {n i:Nat} {f:Nat->Nat->Int} (h:i < n):Jc (mk n f) (i:Int)=rowF n (f i):=by
  rw[rL,List.getD_eq_getElem?_getD,List.getElem?_eq_getElem (by rw[mk_len];exact h)];simp[mk]
theorem rowF_congr {n:Nat} {f g:Nat->Int} (h:∀j,j < n->f j=g j):rowF n f=rowF n g:=by
  unfold rowF
  exact List.map_congr_left (fun j hj=>h j (List.mem_range.mp hj))
theorem mk_congr {n:Nat} {f g:Nat->Nat->Int} (h:∀i,i < n->∀j,j < n->f i j=g i j):mk n f=mk n g:=by
  unfold mk
  exact List.map_congr_left (fun i hi=>rowF_congr (h i (List.mem_range.mp hi)))
theorem rowF_of (l:List Int) {n:Nat} (h:l.length=n):l=rowF n (fun j=>rd l (j:Int)):=by
  apply List.ext_getElem (by rw[rowF_len,h])
  intro i h1 h2
  rw[<- rd_get l i h1, <- rd_get _ i h2,rd_rowF (by rw[rowF_len] at h2;exact h2)]
theorem mk_of {c:List Int} {d:List (List Int)} (h:BookP c d):d=mk c.length (db d):=by
  apply List.ext_getElem (by rw[mk_len,h.2.2.1])
  intro i h1 h2
  have hi:i < c.length:=by rw[mk_len] at h2;exact h2
  have hr:=(h.2.2.2 i hi).2.2.1
  have e1:d[i]=Jc d (i:Int):=by rw[rL,List.getD_eq_getElem?_getD,List.getElem?_eq_getElem h1];rfl
  have e2:(mk c.length (db d))[i]=rowF c.length (db d i):=by simp[mk]
  rw[e1,e2]
  exact rowF_of _ hr
theorem rowF_set {n j:Nat} {f:Nat->Int} {v:Int} (h:j < n):(rowF n f).set j v=rowF n (fun j'=>if j'=j then v else f j'):=by
  apply List.ext_getElem (by simp[rowF])
  intro i h1 h2
  have hi:i < n:=by rw[rowF_len] at h2;exact h2
  rw[List.getElem_set]
  by_cases e:j=i
  · subst e;simp[rowF]
  · rw[if_neg e];simp only[rowF,List.getElem_map,List.getElem_range];rw[if_neg (fun z=>e z.symm)]
theorem mk_set {n i j:Nat} {f:Nat->Nat->Int} {v:Int} (hi:i < n) (hj:j < n):(mk n f).set i ((Jc (mk n f) (i:Int)).set j v)=mk n (fun i' j'=>if i'=i/\j'=j then v else f i' j'):=by
  rw[mk_get hi,rowF_set hj]
  apply List.ext_getElem (by simp[mk])
  intro a h1 h2
  have ha:a < n:=by rw[mk_len] at h2;exact h2
  rw[List.getElem_set]
  by_cases e:i=a
  · subst e
    rw[if_pos rfl]
    simp only[mk,List.getElem_map,List.getElem_range]
    exact rowF_congr (fun j' _=>by simp)
  · rw[if_neg e]
    simp only[mk,List.getElem_map,List.getElem_range]
    exact rowF_congr (fun j' _=>by rw[if_neg (fun z=>e z.1.symm)])
theorem icopy {c:List Int} {d:List (List Int)} (h:BookP c d):Ev (fun k=>Fo.f k c d) (c,d):=by
  have h4:=h.2.1
  have hdl:=h.2.2.1
  unfold Fo.f
  refine evBind0 rfl (evPos (by simp only[List.length_nil];omega) ?_)
  rw[List.nil_append]
  have key:∀(e i:Nat),d.length - i=e->i<=d.length->Ev (fun k=>Fo.l0 k d (d.length:Int) (i:Int) c (d.take i)) (c,d):=by
    intro e
    induction e with
    | zero=>
      intro i he hi
      obtain rfl:i=d.length:=by omega
      refine Ev.step (fun k=>by rw[Fo.l0]) ?_
      rw[List.take_length]
      exact evNeg (by omega) (Ev.now _)
    | succ e ih=>
      intro i he hi
      have hlt:i < d.length:=by omega
      have hr:=(h.2.2.2 i (by omega)).2.2.1
      have hs:Gy (wrap64 ((i:Int) + 1)=((i + 1:Nat):Int)):=⟨wsucc hlt (by omega)⟩
      have htl:(d.take i).length=i:=by rw[List.length_take];omega
      have e2:d.take i ++ [Jc d (i:Int)]=d.take (i + 1):=by
        rw[rL,List.getD_eq_getElem?_getD,List.getElem?_eq_getElem hlt,List.take_succ_eq_append_getElem hlt];rfl
      refine Ev.step (fun k=>by rw[Fo.l0]) ?_
      rw[hs.out]
      refine evPos (by omega) (evPos (by omega) (evPos (by omega) (evBind0 rfl (evPos (by simp only[List.length_nil];omega) (evPos (by omega) ?_)))))
      rw[List.nil_append,e2]
      exact ih (i + 1) (by omega) (by omega)
  exact key d.length 0 rfl (by omega)
theorem scopy {c:List Int} {d:List (List Int)} (h:BookP c d):Ev (fun k=>Fu.f k c d) (c,d):=by
  have h4:=h.2.1
  have hdl:=h.2.2.1
  unfold Fu.f
  refine evBind0 rfl (evPos (by simp only[List.length_nil];omega) ?_)
  rw[List.nil_append]
  have key:∀(e i:Nat),d.length - i=e->i<=d.length->Ev (fun k=>Fu.l0 k (i:Int) c d c (d.take i)) (c,d):=by
    intro e
    induction e with
    | zero=>
      intro i he hi
      obtain rfl:i=d.length:=by omega
      refine Ev.step (fun k=>by rw[Fu.l0]) ?_
      rw[List.take_length]
      exact evNeg (by omega) (Ev.now _)
    | succ e ih=>
      intro i he hi
      have hlt:i < d.length:=by omega
      have hr:=(h.2.2.2 i (by omega)).2.2.1
      have hs:Gy (wrap64 ((i:Int) + 1)=((i + 1:Nat):Int)):=⟨wsucc hlt (by omega)⟩
      have htl:(d.take i).length=i:=by rw[List.length_take];omega
      have e2:d.take i ++ [Jc d (i:Int)]=d.take (i + 1):=by
        rw[rL,List.getD_eq_getElem?_getD,List.getElem?_eq_getElem hlt,List.take_succ_eq_append_getElem hlt];rfl
      refine Ev.step (fun k=>by rw[Fu.l0]) ?_
      rw[hs.out]
      refine evPos (by omega) (evBind0 rfl (evPos (by omega) (evPos (by simp only[List.length_nil];omega) (evPos (by omega) ?_))))
      rw[List.nil_append,e2]
      exact ih (i + 1) (by omega) (by omega)
  exact key d.length 0 rfl (by omega)
theorem sameI_l (l:List Int) (hl:l.length<=4611686018427387904):∀(e i:Nat),l.length - i=e->i<=l.length->Ev (fun k=>Fy.l0 k l l (i:Int)) true:=by
  intro e
  induction e with
  | zero=>
    intro i he hi
    refine Ev.step (fun k=>by rw[Fy.l0]) ?_
    exact evNeg (by omega) (Ev.now _)
  | succ e ih=>
    intro i he hi
    have hlt:i < l.length:=by omega
    have hs:wrap64 ((i:Int) + 1)=((i + 1:Nat):Int):=wsucc hlt hl
    refine Ev.step (fun k=>by rw[Fy.l0]) ?_
    refine evPos (by omega) (evPos (by omega) (evPos (by omega) (evPos rfl ?_)))
    rw[hs]
    exact ih (i + 1) (by omega) (by omega)
theorem sameI (l:List Int) (hl:l.length<=4611686018427387904):Ev (fun k=>Fy.f k l l) true:=by
  unfold Fy.f
  exact evPos rfl (sameI_l l hl _ 0 rfl (by omega))
theorem sameR_l (l:List (List Int)) (hl:l.length<=4611686018427387904) (hr:∀i:Nat,i < l.length->(Jc l (i:Int)).length<=4611686018427387904):∀(e i:Nat),l.length - i=e->i<=l.length->Ev (fun k=>Gb.l0 k l l (i:Int)) true:=by
  intro e
  induction e with
  | zero=>
    intro i he hi
    refine Ev.step (fun k=>by rw[Gb.l0]) ?_
    exact evNeg (by omega) (Ev.now _)
  | succ e ih=>
    intro i he hi
    have hlt:i < l.length:=by omega
    have hs:wrap64 ((i:Int) + 1)=((i + 1:Nat):Int):=wsucc hlt hl
    refine Ev.step (fun k=>by rw[Gb.l0]) ?_
    refine evPos (by omega) (evPos (by omega) (evPos (by omega) (Ev.bind (sameI _ (hr i hlt)) (evPos rfl ?_))))
    rw[hs]
    exact ih (i + 1) (by omega) (by omega)
theorem sameB (c:List Int) (l:List (List Int)) (hc:c.length<=4611686018427387904) (hl:l.length<=4611686018427387904) (hr:∀i:Nat,i < l.length->(Jc l (i:Int)).length<=4611686018427387904):Ev (fun k=>Gi.f k c l c l) true:=by
  unfold Gi.f
  refine Ev.bind (sameI c hc) (evPos rfl (Ev.bind ?_ (Ev.now _)))
  unfold Gb.f
  exact evPos rfl (sameR_l l hl hr _ 0 rfl (by omega))
theorem sameOk {c:List Int} {d:List (List Int)} (h:BookP c d):Ev (fun k=>Gi.f k c d c d) true:=by
  have h4:=h.2.1
  have hdl:=h.2.2.1
  exact sameB c d (by omega) (by omega) (fun i hi=>by have:=(h.2.2.2 i (by omega)).2.2.1;omega)
end Go.Proofs.Ytfooakkhkehpiaa.Mx
