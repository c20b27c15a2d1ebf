/- FnExactDeskRun: for every input the law holds, and each argument reads as it read before. No condition. -/
import Derived.Test.YtfooakkhkehpiaaZFnExactDeskRun1
import Derived.Test.YtfooakkhkehpiaaZFnExactDeskRun2
namespace Go.Proofs.Ytfooakkhkehpiaa.PE
open Go.RowKit Go.Proofs.YtfooakkhkehpiaaW.PrintWords Go.Proofs.YtfooakkhkehpiaaW.PrintLast Go.Proofs.YtfooakkhkehpiaaW.PrintMore
attribute [local go_sem] max2_int min2_int max_two min_two max_three min_three max_four min_four-- for this text's walks alone
set_option linter.unusedVariables false
set_option linter.unusedSimpArgs false
section
open Go.Shelf Go.Lib
namespace Circ
theorem two_ints (w:World) (a b:Int):Kd.C (Kd.int .i64) (w.alloc (.cells #[.int .i64 a, .int .i64 b] 3)) (some ⟨w.heap.size,0,none⟩) 2 [a,b]:=by
  have hh:(w.alloc (.cells #[.int .i64 a, .int .i64 b] 3)).heap[w.heap.size]? = some (.cells #[.int .i64 a, .int .i64 b] 3 (0,0)):=by rw[show(w.alloc (.cells #[.int .i64 a, .int .i64 b] 3)).heap=w.heap.push (.cells #[.int .i64 a, .int .i64 b] 3) from rfl];simp
  refine⟨rfl,by decide,fun _=>⟨⟨w.heap.size,0,none⟩,rfl,fun j p hj=>⟨[.int .i64 p],rfl,rfl,fun i u hu=>?_⟩⟩⟩
  have hi:i=0:=by
    have:=(List.getElem?_eq_some_iff.1 hu).1
    simp at this;exact this
  subst hi
  have hu':u = .int .i64 p:=by simpa using hu.symm
  subst hu'
  have hs:(Kd.int .i64).sz=1:=rfl
  rw[hs,add_at,Nat.mul_one,Nat.add_zero,Nat.zero_add,Jd hh j]
  have hj2:j < 2:=(List.getElem?_eq_some_iff.1 hj).1
  rcases(by omega:j=0 ∨ j=1) with rfl|rfl
  · have:a=p:=by simpa using hj
    subst this;rfl
  · have:b=p:=by simpa using hj
    subst this;rfl
def cmpv (k:Nat) (l0 l1:List Int):Option Int:=(Gu.f (l0.length:Int) (l1.length:Int)).bind fun a=>(Fy.f k l0 l1).bind fun b=>F3.f k [a,b]
set_option maxHeartbeats 4000000 in
set_option maxRecDepth 100000 in
theorem circles2 (k:Nat) (A0:Option Addr) (c0:Nat) (l0:List Int) (A1:Option Addr) (c1:Nat) (l1:List Int) (r:Int) (w:World) (hr0:Kd.C (Kd.int .i64) w A0 l0.length l0) (hc0:l0.length<=c0) (hr1:Kd.C (Kd.int .i64) w A1 l1.length l1) (hc1:l1.length<=c1) (h:cmpv k l0 l1=some r) :
    Calls Try.prog 118 #[.slice A0 l0.length c0, .slice A1 l1.length c1] w fun e w'=>e = .returned (.int .i64 r)/\∃n1 o n2,w'=((w.drewN n1).alloc o).drewN n2:=by
  have HR0:=Jc.mk hr0
  have HR1:=Jc.mk hr1
  obtain⟨a,ha,h⟩:=Option.bind_eq_some_iff.mp h
  obtain⟨b,hb,h⟩:=Option.bind_eq_some_iff.mp h
  have HA:=Jc.mk ha
  have HB:=Jc.mk hb
  have HO:=Jc.mk h
  clear hr0 hr1 ha hb h
  go_enter Try.func118,Try.ntmps118
  go_wp2_with (first|(go_at_call 120;refine(Gu.calls _ _ a _ HA.out).mono ?_;rintro e w1 ⟨rfl,⟨n1,rfl⟩⟩)|(go_at_call 121;refine(Fy.calls k _ _ l0 _ _ l1 b _ ?s1 ?s2 ?s3 ?s4 HB.out).mono ?_;(case s1=>repeat(first|exact HR0.out|(with_reducible refine Kd.C_drewN ?_ _)|(with_reducible refine Kd.C_drew ?_)));(case s2=>exact hc0);(case s3=>repeat(first|exact HR1.out|(with_reducible refine Kd.C_drewN ?_ _)|(with_reducible refine Kd.C_drew ?_)));(case s4=>exact hc1);rintro e w2 ⟨rfl,⟨n2,rfl⟩⟩)|(go_at_call 119;refine(F3.calls k _ 2 [a,b] r _ ?s1 ?s2 HO.out).mono ?_;(case s1=>exact two_ints _ a b);(case s2=>exact Nat.le_refl _);rintro e w3 ⟨rfl,⟨n3,rfl⟩⟩))
  go_ret
  exact⟨rfl,_,_,_,rfl⟩
section
open Go.Sort
def rn:Ren:=⟨fun _=>133,fun n=>if n=22 then 23 else if n=24 then 22 else if n=25 then 120 else n,fun n=>n⟩
set_option maxRecDepth 100000 in
theorem laid:SlLaysF.n20 Try.prog rn := {
  mixed:=by kernel_rfl
  f20:=⟨"slices.insertionSortCmpFunc[[]int]",by kernel_rfl,by kernel_rfl⟩
  t0:=by kernel_rfl
  a0:=fun _=>rfl
  z0:=fun _=>rfl
  v0:=fun _=>rfl
  t3:=by kernel_rfl
  a3:=fun _=>rfl
  z3:=fun _=>rfl
  v3:=fun _=>rfl
  t4:=by kernel_rfl
  a4:=fun _=>rfl
  z4:=fun _=>rfl
  v4:=fun _=>rfl
  t22:=by kernel_rfl
  a22:=fun _=>rfl
  z22:=fun _=>rfl
  v22:=fun _=>rfl
  a24:=fun _=>rfl
  z24:=fun _=>rfl
  t25:=by kernel_rfl
  a25:=fun _=>rfl
  z25:=fun _=>rfl
  v25:=fun _=>rfl }
end
def cmpI (a b:Int):Int:=if a < b then -1 else if a > b then 1 else 0
def lexc:List Int->List Int->Int
  | [],b=>if 0 < b.length then -1 else 0
  | _ :: _,[]=>1
  | a :: r,b :: s=>if cmpI a b=0 then lexc r s else cmpI a b
def cmpl (a b:List Int):Int:=if cmpI (a.length:Int) (b.length:Int)=0 then lexc a b else cmpI (a.length:Int) (b.length:Int)
theorem compI (a b:Int):Gu.f a b=some (cmpI a b):=by
  unfold Gu.f Gl.f cmpI
  by_cases h:a < b
  · simp[h]
  · by_cases h2:a > b
    · simp[h,h2]
    · simp[h,h2]
theorem c_drop (xs:List Int) (i:Nat) (h:i < xs.length):xs.drop i=rd xs (i:Int) :: xs.drop (i + 1):=by
  rw[List.drop_eq_getElem_cons h];simp[rd,List.getD_eq_getElem?_getD,List.getElem?_eq_getElem h]
theorem lex_l (a b:List Int) (ha:a.length<=9223372036854775807):∀(e i k:Nat),a.length - i=e->i<=a.length->e < k->Fy.l0 k a b a (a.length:Int) (i:Int)=some (lexc (a.drop i) (b.drop i)):=by
  intro e
  induction e with
  | zero=>
    intro i k he hi hk
    obtain⟨k,rfl⟩:∃m,k=m + 1:=⟨k - 1,by omega⟩
    obtain rfl:i=a.length:=by omega
    simp only[Fy.l0]
    rw[if_neg (by omega),List.drop_length,lexc]
    by_cases h:a.length < b.length
    · rw[if_pos (by omega),if_pos (by rw[List.length_drop];omega)]
    · rw[if_neg (by omega),if_neg (by rw[List.length_drop];omega)]
  | succ e ih=>
    intro i k he hi hk
    obtain⟨k,rfl⟩:∃m,k=m + 1:=⟨k - 1,by omega⟩
    have hw:wrap64 ((i:Int) + 1)=((i + 1:Nat):Int):=by unfold wrap64;omega
    simp only[Fy.l0]
    rw[if_pos (by omega),if_pos (by omega),if_pos (by omega),hw,c_drop a i (by omega)]
    by_cases h:i < b.length
    · rw[if_neg (by omega),if_pos (by omega),compI,Option.bind_some,c_drop b i h,lexc]
      by_cases hc:cmpI (rd a (i:Int)) (rd b (i:Int))=0
      · rw[if_pos hc,if_pos hc]
        exact ih (i + 1) k (by omega) (by omega) (by omega)
      · rw[if_neg hc,if_neg hc]
    · rw[if_pos (by omega),List.drop_of_length_le (show b.length<=i by omega),lexc]
theorem orI (a b:Int):F3.f 3 [a,b]=some (if a=0 then b else a):=by
  unfold F3.f
  have w1:wrap64 (1:Int)=1:=by unfold wrap64;omega
  have w2:wrap64 (2:Int)=2:=by unfold wrap64;omega
  have e0:∀x y:Int,rd [x,y] 0=x:=fun _ _=>rfl
  have e1:∀x y:Int,rd [x,y] 1=y:=fun _ _=>rfl
  by_cases h:a=0
  · by_cases h2:b=0
    · simp[F3.l0,w1,w2,e0,e1,h,h2]
    · simp[F3.l0,w1,w2,e0,e1,h,h2]
  · simp[F3.l0,e0,h]
theorem cmpv_ev (a b:List Int) (ha:a.length<=9223372036854775807):∃k,cmpv k a b=some (cmpl a b):=by
  refine⟨a.length + 3,?_⟩
  unfold cmpv cmpl
  rw[compI,Option.bind_some]
  unfold Fy.f
  have:=lex_l a b ha a.length 0 (a.length + 3) (by omega) (by omega) (by omega)
  rw[List.drop_zero,List.drop_zero] at this
  rw[show((0:Nat):Int)=0 from rfl] at this
  rw[this,Option.bind_some]
  have hm:∀n,F3.f (n + 3) [cmpI (a.length:Int) (b.length:Int),lexc a b]=some (if cmpI (a.length:Int) (b.length:Int)=0 then lexc a b else cmpI (a.length:Int) (b.length:Int)):=by
    intro n
    induction n with
    | zero=>exact orI _ _
    | succ n ih=>exact F3.mono _ _ _ ih
  exact hm _
def El (w0:World) (okk:Nat->Prop):Type := { x:Option Addr × Nat × List Int // x.2.2.length<=x.2.1/\Kd.F (Kd.int .i64) w0 okk x.1 x.2.2.length x.2.2 }
instance {w0:World} {okk:Nat->Prop}:Inhabited (El w0 okk):=⟨⟨(none,0,[]),Nat.le_refl _,Kd.F_nil _ _ _⟩⟩
def El.enc {w0:World} {okk:Nat->Prop} (x:El w0 okk):Value:=.slice x.1.1 x.1.2.2.length x.1.2.1
def El.l {w0:World} {okk:Nat->Prop} (x:El w0 okk):List Int:=x.1.2.2
def El.cf {w0:World} {okk:Nat->Prop} (x y:El w0 okk):Int:=cmpl x.l y.l
section
variable {w0 W:World} {okk ok:Nat->Prop} {blk n cap base:Nat} {xs:List (List Int)}
theorem El.one:OneCell (El.enc:El w0 okk->Value):=fun _=>rfl
theorem el_of {x:List Int} {c:List Value} (h:Kd.FK (Kd.slice 3 (Kd.int .i64)) w0 okk x c):∃e:El w0 okk,e.l=x/\[e.enc]=c:=by
  obtain⟨A,cp,rfl,hl,hC⟩:=Kd.FK_now h
  refine⟨⟨(A,cp,x),hl,fun W' hW=>?_⟩,rfl,rfl⟩
  obtain⟨A',cp',he,_,hC'⟩:=h W' hW
  have h1:=congrArg (fun l=>l[0]?) he
  have h2:=Option.some.inj (show some (Value.slice A x.length cp)=some (Value.slice A' x.length cp') from h1)
  injection h2 with h3 _ _
  show Kd.C (Kd.int .i64) W' A x.length x
  rw[h3];exact hC'
theorem els_of:∀(ys:List (List Int)) (cs:List (List Value)),ys.length=cs.length->(∀(j:Nat) (x:List Int) (c:List Value),ys[j]? = some x->cs[j]? = some c->Kd.FK (Kd.slice 3 (Kd.int .i64)) w0 okk x c)->∃ds:List (El w0 okk),ds.map El.l=ys/\ds.map (fun x=>[x.enc])=cs
  | [],cs,hl,_=>⟨[],rfl,by cases cs with
    | nil=>rfl
    | cons a r=>simp at hl⟩
  | y :: ys,[],hl,_=>by simp at hl
  | y :: ys,c :: cs,hl,h=>by
    obtain⟨e,h1,h2⟩:=el_of (h 0 y c rfl rfl)
    obtain⟨ds,h3,h4⟩:=els_of ys cs (by simpa using hl) (fun j x c hx hc=>h (j + 1) x c (by simpa using hx) (by simpa using hc))
    exact⟨e :: ds,by simp[h1,h3],by simp[h2,h4]⟩
theorem blk_holds (d:Array (El w0 okk)) {cur:Array Value} (hh:w0.heap[blk]? = some (.cells cur 22 (0,0))) (hc:∀j,j < d.size->cur[j]? = some (d[j]!).enc):Go.Sort.Holds El.enc w0 blk 0 d:=fun j hj=>by
  rw[Nat.zero_add]
  exact⟨(Jd hh j).trans (hc j hj),Jo hh j⟩
theorem sw_heap {d':Array (El w0 okk)} (S:SW El.enc w0 blk 0 d' W) (hblk:blk < w0.heap.size):Kept w0 W (fun k=>k=blk)/\W.os=w0.os/\W.tape=w0.tape/\W.output=w0.output/\∀ {cur:Array Value},w0.heap[blk]? = some (.cells cur 22 (0,0))->W.heap[blk]? = some (.cells (Go.Sort.putCells El.enc 0 d' cur) 22 (0,0)):=by
  obtain⟨m,os,rfl⟩:=S
  have hs:(Go.Sort.putRow El.enc (Go.Sort.ahead w0 m) blk 0 d').heap.size=w0.heap.size:=by rw[size_putRow];rfl
  refine⟨⟨?_,fun k hk hn=>?_⟩,rfl,rfl,rfl,fun {cur} hh=>?_⟩
  · unfold sortWorld;rw[Go.Sort.size_grow,hs];omega
  · show((Go.Sort.putRow El.enc (Go.Sort.ahead w0 m) blk 0 d').heap ++ os)[k]? = _
    rw[Array.getElem?_append_left (by rw[hs];exact hk)]
    show(w0.heap.modify blk _)[k]? = _
    rw[Array.getElem?_modify,if_neg (fun e=>hn e.symm)]
  · show((Go.Sort.putRow El.enc (Go.Sort.ahead w0 m) blk 0 d').heap ++ os)[blk]? = _
    rw[Array.getElem?_append_left (by rw[hs];exact hblk)]
    show(w0.heap.modify blk _)[blk]? = _
    rw[Array.getElem?_modify,if_pos rfl,hh]
    rfl
end
section
variable {w0 W:World} {ok:Nat->Prop} {blk n cap base:Nat} {xs:List (List Int)}
structure RowOf (w0:World) (base:Nat) (ok:Nat->Prop) (blk n cap:Nat) (cur:Array Value) (d:Array (El w0 (fun k=>ok k/\k≠blk))):Prop where
  hh:w0.heap[blk]? = some (.cells cur 22 (0,0))
  hd:d.size=n
  hc:∀j,j < d.size->cur[j]? = some (d[j]!).enc
  hb:base<=blk
  hn:n<=cap
  hm:cap<=maxLen
  hs:cur.size=cap
  hok:ok blk
theorem N_els (h:Kd.N (Kd.slice 3 (Kd.int .i64)) 22 w0 base ok (.slice (some ⟨blk,0,none⟩) n cap) xs) :
    ∃cur d,RowOf w0 base ok blk n cap cur d/\d.toList.map El.l=xs:=by
  obtain⟨h0,rows,hl,hR,hF⟩:=h
  have hbl:(Value.slice (some ⟨blk,0,none⟩) n cap).ownBlock=some blk:=by simp[Value.ownBlock]
  obtain⟨ds,h1,h2⟩:=els_of (w0:=w0) (okk:=fun k=>ok k/\k≠blk) xs rows hl.symm (fun j x c hx hc=>Foot.mono (hF j x c hx hc) (fun k hk=>⟨hk.1,fun e=>hk.2 (by rw[hbl,e])⟩))
  obtain⟨_,inner,ho,hr⟩:=hR
  rcases ho.2 with⟨hv,_⟩ | ⟨g,cap',cur,hv,hg,hh,hn,hm,hs,ht⟩
  · cases hv
  injection hv with hA hN hC
  injection hA with hA
  injection hA with hA
  subst hA;subst hC
  have hsz:(Kd.raw (Kd.slice 3 (Kd.int .i64)).sz).sz=1:=rfl
  rw[hsz] at hs ht hr
  rw[Nat.mul_one] at hs ht
  have hdl:ds.length=rows.length:=by rw[<- h2,List.length_map]
  refine⟨cur,ds.toArray,⟨hh,by simp[hdl,hN],fun j hj=>?_,hg,by omega,hm,hs,h0 blk hbl⟩,by simpa using h1⟩
  have hj':j < ds.length:=by simpa using hj
  have hjr:rows[j]? = some [(ds[j]).enc]:=by rw[<- h2,List.getElem?_map,List.getElem?_eq_getElem hj'];rfl
  have hM:=hr.2 j _ hjr
  have e1:(inner.drop (j * 1)).take 1=[(ds[j]).enc]:=hM.1
  rw[Nat.mul_one] at e1
  have hil:inner.length=rows.length:=by have:=hr.1;omega
  have e2:inner[j]? = some (ds[j]).enc:=by
    have hji:j < inner.length:=by omega
    rw[List.drop_eq_getElem_cons hji,List.take_succ_cons,List.take_zero] at e1
    injection e1 with e5 _
    rw[List.getElem?_eq_getElem hji,e5]
  have e3:cur.toList[j]? = some (ds[j]).enc:=by
    rw[<- e2, <- ht,List.getElem?_take,if_pos (by omega)]
  have e4:(ds.toArray)[j]! = ds[j]:=by simp[hj']
  rw[e4, <- Array.getElem?_toList]
  exact e3
theorem put_take {okk:Nat->Prop} (cur:Array Value) (d':Array (El w0 okk)) (h:d'.size<=cur.size):(Go.Sort.putCells El.enc 0 d' cur).toList.take d'.size=d'.toList.map El.enc:=by
  apply List.ext_getElem?
  intro j
  rw[List.getElem?_take,List.getElem?_map,Array.getElem?_toList,Array.getElem?_toList]
  unfold Go.Sort.putCells
  rw[Array.getElem?_mapIdx]
  by_cases hj:j < d'.size
  · rw[if_pos hj,Array.getElem?_eq_getElem (show j < cur.size by omega),Array.getElem?_eq_getElem hj]
    simp only[Option.map_some]
    rw[if_pos ⟨Nat.zero_le _,by omega⟩,Nat.sub_zero,getElem!_pos d' j hj]
  · rw[if_neg hj,Array.getElem?_eq_none (by omega)];rfl
theorem N_back {cur:Array Value} {d d':Array (El w0 (fun k=>ok k/\k≠blk))} (R:RowOf w0 base ok blk n cap cur d) (hs:d'.size=n) (S:SW El.enc w0 blk 0 d' W) :
    Kd.N (Kd.slice 3 (Kd.int .i64)) 22 W base ok (.slice (some ⟨blk,0,none⟩) n cap) (d'.toList.map El.l):=by
  have hblk:blk < w0.heap.size:=(Array.getElem?_eq_some_iff.1 R.hh).1
  obtain⟨hk,_,_,_,hcur⟩:=sw_heap S hblk
  have hbl:(Value.slice (some ⟨blk,0,none⟩) n cap).ownBlock=some blk:=by simp[Value.ownBlock]
  have hsz:(Kd.raw (Kd.slice 3 (Kd.int .i64)).sz).sz=1:=rfl
  refine⟨fun k hk=>?_,d'.toList.map (fun x=>[x.enc]),by simp,⟨fun k hk=>hk.symm,d'.toList.map El.enc,?_,?_,?_⟩,fun j x c hx hc=>?_⟩
  · rw[hbl] at hk;injection hk with hk;subst hk;exact R.hok
  · rw[hsz]
    refine⟨by simp, .inr ⟨blk,cap,_,?_,R.hb,hcur R.hh,?_,R.hm,?_,?_⟩⟩
    · simp[hs]
    · simp[hs];exact R.hn
    · rw[Nat.mul_one];unfold Go.Sort.putCells;rw[Array.size_mapIdx];exact R.hs
    · rw[Nat.mul_one]
      have:=put_take cur d' (by rw[hs,R.hs];exact R.hn)
      simpa using this
  · rw[hsz];simp
  · intro j p hj
    have hj':j < d'.toList.length:=by have:=(List.getElem?_eq_some_iff.1 hj).1;simpa using this
    rw[List.getElem?_map,List.getElem?_eq_getElem hj'] at hj
    have hp:p=[(d'.toList[j]).enc]:=(Option.some.inj hj).symm
    subst hp
    have ecs:((d'.toList.map El.enc).drop (j * 1)).take 1=[(d'.toList[j]).enc]:=by
      rw[Nat.mul_one,List.drop_eq_getElem_cons (by simpa using hj'),List.take_succ_cons,List.take_zero];simp
    rw[hsz,ecs]
    exact⟨rfl,rfl,fun u hu=>by rw[List.mem_singleton.1 hu];rfl⟩
  · have hj':j < d'.toList.length:=by have:=(List.getElem?_eq_some_iff.1 hx).1;simpa using this
    rw[List.getElem?_map,List.getElem?_eq_getElem hj'] at hx hc
    obtain rfl:=Option.some.inj hx
    obtain rfl:=Option.some.inj hc
    have hF:=(d'.toList[j]).2.2
    have hF2:Kd.F (Kd.int .i64) W (fun k=>ok k/\k≠blk) _ _ _:=Kd.F_kept hF hk (fun k hk=>hk.2)
    intro W' hW
    exact⟨(d'.toList[j]).1.1,(d'.toList[j]).1.2.1,rfl,(d'.toList[j]).2.1,hF2 W' (fun k hk hlt=>hW k ⟨hk.1,fun e=>hk.2 (by rw[hbl] at e;injection e)⟩ hlt)⟩
end
def insL:Nat->List (List Int)->List (List Int)
  | 0,xs=>xs
  | j + 1,xs=>if cmpl (xs.getD (j + 1) []) (xs.getD j []) < 0 then insL j ((xs.set (j + 1) (xs.getD j [])).set j (xs.getD (j + 1) [])) else xs
def srtL:Nat->Nat->List (List Int)->List (List Int)
  | 0,_,xs=>xs
  | e + 1,i,xs=>srtL e (i + 1) (insL i xs)
section
variable {w0 W:World} {okk ok:Nat->Prop} {blk n cap base:Nat} {xs:List (List Int)}
theorem mp_get (d:Array (El w0 okk)) {j:Nat} (hj:j < d.size):(d.toList.map El.l).getD j []=(d[j]!).l:=by
  rw[List.getD_eq_getElem?_getD,List.getElem?_map,Array.getElem?_toList,Array.getElem?_eq_getElem hj,getElem!_pos d j hj];rfl
theorem mp_set (d:Array (El w0 okk)) (j:Nat) (x:El w0 okk):(d.setIfInBounds j x).toList.map El.l=(d.toList.map El.l).set j x.l:=by
  rw[Array.toList_setIfInBounds,List.map_set]
theorem ins_eq:∀(j:Nat) (d:Array (El w0 okk)),j < d.size->(Go.Sort.insInner (ltOf El.cf) 0 j d).toList.map El.l=insL j (d.toList.map El.l)/\(Go.Sort.insInner (ltOf El.cf) 0 j d).size=d.size
  | 0,d,_=>⟨rfl,rfl⟩
  | j + 1,d,hj=>by
    rw[Go.Sort.insInner,insL,mp_get d hj,mp_get d (show j < d.size by omega)]
    by_cases h:cmpl (d[j + 1]!).l (d[j]!).l < 0
    · have hl:(decide (j + 1 > 0) && ltOf El.cf d[j + 1]! d[j]!)=true:=by
        rw[Bool.and_eq_true];exact⟨decide_eq_true (by omega),decide_eq_true h⟩
      rw[if_pos hl,if_pos h]
      have hs:(Go.Sort.swp d (j + 1) j).size=d.size:=by unfold Go.Sort.swp;simp
      obtain⟨h1,h2⟩:=ins_eq j (Go.Sort.swp d (j + 1) j) (by omega)
      refine⟨?_,by rw[h2,hs]⟩
      rw[h1]
      congr 1
      unfold Go.Sort.swp
      rw[mp_set,mp_set]
    · have hl:¬ (decide (j + 1 > 0) && ltOf El.cf d[j + 1]! d[j]!)=true:=by
        rw[Bool.and_eq_true];rintro⟨_,z⟩;exact h (of_decide_eq_true z)
      rw[if_neg hl,if_neg h]
      exact⟨rfl,rfl⟩
theorem srt_eq:∀(e i b:Nat) (d:Array (El w0 okk)),b - i=e->b<=d.size->(Go.Sort.insOuter (ltOf El.cf) 0 b i d).toList.map El.l=srtL e i (d.toList.map El.l)/\(Go.Sort.insOuter (ltOf El.cf) 0 b i d).size=d.size
  | 0,i,b,d,he,hb=>by
    rw[Go.Sort.insOuter,if_neg (by omega)]
    exact⟨rfl,rfl⟩
  | e + 1,i,b,d,he,hb=>by
    rw[Go.Sort.insOuter,if_pos (by omega),srtL]
    obtain⟨h1,h2⟩:=ins_eq i d (by omega)
    obtain⟨h3,h4⟩:=srt_eq e (i + 1) b (Go.Sort.insInner (ltOf El.cf) 0 i d) (by omega) (by omega)
    exact⟨by rw[h3,h1],by rw[h4,h2]⟩
theorem cmp_lays (hblk:blk < w0.heap.size) (size:Nat):CmpLays1 Try.prog 118 #[] (El.enc:El w0 (fun k=>ok k/\k≠blk)->Value) El.cf blk 0 size w0:=by
  intro m os dk hs x y
  have S:SW El.enc w0 blk 0 dk (sortWorld El.enc w0 blk 0 m dk os):=⟨m,os,rfl⟩
  have hk:=(sw_heap S hblk).1
  have hx:=x.2.2 (sortWorld El.enc w0 blk 0 m dk os) (fun k hk' hlt=>hk.2 k hlt hk'.2)
  have hy:=y.2.2 (sortWorld El.enc w0 blk 0 m dk os) (fun k hk' hlt=>hk.2 k hlt hk'.2)
  obtain⟨k,hkv⟩:=cmpv_ev x.l y.l hx.2.1
  refine(circles2 k _ _ x.l _ _ y.l _ _ hx x.2.1 hy y.2.1 hkv).mono ?_
  rintro e w' ⟨rfl,n1,o,n2,rfl⟩
  exact⟨rfl,n1 + n2,#[o],by rw[Go.Sort.alloc_eq_grow];simp[World.drewN,Go.Sort.grow,Nat.add_assoc]⟩
def Sorted (w0:World) (base:Nat) (ok:Nat->Prop) (blk n cap:Nat) (ys:List (List Int)) (w':World):Prop:=
  Kd.N (Kd.slice 3 (Kd.int .i64)) 22 w' base ok (.slice (some ⟨blk,0,none⟩) n cap) ys/\Kept w0 w' (fun k=>k=blk)/\w'.os=w0.os/\w'.tape=w0.tape/\w'.output=w0.output
theorem ins133 (h:Kd.N (Kd.slice 3 (Kd.int .i64)) 22 w0 base ok (.slice (some ⟨blk,0,none⟩) n cap) xs) (hn:n<=1000) (a:Nat) (ha:a=0 ∨ a=n) :
    Calls Try.prog 133 #[.slice (some ⟨blk,0,none⟩) n cap, .int .i64 (a:Int), .int .i64 (n:Int), .func (.func 118) #[] #[]] w0 fun e w'=>e = .returned (.tuple #[])/\Sorted w0 base ok blk n cap (if a=0 then srtL (n - 1) 1 xs else xs) w':=by
  obtain⟨cur,d,R,hx⟩:=N_els h
  have hblk:blk < w0.heap.size:=(Array.getElem?_eq_some_iff.1 R.hh).1
  have hH:=blk_holds d R.hh R.hc
  have hmain:=Any.insertionSortCmpFunc_s laid El.enc El.cf 118 #[] blk 0 cap a n d d w0 w0 (enters_of Try.func118 (by kernel_rfl) rfl) (cmp_lays hblk d.size) ⟨El.one,hH,hblk⟩ rfl (SW.start hH) (by omega) (by rw[R.hd];exact Nat.le_refl _) (by rw[R.hd];omega)
  rw[R.hd] at hmain
  refine hmain.mono ?_
  rintro e w' ⟨rfl,S⟩
  unfold Go.Sort.insertionSort at S
  have hb2:n<=d.size:=by rw[R.hd];exact Nat.le_refl _
  obtain⟨hk,ho,ht,hu,_⟩:=sw_heap S hblk
  have fin:(Go.Sort.insOuter (ltOf El.cf) a n (a + 1) d).size=n/\(Go.Sort.insOuter (ltOf El.cf) a n (a + 1) d).toList.map El.l=if a=0 then srtL (n - 1) 1 xs else xs:=by
    rcases ha with rfl|rfl
    · obtain⟨h1,h2⟩:=srt_eq (n - 1) 1 n d (by omega) hb2
      exact⟨by rw[h2,R.hd],by rw[if_pos rfl,h1,hx]⟩
    · rw[Go.Sort.insOuter,if_neg (by omega)]
      refine⟨R.hd,?_⟩
      by_cases h0:a=0
      · subst h0
        have:xs=[]:=by
          rw[<- hx]
          have:d.toList=[]:=List.eq_nil_of_length_eq_zero (by simpa using R.hd)
          rw[this];rfl
        rw[if_pos rfl,this]
        have:d.toList=[]:=List.eq_nil_of_length_eq_zero (by simpa using R.hd)
        rw[this];rfl
      · rw[if_neg h0,hx]
  refine⟨rfl,?_,hk,ho,ht,hu⟩
  rw[<- fin.2]
  exact N_back R fin.1 S
end
section
variable {w0 w1 w2:World} {ok:Nat->Prop} {blk n cap base:Nat} {xs ys:List (List Int)}
theorem Sorted.refl (h:Kd.N (Kd.slice 3 (Kd.int .i64)) 22 w0 base ok (.slice (some ⟨blk,0,none⟩) n cap) xs):Sorted w0 base ok blk n cap xs w0:=⟨h,Kept.refl _ _,rfl,rfl,rfl⟩
theorem Sorted.trans (h:Sorted w0 base ok blk n cap xs w1) (k:Sorted w1 base ok blk n cap ys w2):Sorted w0 base ok blk n cap ys w2:=
  ⟨k.1,⟨Nat.le_trans h.2.1.1 k.2.1.1,fun i hi hn=>(k.2.1.2 i (Nat.lt_of_lt_of_le hi h.2.1.1) hn).trans (h.2.1.2 i hi hn)⟩,k.2.2.1.trans h.2.2.1,k.2.2.2.1.trans h.2.2.2.1,k.2.2.2.2.trans h.2.2.2.2⟩
theorem ins133b (h:Kd.N (Kd.slice 3 (Kd.int .i64)) 22 w0 base ok (.slice (some ⟨blk,0,none⟩) n cap) xs) (hn:n<=1000) (a:Nat) (ha:a=0 ∨ a=n) (x y:Int) (hx:x=(a:Int)) (hy:y=(n:Int)) :
    Calls Try.prog 133 #[.slice (some ⟨blk,0,none⟩) n cap, .int .i64 x, .int .i64 y, .func (.func 118) #[] #[]] w0 fun e w'=>e = .returned (.tuple #[])/\Sorted w0 base ok blk n cap (if a=0 then srtL (n - 1) 1 xs else xs) w':=by
  subst hx;subst hy;exact ins133 h hn a ha
set_option maxHeartbeats 4000000 in
set_option maxRecDepth 100000 in
theorem ins133_0 (A:Option Addr) (c:Nat) (w:World):Calls Try.prog 133 #[.slice A 0 c, .int .i64 0, .int .i64 0, .func (.func 118) #[] #[]] w fun e w'=>e = .returned (.tuple #[])/\Drawn0 w w':=by
  go_enter Try.func133,Try.ntmps133
  go_wp2
  repeat(go_quiet (fail);try go_wp2)
  go_loopg [8] 0 (fun kq v8 w'=>v8 = .int .i64 1/\Drawn0 w w')
  case atStart=>exact⟨rfl,by repeat(first|exact Drawn0.refl _|apply Drawn0.step)⟩
  case round=>
    obtain⟨rfl,⟨m1,rfl⟩⟩:=hrel
    go_wp2
    repeat(go_quiet (fail);try go_wp2)
    go_end0
    exact⟨rfl,by repeat(first|exact Drawn0.refl _|apply Drawn0.step)⟩
set_option maxHeartbeats 4000000 in
set_option maxRecDepth 100000 in
theorem stable129_lt (h:Kd.N (Kd.slice 3 (Kd.int .i64)) 22 w0 base ok (.slice (some ⟨blk,0,none⟩) n cap) xs) (hn:n < 20) :
    Calls Try.prog 129 #[.slice (some ⟨blk,0,none⟩) n cap, .int .i64 (n:Int), .func (.func 118) #[] #[]] w0 fun e w'=>e = .returned (.tuple #[])/\Sorted w0 base ok blk n cap (srtL (n - 1) 1 xs) w':=by
  have HS:=Jc.mk (Sorted.refl h)
  have hc1:decide ((20:Int)<=(n:Int))=false:=decide_eq_false (by omega)
  have hc2:decide ((20:Int) < (n:Int))=false:=decide_eq_false (by omega)
  go_enter Try.func129,Try.ntmps129
  go_wp2
  go_loopg [7,8] 0 (fun kq v7 v8 w'=>v7 = .int .i64 0/\v8 = .int .i64 20/\Jc (Sorted w0 base ok blk n cap xs w'))
  case atStart=>exact⟨rfl,rfl,⟨HS.out⟩⟩
  case round=>
    clear HS
    obtain⟨rfl,rfl,HS⟩:=hrel
    go_wp2_with (go_at_call 133;refine(ins133 (show Kd.N (Kd.slice 3 (Kd.int .i64)) 22 _ base ok (.slice (some ⟨blk,0,none⟩) n cap) _ by(repeat(first|with_reducible refine Kd.N_drewN ?_ _|with_reducible refine Kd.N_drew ?_));exact HS.out.1) (by omega) 0 (Or.inl rfl)).mono ?_;rintro e w9 ⟨rfl,hs⟩;have n0_:=Jc.mk (Sorted.trans (show Sorted w0 base ok blk n cap _ _ by(repeat(first|with_reducible refine Sorted.drewN ?_ _|with_reducible refine Sorted.drew ?_));exact HS.out) hs);clear HS hs;have HS:=n0_;clear n0_)
    go_loopg [6] 0 (fun kq v6 w'=>v6 = .int .i64 20/\Jc (Sorted w0 base ok blk n cap (srtL (n - 1) 1 xs) w'))
    case atStart=>exact⟨rfl,⟨by(repeat(first|with_reducible refine Sorted.drewN ?_ _|with_reducible refine Sorted.drew ?_));exact HS.out⟩⟩
    case round=>
      clear HS
      obtain⟨rfl,HS⟩:=hrel
      go_wp2
      go_end0
      exact⟨rfl,by(repeat(first|with_reducible refine Sorted.drewN ?_ _|with_reducible refine Sorted.drew ?_));exact HS.out⟩
set_option maxHeartbeats 4000000 in
set_option maxRecDepth 100000 in
theorem stable129_20 (h:Kd.N (Kd.slice 3 (Kd.int .i64)) 22 w0 base ok (.slice (some ⟨blk,0,none⟩) n cap) xs) (hn:n=20) :
    Calls Try.prog 129 #[.slice (some ⟨blk,0,none⟩) n cap, .int .i64 (n:Int), .func (.func 118) #[] #[]] w0 fun e w'=>e = .returned (.tuple #[])/\Sorted w0 base ok blk n cap (srtL (n - 1) 1 xs) w':=by
  have HS:=Jc.mk (Sorted.refl h)
  have hc1:decide ((20:Int)<=(n:Int))=true:=decide_eq_true (by omega)
  have hc2:decide ((20:Int) < (n:Int))=false:=decide_eq_false (by omega)
  have hc3:decide ((40:Int)<=(n:Int))=false:=decide_eq_false (by omega)
  have w40:wrap64 ((20:Int) + 20)=40:=by unfold wrap64;omega
  have HN:=Jc.mk hn
  clear hn
  go_enter Try.func129,Try.ntmps129
  go_wp2
  go_loopg [7,8] 1 (fun kq v7 v8 w'=>(kq=1/\v7 = .int .i64 0/\v8 = .int .i64 20/\Jc (Sorted w0 base ok blk n cap xs w')) ∨ (v7 = .int .i64 (n:Int)/\v8 = .int .i64 40/\Jc (Sorted w0 base ok blk n cap (srtL (n - 1) 1 xs) w')))
  case atStart=>exact .inl ⟨rfl,rfl,rfl,⟨HS.out⟩⟩
  case round=>
    clear HS
    rcases hrel with⟨rfl,rfl,rfl,HS⟩ | ⟨rfl,rfl,HS⟩
    · go_wp2_with (go_at_call 133;refine(ins133b (show Kd.N (Kd.slice 3 (Kd.int .i64)) 22 _ base ok (.slice (some ⟨blk,0,none⟩) n cap) _ by(repeat(first|with_reducible refine Kd.N_drewN ?_ _|with_reducible refine Kd.N_drew ?_));exact HS.out.1) (by have:=HN.out;omega) 0 (Or.inl rfl) _ _ ?hx ?hy).mono ?_;(case hx=>rfl);(case hy=>have:=HN.out;omega);rintro e w9 ⟨rfl,hs⟩;rw[if_pos rfl] at hs;have n0_:=Jc.mk (Sorted.trans (show Sorted w0 base ok blk n cap _ _ by(repeat(first|with_reducible refine Sorted.drewN ?_ _|with_reducible refine Sorted.drew ?_));exact HS.out) hs);clear HS hs;have HS:=n0_;clear n0_)
      go_roundg 0
      case measure=>omega
      case rel=>exact .inr ⟨by first|rfl|(rw[HN.out];rfl),by first|rfl|(rw[w40])|(simp only[i64_w];rw[w40]),⟨by(repeat(first|with_reducible refine Sorted.drewN ?_ _|with_reducible refine Sorted.drew ?_));exact HS.out⟩⟩
    · go_wp2_with (go_at_call 133;refine(ins133b (show Kd.N (Kd.slice 3 (Kd.int .i64)) 22 _ base ok (.slice (some ⟨blk,0,none⟩) n cap) _ by(repeat(first|with_reducible refine Kd.N_drewN ?_ _|with_reducible refine Kd.N_drew ?_));exact HS.out.1) (by have:=HN.out;omega) n (Or.inr rfl) _ _ ?hx ?hy).mono ?_;(case hx=>first|rfl|(have:=HN.out;omega));(case hy=>first|rfl|(have:=HN.out;omega));rintro e w9 ⟨rfl,hs⟩;rw[if_neg (by have:=HN.out;omega)] at hs;have n0_:=Jc.mk (Sorted.trans (show Sorted w0 base ok blk n cap _ _ by(repeat(first|with_reducible refine Sorted.drewN ?_ _|with_reducible refine Sorted.drew ?_));exact HS.out) hs);clear HS hs;have HS:=n0_;clear n0_)
      go_loopg [6] 0 (fun kq v6 w'=>v6 = .int .i64 20/\Jc (Sorted w0 base ok blk n cap (srtL (n - 1) 1 xs) w'))
      case atStart=>exact⟨rfl,⟨by(repeat(first|with_reducible refine Sorted.drewN ?_ _|with_reducible refine Sorted.drew ?_));exact HS.out⟩⟩
      case round=>
        clear HS
        obtain⟨rfl,HS⟩:=hrel
        go_wp2
        go_end0
        exact⟨rfl,by(repeat(first|with_reducible refine Sorted.drewN ?_ _|with_reducible refine Sorted.drew ?_));exact HS.out⟩
set_option maxHeartbeats 4000000 in
set_option maxRecDepth 100000 in
theorem stable129_0 (A:Option Addr) (c:Nat) (w:World):Calls Try.prog 129 #[.slice A 0 c, .int .i64 0, .func (.func 118) #[] #[]] w fun e w'=>e = .returned (.tuple #[])/\Drawn0 w w':=by
  go_enter Try.func129,Try.ntmps129
  go_wp2
  go_loopg [7,8] 0 (fun kq v7 v8 w'=>v7 = .int .i64 0/\v8 = .int .i64 20/\Drawn0 w w')
  case atStart=>exact⟨rfl,rfl,by repeat(first|exact Drawn0.refl _|apply Drawn0.step)⟩
  case round=>
    obtain⟨rfl,rfl,⟨m1,rfl⟩⟩:=hrel
    go_wp2_with (go_at_call 133;refine(ins133_0 A c _).mono ?_;rintro e w9 ⟨rfl,⟨nd,rfl⟩⟩)
    go_loopg [6] 0 (fun kq v6 w'=>v6 = .int .i64 20/\Drawn0 w w')
    case atStart=>exact⟨rfl,by repeat(first|exact Drawn0.refl _|exact⟨_,rfl⟩|exact⟨_,World.drewN_drewN _ _ _⟩|apply Drawn0.step)⟩
    case round=>
      obtain⟨rfl,⟨m2,rfl⟩⟩:=hrel
      go_wp2
      go_end0
      exact⟨rfl,by repeat(first|exact Drawn0.refl _|exact⟨_,rfl⟩|apply Drawn0.step)⟩
set_option maxHeartbeats 4000000 in
set_option maxRecDepth 100000 in
theorem sort117 (h:Kd.N (Kd.slice 3 (Kd.int .i64)) 22 w0 base ok (.slice (some ⟨blk,0,none⟩) n cap) xs) (hn:n<=20) :
    Calls Try.prog 117 #[.slice (some ⟨blk,0,none⟩) n cap, .func (.func 118) #[] #[]] w0 fun e w'=>e = .returned (.tuple #[])/\Sorted w0 base ok blk n cap (srtL (n - 1) 1 xs) w':=by
  have hS:Calls Try.prog 129 #[.slice (some ⟨blk,0,none⟩) n cap, .int .i64 (n:Int), .func (.func 118) #[] #[]] w0 fun e w'=>e = .returned (.tuple #[])/\Sorted w0 base ok blk n cap (srtL (n - 1) 1 xs) w':=by
    by_cases h20:n < 20
    · exact stable129_lt h h20
    · exact stable129_20 h (by omega)
  have HS:=Jc.mk hS
  clear hS
  go_enter Try.func117,Try.ntmps117
  go_wp2_with (go_at_call 129;refine HS.out.mono ?_;rintro e w9 ⟨rfl,hs⟩)
  go_end0
  exact⟨rfl,hs⟩
set_option maxHeartbeats 4000000 in
set_option maxRecDepth 100000 in
theorem sort117_0 (A:Option Addr) (c:Nat) (w:World):Calls Try.prog 117 #[.slice A 0 c, .func (.func 118) #[] #[]] w fun e w'=>e = .returned (.tuple #[])/\Drawn0 w w':=by
  go_enter Try.func117,Try.ntmps117
  go_wp2_with (go_at_call 129;refine(stable129_0 A c _).mono ?_;rintro e w9 ⟨rfl,⟨nd,rfl⟩⟩)
  go_end0
  exact⟨rfl,by repeat(first|exact Drawn0.refl _|exact⟨_,rfl⟩|apply Drawn0.step)⟩
end
def stepI (F:List Int->List (List Int)) (p row:List Int) (j:Nat):List (List Int):=
  if rd row (j:Int)=0 ∨ (j:Int) < rd p 0 then[] else if (j:Int)=rd p 0 then[p] else if (j:Int) ∈ p then[] else F (p ++ [(j:Int)])
def rowI (F:List Int->List (List Int)) (p row:List Int):Nat->Nat->List (List Int)
  | 0,_=>[]
  | e + 1,j=>stepI F p row j ++ rowI F p row e (j + 1)
def lastI (p:List Int):Int:=rd p ((p.length - 1:Nat):Int)
def walkI (d:List (List Int)):Nat->List Int->List (List Int)
  | 0,_=>[]
  | m + 1,p=>rowI (walkI d m) p (d.getD (lastI p).toNat []) (d.getD (lastI p).toNat []).length 0
structure St (w0:World) (gB gO gW:Nat) (AC:Option Addr) (nC cC:Nat) (AD:Option Addr) (nD cD:Nat) (vo:Value) (xs:List (List Int)) (w:World):Prop where
  hB:Below w0.heap.size w0 w
  bB:w.heap[gB]? = some (.cells #[.slice AC nC cC, .slice AD nD cD] 25 (0,0))
  bO:w.heap[gO]? = some (.cells #[vo] 23 (0,0))
  bW:w.heap[gW]? = some (.cells #[.func (.func 115) #[] #[.pointer (some ⟨gB,0,none⟩), .pointer (some ⟨gO,0,none⟩), .pointer (some ⟨gW,0,none⟩)]] 115 (0,0))
  hN:Kd.N (Kd.slice 3 (Kd.int .i64)) 22 w w0.heap.size (fun k=>w0.heap.size<=k/\k≠gO) vo xs
def Kp (gO:Nat) (w:World) (vo:Value) (w':World) (vo':Value):Prop:=
  w.heap.size<=w'.heap.size/\(∀k,k < w.heap.size->k≠gO->some k≠vo.ownBlock->w'.heap[k]? = w.heap[k]?)/\(vo'.ownBlock=vo.ownBlock ∨ ∃b,vo'.ownBlock=some b/\w.heap.size<=b)
section
variable {w0 w w1 w2:World} {gB gO gW:Nat} {AC AD:Option Addr} {nC cC nD cD:Nat} {vo v1 v2:Value} {xs:List (List Int)}
theorem Kp.refl:Kp gO w vo w vo:=⟨Nat.le_refl _,fun _ _ _ _=>rfl, .inl rfl⟩
theorem Kp.trans (h:Kp gO w vo w1 v1) (k:Kp gO w1 v1 w2 v2):Kp gO w vo w2 v2:=by
  refine⟨Nat.le_trans h.1 k.1,fun i hi hg ho=>?_,?_⟩
  · refine(k.2.1 i (Nat.lt_of_lt_of_le hi h.1) hg (fun e=>?_)).trans (h.2.1 i hi hg ho)
    rcases h.2.2 with e1 | ⟨b,e1,hb⟩
    · exact ho (e.trans e1)
    · rw[e1] at e;injection e with e;omega
  · rcases k.2.2 with e1 | ⟨b,e1,hb⟩
    · rw[e1];exact h.2.2
    · exact .inr ⟨b,e1,Nat.le_trans h.1 hb⟩
theorem Kp.below (h:Below w.heap.size w w1):Kp gO w vo w1 vo:=⟨h.size,fun k hk _ _=>h.block k hk, .inl rfl⟩
theorem St.below (h:St w0 gB gO gW AC nC cC AD nD cD vo xs w) (hb:Below w.heap.size w w1):St w0 gB gO gW AC nC cC AD nD cD vo xs w1:=
  ⟨Jw h.hB hb,Jp h.bB hb,Jp h.bO hb,Jp h.bW hb,Kd.N_below h.hN hb⟩
theorem St.drewN (h:St w0 gB gO gW AC nC cC AD nD cD vo xs w) (n:Nat):St w0 gB gO gW AC nC cC AD nD cD vo xs (w.drewN n):=h.below (Jj (Below.refl _ _) n)
theorem St.drew (h:St w0 gB gO gW AC nC cC AD nD cD vo xs w):St w0 gB gO gW AC nC cC AD nD cD vo xs w.drew:=h.below (below_drew (Below.refl _ _))
def Pa (gO:Nat) (w:World) (vo:Value) (A:Option Addr) (p:List Int):Prop:=Kd.F (Kd.int .i64) w (fun k=>k≠gO/\some k≠vo.ownBlock) A p.length p
theorem Pa.kp {A:Option Addr} {p:List Int} (h:Pa gO w vo A p) (k:Kp gO w vo w1 v1):Pa gO w1 v1 A p:=by
  refine Kd.F_mono (Kd.F_step (Kd.F_bound h) (fun i hi hlt=>k.2.1 i hlt hi.1.1 hi.1.2)) (fun i hi=>⟨hi.1.1,fun e=>?_⟩)
  rcases k.2.2 with e1 | ⟨b,e1,hb⟩
  · exact hi.1.2 (e.trans e1)
  · rw[e1] at e;injection e with e;have:=hi.2;omega
end
theorem rows_at {w:World} {A:Option Addr} {n:Nat} {xs:List (List Int)} (h:Kd.C (Kd.slice 3 (Kd.int .i64)) w A n xs) (j:Nat) (hj:j < n) :
    ∃ad A0 c0,A=some ad/\w.cell? (ad.add j)=some (.slice A0 (xs.getD j []).length c0)/\(xs.getD j []).length<=c0/\(Kd.int .i64).C w A0 (xs.getD j []).length (xs.getD j []):=by
  obtain⟨ad,c,rfl,hcl,⟨A0,c0,rfl,hl,hC⟩,hcc⟩:=Kd.C_get h [] (j:Int) (by omega) (by omega)
  refine⟨ad,A0,c0,rfl,?_,hl,hC⟩
  have:=hcc 0 _ rfl
  have hs:(Kd.slice 3 (Kd.int .i64)).sz=1:=rfl
  rw[hs] at this
  simpa using this
theorem pigeon:∀(n:Nat) (p:List Int),p.Nodup->(∀x ∈ p,0<=x/\x < (n:Int))->p.length<=n
  | 0,p,_,h=>by
    cases p with
    | nil=>simp
    | cons a r=>have:=h a List.mem_cons_self;omega
  | n + 1,p,hd,h=>by
    by_cases hm:(n:Int) ∈ p
    · have h1:=pigeon n (p.erase (n:Int)) (hd.erase _) (fun x hx=>by
        have h2:=h x (List.mem_of_mem_erase hx)
        have h3:x≠(n:Int):=(List.Nodup.mem_erase_iff hd).1 hx |>.1
        omega)
      have h2:=List.length_erase_of_mem hm
      omega
    · have h1:=pigeon n p hd (fun x hx=>by
        have h2:=h x hx
        have h3:x≠(n:Int):=fun e=>hm (e ▸ hx)
        omega)
      omega
theorem rd_mem' {p:List Int} {i:Nat} (h:i < p.length):rd p (i:Int) ∈ p:=by
  have:rd p (i:Int)=p[i]:=by simp[rd,List.getD_eq_getElem?_getD,List.getElem?_eq_getElem h]
  rw[this];exact List.getElem_mem h
theorem Kp.drewN {gO:Nat} {w w1:World} {vo v1:Value} (h:Kp gO w vo w1 v1) (n:Nat):Kp gO w vo (w1.drewN n) v1:=h.trans (Kp.below (Jj (Below.refl _ _) n))
theorem Kp.drew {gO:Nat} {w w1:World} {vo v1:Value} (h:Kp gO w vo w1 v1):Kp gO w vo w1.drew v1:=h.trans (Kp.below (below_drew (Below.refl _ _)))
theorem contains_ev (p:List Int) (x:Int) (hp:p.length<=4611686018427387904):∃k,Gr.f k p x=some (decide (x ∈ p)):=by
  have key:∀(e i k:Nat),p.length - i=e->i<=p.length->e < k->(∀i':Nat,i' < i->rd p (i':Int)≠x)->∃q,F0.l0 k p x (p.length:Int) (i:Int)=some q/\(decide (q ≥ 0)=decide (x ∈ p)):=by
    intro e
    induction e with
    | zero=>
      intro i k he hi hk hno
      obtain⟨k,rfl⟩:∃m,k=m + 1:=⟨k - 1,by omega⟩
      refine⟨-1,by simp only[F0.l0];rw[if_neg (by omega)],?_⟩
      have:x ∉ p:=fun hm=>by
        obtain⟨q,hq,e⟩:=List.mem_iff_getElem.mp hm
        exact hno q (by omega) (by simp[rd,List.getD_eq_getElem?_getD,List.getElem?_eq_getElem hq,e])
      rw[decide_eq_false this];rfl
    | succ e ih=>
      intro i k he hi hk hno
      obtain⟨k,rfl⟩:∃m,k=m + 1:=⟨k - 1,by omega⟩
      have hw:wrap64 ((i:Int) + 1)=((i + 1:Nat):Int):=by unfold wrap64;omega
      by_cases h:x=rd p (i:Int)
      · refine⟨(i:Int),by simp only[F0.l0];rw[if_pos (by omega),if_pos (by omega),if_pos (by omega),if_pos h],?_⟩
        rw[decide_eq_true (show x ∈ p from h ▸ rd_mem' (by omega))]
        exact decide_eq_true (by omega)
      · obtain⟨q,h1,h2⟩:=ih (i + 1) k (by omega) (by omega) (by omega) (fun i' hi'=>by
          by_cases e':i'=i
          · subst e';exact fun z=>h z.symm
          · exact hno i' (by omega))
        exact⟨q,by simp only[F0.l0];rw[if_pos (by omega),if_pos (by omega),if_pos (by omega),if_neg h,hw];exact h1,h2⟩
  obtain⟨q,h1,h2⟩:=key p.length 0 (p.length + 1) (by omega) (by omega) (by omega) (fun i' hi'=>by omega)
  refine⟨p.length + 1,?_⟩
  unfold Gr.f F0.f
  rw[show((0:Nat):Int)=0 from rfl] at h1
  rw[h1,Option.bind_some,h2]
theorem after_put {w0 wz W w4:World} {gB gO gW:Nat} {AC AD:Option Addr} {nC cC nD cD:Nat} {v v4:Value} {ys zs:List (List Int)} (nBO:gB≠gO) (nWO:gW≠gO) (gO0:w0.heap.size<=gO) (SZ:St w0 gB gO gW AC nC cC AD nD cD v ys wz) (BZ:Below wz.heap.size wz W) (hb:Below w0.heap.size w0 w4) (hg:W.grownBy w4 v.ownBlock) (hat:v4.ownBlock=v.ownBlock ∨ ∃b,v4.ownBlock=some b/\W.heap.size<=b) (hN:Kd.N (Kd.slice 3 (Kd.int .i64)) 22 w4 w0.heap.size (fun k=>w0.heap.size<=k/\k≠gO) v4 zs) :
    w4.heap[gO]? = some (.cells #[v] 23 (0,0))/\St w0 gB gO gW AC nC cC AD nD cD v4 zs (w4.setCell ⟨gO,0,none⟩ v4)/\Kp gO wz v (w4.setCell ⟨gO,0,none⟩ v4) v4:=by
  have hNW:=Kd.N_below SZ.hN BZ
  have bO:=Jt (Jp SZ.bO BZ) hg (Kd.N_ne hNW (Jp SZ.bO BZ) (by decide))
  have bB:=Jt (Jp SZ.bB BZ) hg (Kd.N_ne hNW (Jp SZ.bB BZ) (by decide))
  have bW:=Jt (Jp SZ.bW BZ) hg (Kd.N_ne hNW (Jp SZ.bW BZ) (by decide))
  refine⟨bO,⟨Jh hb gO0,Ju bB nBO _,Jv bO 0 _ rfl,Ju bW nWO _,Kd.N_far hN (fun _ hk=>hk.2) v4⟩,?_,fun k hk hgo hown=>?_,?_⟩
  · rw[World.size_setCell];exact Nat.le_trans BZ.size hg.size
  · refine(Below.heap_setCell w4 ⟨gO,0,none⟩ v4 k hgo).trans ((hg.block k (Nat.lt_of_lt_of_le hk BZ.size) hown).trans (BZ.block k hk))
  · rcases hat with h | ⟨b,h1,h2⟩
    · exact .inl h
    · exact .inr ⟨b,h1,Nat.le_trans BZ.size h2⟩
def T6:Bool × List (List Nat × List Nat):=(true,[([],[]),([],[]),([],[]),([1,2],[1,2]),([3],[3]),([0,4,3],[0,4]),([5,5,0,1,2,3,4,5],[5])])
def B6:List Nat:=[0,0,0,6,14,31,63]
theorem tab6:rtab .any (opsOf Try.f115 6)=T6:=by kernel_rfl
theorem bits6:waitsOk T6.2 B6=true:=by kernel_rfl
def T8:Bool × List (List Nat × List Nat):=(true,[([],[]),([],[]),([],[]),([1,2],[1,2]),([],[]),([4],[4]),([3,5,3],[3,5]),([0,6,6],[0,6])])
def B8:List Nat:=[0,0,0,6,0,16,62,127]
theorem tab8:rtab .any (opsOf Try.f115 8)=T8:=by kernel_rfl
theorem bits8:waitsOk T8.2 B8=true:=by kernel_rfl
theorem step_len (F:List Int->List (List Int)) (B:Nat) (hB:1<=B) (hF:∀q,(F q).length<=B) (p row:List Int) (j:Nat):(stepI F p row j).length<=B:=by
  unfold stepI
  split
  · exact Nat.zero_le _
  · split
    · exact hB
    · split
      · exact Nat.zero_le _
      · exact hF _
theorem row_len (F:List Int->List (List Int)) (B:Nat) (hB:1<=B) (hF:∀q,(F q).length<=B) (p row:List Int):∀(e j:Nat),(rowI F p row e j).length<=e * B
  | 0,_=>Nat.zero_le _
  | e + 1,j=>by
    rw[rowI,List.length_append,Nat.succ_mul]
    have h1:=step_len F B hB hF p row j
    have h2:=row_len F B hB hF p row e (j + 1)
    omega
theorem walk_len {d:List (List Int)} (sq:∀i,i < d.length->(d.getD i []).length=d.length) (h4:d.length<=4):∀(m:Nat) (p:List Int),(walkI d m p).length<=5 ^ m
  | 0,_=>Nat.zero_le _
  | m + 1,p=>by
    rw[walkI]
    have h1:=row_len (walkI d m) (5 ^ m) (Nat.one_le_pow _ _ (by omega)) (walk_len sq h4 m) p (d.getD (lastI p).toNat []) (d.getD (lastI p).toNat []).length 0
    have h2:(d.getD (lastI p).toNat []).length<=4:=by
      by_cases h:(lastI p).toNat < d.length
      · rw[sq _ h];exact h4
      · rw[List.getD_eq_getElem?_getD,List.getElem?_eq_none (by omega)];simp
    have h3:(d.getD (lastI p).toNat []).length * 5 ^ m<=4 * 5 ^ m:=Nat.mul_le_mul_right _ h2
    rw[Nat.pow_succ]
    omega
set_option maxHeartbeats 8000000 in
set_option maxRecDepth 100000 in
theorem walk {w0:World} {gB gO gW:Nat} {AC AD:Option Addr} {nC cC cD:Nat} {d:List (List Int)} (hD:Kd.C (Kd.slice 3 (Kd.int .i64)) w0 AD d.length d) (sq:∀i,i < d.length->(d.getD i []).length=d.length) (h4:d.length<=4)
    (nBO:gB≠gO) (nOB:gO≠gB) (nWO:gW≠gO) (nOW:gO≠gW) (nBW:gB≠gW) (nWB:gW≠gB) (gO0:w0.heap.size<=gO):∀(m:Nat) (p:List Int),0 < p.length->(∀x ∈ p,0<=x/\x < (d.length:Int))->p.Nodup->d.length < m + p.length ->
    ∀(A:Option Addr) (cP:Nat) (w:World) (vo:Value) (xs:List (List Int)),p.length<=cP->xs.length + 5 ^ m<=1000000->St w0 gB gO gW AC nC cC AD d.length cD vo xs w->Pa gO w vo A p ->
    Calls Try.prog 115 #[.slice A p.length cP, .pointer (some ⟨gB,0,none⟩), .pointer (some ⟨gO,0,none⟩), .pointer (some ⟨gW,0,none⟩)] w fun e w'=>e = .returned (.tuple #[])/\∃v',St w0 gB gO gW AC nC cC AD d.length cD v' (xs ++ walkI d m p) w'/\Kp gO w vo w' v'
  | 0,p,hp,hr,hnd,hm,_,_,_,_,_,_,_,_,_=>by have:=pigeon d.length p hnd hr;omega
  | m + 1,p,hp,hr,hnd,hm,A,cP,w,vo,xs,hcP,hbd,hS,hP=>by
    have HS:=Jc.mk hS
    have HP:=Jc.mk hP
    have hpl:=pigeon d.length p hnd hr
    have hla:=hr _ (rd_mem' (show p.length - 1 < p.length by omega))
    have hhd:=hr _ (rd_mem' (show 0 < p.length from hp))
    obtain⟨L,hL⟩:=Int.eq_ofNat_of_zero_le hla.1
    have hLd:L < d.length:=by omega
    have hlL:(lastI p).toNat=L:=by unfold lastI;rw[hL];rfl
    obtain⟨adD,B0,b0,eD,hx,hb0,hrow⟩:=rows_at hD L hLd
    subst eD
    have hsq:=sq L hLd
    have h5p:1<=5 ^ m:=Nat.one_le_pow _ _ (by omega)
    have HR:=Jc.mk (show walkI d (m + 1) p=rowI (walkI d m) p (d.getD L []) (d.getD L []).length 0 by rw[walkI,hlL])
    have HROW:=Jc.mk hrow
    generalize d.getD L []=row at hx hb0 HROW hsq HR
    clear hrow
    obtain⟨adP,eA,hx0⟩:=Kd.at_int (Foot.now hP) 0 (by omega) (by omega)
    subst eA
    obtain⟨adP',eA',hx1⟩:=Kd.at_int (Foot.now hP) ((p.length - 1:Nat):Int) (by omega) (by omega)
    cases eA'
    have hxw:=(HS.out.hB.cell (World.block_lt_of_cell? w0 _ hx)).trans hx
    have hw1:wrap64 ((p.length:Int) - 1)=((p.length - 1:Nat):Int):=by unfold wrap64;omega
    have q0:(0<=((p.length - 1:Nat):Int))=True:=eq_true (by omega)
    have q1:(((p.length - 1:Nat):Int) < (p.length:Int))=True:=eq_true (by omega)
    rw[hL] at hx1
    have q2:(0<=(L:Int))=True:=eq_true (by omega)
    have q3:((L:Int) < (d.length:Int))=True:=eq_true (by omega)
    have hz0:w.cell? ⟨gB,1,none⟩=some (.slice (some adD) d.length cD):=(Jd HS.out.bB 1).trans rfl
    have hxw':w.cell? (adD.add L)=some (.slice B0 row.length b0):=hxw
    rw[Int.toNat_natCast] at hx1
    have HX0:=Jc.mk hx0
    have HSQ:=Jc.mk hsq
    clear hS hP hx hxw hx0 hsq
    go_enter Try.func115,Try.ntmps115
    go_wp2
    go_loopg [20] (row.length) (fun kq v20 w'=>∃(j:Nat) (v:Value) (ys:List (List Int)),kq + j=row.length/\v20 = .int .i64 j/\Jc (St w0 gB gO gW AC nC cC (some adD) d.length cD v ys w')/\Jc (Kp gO w vo w' v)/\Jc (ys ++ rowI (walkI d m) p row kq j=xs ++ walkI d (m + 1) p)/\Jc (ys.length + kq * 5 ^ m<=1000000))
    case atStart=>exact⟨0,vo,xs,by omega,rfl,⟨by(repeat(first|with_reducible refine St.drewN ?_ _|with_reducible refine St.drew ?_));exact HS.out⟩,⟨Kp.below (by repeat(first|(with_reducible first|exact Below.refl _ _|apply Jk|apply Jj|apply Ji)|exact Below.refl _ _))⟩,⟨by rw[HR.out]⟩,⟨by have z:=HSQ.out;have y:row.length * 5 ^ m<=4 * 5 ^ m:=Nat.mul_le_mul_right _ (by omega);rw[Nat.pow_succ] at hbd;omega⟩⟩
    case round=>
      clear HS
      obtain⟨j,v,ys,hj,rfl,SS,KK,HE,HBd⟩:=hrel
      have HPw:=Jc.mk (HP.out.kp KK.out)
      by_cases hlt:j < row.length
      · obtain⟨k1,rfl⟩:∃k1,gk=k1 + 1:=⟨gk - 1,by omega⟩
        have HC:=Jc.mk (Foot.now HPw.out)
        have HWJ:Jc (wrap64 ((j:Int) + 1)=((j + 1:Nat):Int)):=⟨by have:=HSQ.out;unfold wrap64;omega⟩
        obtain⟨adR,eR,hrw⟩:=Kd.at_int HROW.out (j:Int) (by omega) (by omega)
        subst eR
        obtain⟨adP2,eP,hp0⟩:=Kd.at_int HC.out 0 (by omega) (by omega)
        cases eP
        have hrw2:=(SS.out.hB.cell (World.block_lt_of_cell? w0 _ hrw)).trans hrw
        rw[Int.toNat_natCast] at hrw2
        have hp1:wr.cell? adP=some (.int .i64 (rd p 0)):=by simpa [Addr.add] using hp0
        clear hp0
        have p5:(0<=(j:Int))=True:=eq_true (by omega)
        have q5:((j:Int) < (row.length:Int))=True:=eq_true (by omega)
        have q6:((0:Int) < (p.length:Int))=True:=eq_true (by omega)
        have c3b0:decide ((j:Int) < (row.length:Int))=true:=decide_eq_true (by omega)
        clear hrw
        have HG:=Jc.mk (show stepI (walkI d m) p row j=if rd row (j:Int)=0 ∨ (j:Int) < rd p 0 then[] else if (j:Int)=rd p 0 then[p] else if (j:Int) ∈ p then[] else walkI d m (p ++ [(j:Int)]) from rfl)
        generalize rd row (j:Int)=t at hrw2 HG
        obtain⟨hv,hhv⟩:∃hv,rd p 0=hv:=⟨_,rfl⟩
        rw[hhv] at hp1 HG
        have HHV:=Jc.mk hhv
        clear hhv
        by_cases ht0:t=0
        · have c1:(t == 0)=true:=beq_iff_eq.mpr ht0
          have HNIL:Jc (stepI (walkI d m) p row j=[]):=⟨by rw[HG.out,if_pos (.inl ht0)]⟩
          clear HG ht0
          go_wp2
          go_roundg k1
          case measure=>omega
          case rel=>exact⟨j + 1,v,ys,by omega,(by first|rw[HWJ.out]|go_num),⟨by(repeat(first|with_reducible refine St.drewN ?_ _|with_reducible refine St.drew ?_));exact SS.out⟩,⟨by(repeat(first|with_reducible refine Kp.drewN ?_ _|with_reducible refine Kp.drew ?_));exact KK.out⟩,⟨by have:=HE.out;rw[rowI,HNIL.out,List.nil_append] at this;exact this⟩,⟨by have:=HBd.out;rw[Nat.succ_mul] at this;omega⟩⟩
        have c1:(t == 0)=false:=beq_eq_false_iff_ne.mpr ht0
        by_cases hlo:(j:Int) < hv
        · have c2:decide ((j:Int) < hv)=true:=decide_eq_true hlo
          have HNIL:Jc (stepI (walkI d m) p row j=[]):=⟨by rw[HG.out,if_pos (.inr hlo)]⟩
          clear HG ht0 hlo
          go_wp2
          go_roundg k1
          case measure=>omega
          case rel=>exact⟨j + 1,v,ys,by omega,(by first|rw[HWJ.out]|go_num),⟨by(repeat(first|with_reducible refine St.drewN ?_ _|with_reducible refine St.drew ?_));exact SS.out⟩,⟨by(repeat(first|with_reducible refine Kp.drewN ?_ _|with_reducible refine Kp.drew ?_));exact KK.out⟩,⟨by have:=HE.out;rw[rowI,HNIL.out,List.nil_append] at this;exact this⟩,⟨by have:=HBd.out;rw[Nat.succ_mul] at this;omega⟩⟩
        have c2:decide ((j:Int) < hv)=false:=decide_eq_false hlo
        by_cases heq:(j:Int)=hv
        · have c4:((j:Int) == hv)=true:=beq_iff_eq.mpr heq
          have HONE:Jc (stepI (walkI d m) p row j=[p]):=⟨by rw[HG.out,if_neg (fun z=>z.elim ht0 hlo),if_pos heq]⟩
          clear HG ht0 hlo heq
          go_upto_region 6 with fail
          try go_wp2
          have SZ:=Jc.mk (St.drew SS.out)
          have KZ:=Jc.mk (Kp.drew KK.out)
          have PZ:=Jc.mk (Pa.kp HPw.out (Kp.drew Kp.refl))
          have BZ:=Jc.mk (Below.refl wr.drew.heap.size wr.drew)
          refine start_ (n:=7) (S:=fun w'=>w'.cell? ⟨gO,0,none⟩=some v) (ds:=[6]) #[false,false,false,false,false,false,false] (by kernel_rfl) rfl rfl ((Jd SZ.out.bO 0).trans rfl) (fun hHeld=>?_);refine Jx tab6 bits6 (fun HT_ HW_=>?_)
          clear SS KK HPw HC hrw2 hp1
          generalize wr.drew=wz at SZ KZ PZ BZ hHeld |-
          refine pure_ (i:=2) (N:=some 43) (v:=?_) (a':=?_) #[false,false,true,false,false,false,false] rfl rfl (any_of HT_.out (by kernel_rfl)) (fun _ _ _ h=>h) (Or.inl ⟨by rfl,?_⟩) ?_ ?_
          rotate_left
          · intro w'
            go_simp
            with_reducible rfl
          rotate_left
          · simp only[Act.put,List.setIfInBounds_toArray,List.set_cons_zero,List.set_cons_succ,i64_w,i32_w]
            rfl
          refine take_ (i:=0) (N:=some 41) (v:=?_) (a':=?_) #[true,false,true,false,false,false,false] rfl rfl (take_ofW HT_.out HW_.out (by kernel_rfl)) (fun _ _ _ h=>h) (Or.inl ⟨by rfl,?_⟩) hHeld ?_ ?_
          rotate_left
          · rintro w' s0
            go_simp
            with_reducible rfl
          rotate_left
          · simp only[Act.put,List.setIfInBounds_toArray,List.set_cons_zero,List.set_cons_succ,i64_w,i32_w]
            rfl
          refine one_ (i:=1) (N:=some 42) #[true,true,true,false,false,false,false] rfl rfl (Jz HT_.out (by kernel_rfl)) (by decide) (fun K hK=>?_)
          refine Kd.R_lit_step (Kd.int .i64) _ 3 ?hg (N:=42) ?hd (xs:=([]:List Int)) (inner:=[]) (ok:=fun _=>True) (okp:=fun _=>True) ?hr ?hp (fun _ hk=>hk) trivial (Below.refl _ _) (Nat.le_refl _) (by simp) ?_
          (case hd=>rfl)
          (case hg=>rfl)
          (case hr=>first|(go_simp;done)|(go_simp;rfl))
          (case hp=>exact(Reps.none _ _))
          intro v42 wa ho hb hg_ hnew_
          clear hg_ hnew_
          have HO1:=Jc.mk (Kd.R_lower ho BZ.out.size)
          have n0_:=Jc.mk (Jw BZ.out hb)
          clear BZ hb ho
          have BZ:=n0_
          clear n0_
          refine hK.out _ _ ((Jd (Jp SZ.out.bO BZ.out) 0).trans rfl) (fun hHeld=>?_)
          clear hK K
          refine norm_ (a':=?_) ?_ ?_
          rotate_left
          · show Act.put _ (some 42) _=_
            simp only[Act.put,List.setIfInBounds_toArray,List.set_cons_zero,List.set_cons_succ,i64_w,i32_w]
            rfl
          refine one_ (i:=3) (N:=some 44) #[true,true,true,true,false,false,false] rfl rfl (Jz HT_.out (by kernel_rfl)) (by decide) (fun K hK=>?_)
          refine Kd.R_append_rows_step (Kd.int .i64) (w0:=wz) wz.heap.size (by rfl) (.tmp 42) (.tmp 43) 22 3 (.int .i64 0) 8 rfl Try.underlying22 info3 rfl (by decide) (by omega) v42 [] p _ _ _ (fun _=>True) (fun _=>False) rfl rfl ?aO ?aR (fun _ _ h=>h) (fun _ h=>h.elim) ?aF ?aB ?aS ?aL ?_
          (case aR=>exact(Foot.now (Kd.F_below PZ.out BZ.out)))
          (case aB=>exact BZ.out)
          (case aF=>exact fun _ _=>trivial)
          (case aO=>exact HO1.out)
          (case aS=>exact BZ.out.size)
          (case aL=>simp;omega)
          intro v44 wb ho hb hg hat
          rw[List.nil_append] at ho
          have HO2:=Jc.mk ho
          clear BZ HO1
          have BZ:=Jc.mk hb
          clear ho hb hg hat
          obtain⟨Ao,co,eo⟩:=Kd.R_slice HO2.out
          subst eo
          refine hK.out _ _ ((Jd (Jp SZ.out.bO BZ.out) 0).trans rfl) (fun hHeld=>?_)
          clear hK K
          refine norm_ (a':=?_) ?_ ?_
          rotate_left
          · show Act.put _ (some 44) _=_
            simp only[Act.put,List.setIfInBounds_toArray,List.set_cons_zero,List.set_cons_succ,i64_w,i32_w]
            rfl
          refine one_ (i:=4) (N:=some 45) #[true,true,true,true,true,false,false] rfl rfl (Jz HT_.out (by kernel_rfl)) (by decide) (fun K hK=>?_)
          have HF:Jc (Kd.F (Kd.int .i64) wb (fun k=>wz.heap.size<=k) Ao p.length p):=⟨Kd.R_F (Kd.R_mono (Kd.R_bound HO2.out) (fun _ hk=>hk.2.1))⟩
          refine Kd.N_lit_step (Kd.slice 3 (Kd.int .i64)) (w0:=wz) wz.heap.size 22 ?hg (N':=45) ?hd (xs:=[p]) (inner:=[.slice Ao p.length co]) (ok:=fun k=>wz.heap.size<=k) (okp:=fun k=>wz.heap.size<=k) ?hr ?hp (fun _ hk=>hk) BZ.out.size BZ.out BZ.out.size (by simp) ?_
          (case hd=>rfl)
          (case hg=>rfl)
          (case hr=>first|(go_simp;done)|(go_simp;rfl))
          (case hp=>exact Reps.one (show Kd.FK (Kd.slice 3 (Kd.int .i64)) wb (fun k=>wz.heap.size<=k) p [.slice Ao p.length co] from fun W' hW=>⟨Ao,co,rfl,(Kd.R_reads' HO2.out).2.1,HF.out W' hW⟩) (Reps.none _ _))
          intro v45 wc ho hb hg hat
          have HO3:=Jc.mk ho
          clear BZ HO2 HF
          have BZ:=Jc.mk hb
          clear ho hb hg hat
          obtain⟨A45,c45,e45⟩:=Kd.N_slice HO3.out
          subst e45
          refine hK.out _ _ ((Jd (Jp SZ.out.bO BZ.out) 0).trans rfl) (fun hHeld=>?_)
          clear hK K
          refine norm_ (a':=?_) ?_ ?_
          rotate_left
          · show Act.put _ (some 45) _=_
            simp only[Act.put,List.setIfInBounds_toArray,List.set_cons_zero,List.set_cons_succ,i64_w,i32_w]
            rfl
          refine one_ (i:=5) (N:=some 46) #[true,true,true,true,true,true,false] rfl rfl (Jz HT_.out (by kernel_rfl)) (by decide) (fun K hK=>?_)
          have hgw:=(Array.getElem?_eq_some_iff.1 SZ.out.bO).1
          refine Kd.N_append_rows_step (Kd.slice 3 (Kd.int .i64)) (w0:=w0) w0.heap.size (by rfl) (.tmp 41) (.tmp 45) 23 22 (.slice none 0 0) 24 rfl Try.underlying23 info22 rfl (by decide) (by omega) v ys [p] _ _ _ (fun k=>w0.heap.size<=k/\k≠gO) (fun k=>(w0.heap.size<=k/\k≠gO)/\some k≠v.ownBlock) rfl rfl ?aO ?aR (fun _ hk=>hk) ?aF ?aB ?aS ?aL ?_
          (case aO=>exact Kd.N_below SZ.out.hN BZ.out)
          (case aR=>exact Kd.F_mono (Kd.N_F HO3.out) (fun k hk=>⟨⟨Nat.le_trans SZ.out.hB.size hk,fun e=>by omega⟩,fun e=>by have:=Kd.N_lt SZ.out.hN k e.symm;omega⟩))
          (case aF=>exact fun k hk=>⟨Nat.le_trans SZ.out.hB.size (Nat.le_trans BZ.out.size hk),fun e=>by have:=BZ.out.size;omega⟩)
          (case aB=>exact Jw SZ.out.hB BZ.out)
          (case aS=>exact Nat.le_trans SZ.out.hB.size BZ.out.size)
          (case aL=>have z:=HBd.out;rw[Nat.succ_mul] at z;simp;omega)
          intro v46 wd ho hb hg hat
          obtain⟨zs,hzs⟩:∃zs,zs=ys ++ [p]:=⟨_,rfl⟩
          rw[<- hzs] at ho
          have NZ:=Jc.mk hzs
          clear hzs
          obtain⟨hbO,hS4,hK4⟩:=after_put nBO nWO gO0 SZ.out BZ.out hb hg hat ho
          have HBO:=Jc.mk hbO
          have HS4:=Jc.mk hS4
          have HK4:=Jc.mk hK4
          clear hbO hS4 hK4 ho hb hg hat
          refine hK.out _ _ ((Jd HBO.out 0).trans rfl) (fun hHeld=>?_)
          clear hK K
          refine norm_ (a':=?_) ?_ ?_
          rotate_left
          · show Act.put _ (some 46) _=_
            simp only[Act.put,List.setIfInBounds_toArray,List.set_cons_zero,List.set_cons_succ,i64_w,i32_w]
            rfl
          refine last_ (i:=6) (N:=none) #[true,true,true,true,true,true,true] rfl rfl (by kernel_rfl) (by decide) (fun K hK=>?_)
          have hs46:wd.cell? ⟨gO,0,none⟩=some v:=(Jd HBO.out 0).trans rfl
          have hfs46:=Jo HBO.out 0
          obtain⟨A46,c46,e46⟩:=Kd.N_slice HS4.out.hN
          subst e46
          refine skip_ (w1:=?_) (by rfl) rfl ?_ ?_
          rotate_left
          · go_simp
            rfl
          refine hK.out _ _ ?_
          clear hK K
          refine done_ (by kernel_rfl) ?_
          try go_wp2
          go_roundg k1
          case measure=>omega
          case rel=>exact⟨j + 1,_,zs,by omega,(by first|rw[HWJ.out]|go_num),⟨by(repeat(first|with_reducible refine St.drewN ?_ _|with_reducible refine St.drew ?_));exact HS4.out⟩,⟨by(repeat(first|with_reducible refine Kp.drewN ?_ _|with_reducible refine Kp.drew ?_));exact Kp.trans KZ.out HK4.out⟩,⟨by have z:=HE.out;rw[rowI,HONE.out] at z;rw[NZ.out,List.append_assoc];exact z⟩,⟨by have z:=HBd.out;rw[Nat.succ_mul] at z;rw[NZ.out,List.length_append,List.length_singleton];omega⟩⟩
        have c4:((j:Int) == hv)=false:=beq_eq_false_iff_ne.mpr heq
        obtain⟨kc,hkc⟩:=contains_ev p (j:Int) (by omega)
        by_cases hin:(j:Int) ∈ p
        · have HNIL:Jc (stepI (walkI d m) p row j=[]):=⟨by rw[HG.out,if_neg (fun z=>z.elim ht0 hlo),if_neg heq,if_pos hin]⟩
          rw[decide_eq_true hin] at hkc
          have HK:=Jc.mk hkc
          clear HG ht0 hlo heq hin hkc
          go_wp2_with (go_at_call 116;refine(Gr.calls kc _ _ p (j:Int) true _ ?s1 hcP HK.out).mono ?_;(case s1=>repeat(first|exact HC.out|(with_reducible refine Kd.C_drewN ?_ _)|(with_reducible refine Kd.C_drew ?_)));rintro e w9 ⟨rfl,⟨nd,rfl⟩⟩)
          go_roundg k1
          case measure=>omega
          case rel=>exact⟨j + 1,v,ys,by omega,(by first|rw[HWJ.out]|go_num),⟨by(repeat(first|with_reducible refine St.drewN ?_ _|with_reducible refine St.drew ?_));exact SS.out⟩,⟨by(repeat(first|with_reducible refine Kp.drewN ?_ _|with_reducible refine Kp.drew ?_));exact KK.out⟩,⟨by have:=HE.out;rw[rowI,HNIL.out,List.nil_append] at this;exact this⟩,⟨by have:=HBd.out;rw[Nat.succ_mul] at this;omega⟩⟩
        have HREC:Jc (stepI (walkI d m) p row j=walkI d m (p ++ [(j:Int)])):=⟨by rw[HG.out,if_neg (fun z=>z.elim ht0 hlo),if_neg heq,if_neg hin]⟩
        rw[decide_eq_false hin] at hkc
        have HK:=Jc.mk hkc
        have hjh:hv < (j:Int):=by omega
        clear HG ht0 hlo heq hkc
        go_upto_region 8 with(go_at_call 116;refine(Gr.calls kc _ _ p (j:Int) false _ ?s1 hcP HK.out).mono ?_;(case s1=>repeat(first|exact HC.out|(with_reducible refine Kd.C_drewN ?_ _)|(with_reducible refine Kd.C_drew ?_)));rintro e w9 ⟨rfl,⟨nd,rfl⟩⟩)
        try go_wp2
        have SZ:=Jc.mk (St.drew (St.drewN SS.out nd))
        have KZ:=Jc.mk (Kp.drew (Kp.drewN KK.out nd))
        have PZ:=Jc.mk (Pa.kp HPw.out (Kp.drew (Kp.drewN Kp.refl nd)))
        have BZ:=Jc.mk (Below.refl (wr.drewN nd).drew.heap.size (wr.drewN nd).drew)
        have HLP:=Jc.mk (show p.length<=4 by omega)
        have HIN:=Jc.mk hin
        clear hin
        refine start_ (n:=8) (S:=fun w'=>w'.cell? ⟨gW,0,none⟩=some (.func (.func 115) #[] #[.pointer (some ⟨gB,0,none⟩), .pointer (some ⟨gO,0,none⟩), .pointer (some ⟨gW,0,none⟩)])) (ds:=[]) #[false,false,false,false,false,false,false,false] (by kernel_rfl) rfl rfl ((Jd SZ.out.bW 0).trans rfl) (fun hHeld=>?_);refine Jx tab8 bits8 (fun HT_ HW_=>?_)
        clear SS KK HPw HC hrw2 hp1
        generalize (wr.drewN nd).drew=wz at SZ KZ PZ BZ hHeld |-
        refine pure_ (i:=2) (N:=some 54) (v:=?_) (a':=?_) #[false,false,true,false,false,false,false,false] rfl rfl (any_of HT_.out (by kernel_rfl)) (fun _ _ _ h=>h) (Or.inl ⟨by rfl,?_⟩) ?_ ?_
        rotate_left
        · intro w'
          go_simp
          with_reducible rfl
        rotate_left
        · simp only[Act.put,List.setIfInBounds_toArray,List.set_cons_zero,List.set_cons_succ,i64_w,i32_w]
          rfl
        refine pure_ (i:=4) (N:=some 56) (v:=?_) (a':=?_) #[false,false,true,false,true,false,false,false] rfl rfl (any_of HT_.out (by kernel_rfl)) (fun _ _ _ h=>h) (Or.inl ⟨by rfl,?_⟩) ?_ ?_
        rotate_left
        · intro w'
          go_simp
          with_reducible rfl
        rotate_left
        · simp only[Act.put,List.setIfInBounds_toArray,List.set_cons_zero,List.set_cons_succ,i64_w,i32_w]
          rfl
        refine take_ (i:=0) (N:=some 52) (v:=?_) (a':=?_) #[true,false,true,false,true,false,false,false] rfl rfl (take_ofW HT_.out HW_.out (by kernel_rfl)) (fun _ _ _ h=>h) (Or.inl ⟨by rfl,?_⟩) hHeld ?_ ?_
        rotate_left
        · rintro w' s0
          go_simp
          with_reducible rfl
        rotate_left
        · simp only[Act.put,List.setIfInBounds_toArray,List.set_cons_zero,List.set_cons_succ,i64_w,i32_w]
          rfl
        refine join_ (σ:=Value × Value × Value) 2 #[true,true,true,true,true,true,false,false] (fun s_=>[(53,s_.1),(55,s_.2.1),(57,s_.2.2)]) (fun s_ w'=>(w'.cell? ⟨gW,0,none⟩=some (.func (.func 115) #[] #[.pointer (some ⟨gB,0,none⟩), .pointer (some ⟨gO,0,none⟩), .pointer (some ⟨gW,0,none⟩)]))/\Kd.R (Kd.int .i64) 3 w' wz.heap.size (fun _=>True) s_.2.1 p/\Kd.R (Kd.int .i64) 3 w' wz.heap.size (fun k=>True/\some k≠(s_.2.1:Value).ownBlock) s_.2.2 [(j:Int)]/\Below wz.heap.size wz w') ?_ ?_
        rotate_left
        · intro hCont
          refine two_ (i:=1) (j:=5) (Ni:=some 53) (Nj:=some 57) #[true,true,true,false,true,false,false,false] #[true,false,true,false,true,true,false,false] rfl rfl rfl rfl (two_of HT_.out (by kernel_rfl)) (by decide) (by decide) (fun K hK=>?_) (fun K hK=>?_)
          · skip
            refine Kd.R_lit_step (Kd.int .i64) _ 3 ?hg (N:=53) ?hd (xs:=([]:List Int)) (inner:=[]) (ok:=fun _=>True) (okp:=fun _=>True) ?hr ?hp (fun _ hk=>hk) trivial (Below.refl _ _) (Nat.le_refl _) (by simp) ?_
            (case hd=>rfl)
            (case hg=>rfl)
            (case hr=>first|(go_simp;done)|(go_simp;rfl))
            (case hp=>exact(Reps.none _ _))
            intro v53 wa_ ho hb hg_ hnew_
            clear hg_ hnew_
            have HO53:=Jc.mk (Kd.R_lower ho BZ.out.size)
            have n0_:=Jc.mk (Jw BZ.out hb)
            clear BZ hb ho
            have BZ:=n0_
            clear n0_
            refine hK.out _ _ (Jd (Jp SZ.out.bW BZ.out) 0 |>.trans rfl) (fun hHeld=>?_)
            clear hK K
            refine norm_ (a':=?_) ?_ ?_
            rotate_left
            · show Act.put _ (some 53) _=_
              simp only[Act.put,List.setIfInBounds_toArray,List.set_cons_zero,List.set_cons_succ,i64_w,i32_w]
              rfl
            refine two_ (i:=3) (j:=5) (Ni:=some 55) (Nj:=some 57) #[true,true,true,true,true,false,false,false] #[true,true,true,false,true,true,false,false] rfl rfl rfl rfl (two_of HT_.out (by kernel_rfl)) (by decide) (by decide) (fun K hK=>?_) (fun K hK=>?_)
            · skip
              refine Kd.R_append_rows_step (Kd.int .i64) (w0:=wz) wz.heap.size (by rfl) (.tmp 53) (.tmp 54) 22 3 (.int .i64 0) 8 rfl Try.underlying22 info3 rfl (by decide) (by omega) v53 [] p _ _ _ (fun _=>True) (fun _=>False) rfl rfl ?aO ?aR (fun _ _ h=>h) (fun _ h=>h.elim) ?aF ?aB ?aS ?aL ?_
              (case aR=>exact(Foot.now (Kd.F_below PZ.out BZ.out)))
              (case aB=>exact BZ.out)
              (case aF=>exact fun _ _=>trivial)
              (case aO=>exact HO53.out)
              (case aS=>exact BZ.out.size)
              (case aL=>(try simp only[List.length_nil,List.length_cons]);have:=HLP.out;omega)
              intro v55 wb_ ho hb hg hat
              rw[List.nil_append] at ho
              have HO55:=Jc.mk ho
              clear BZ HO53
              have BZ:=Jc.mk hb
              clear ho hb hg hat
              refine hK.out _ _ (Jd (Jp SZ.out.bW BZ.out) 0 |>.trans rfl) (fun hHeld=>?_)
              clear hK K
              refine norm_ (a':=?_) ?_ ?_
              rotate_left
              · show Act.put _ (some 55) _=_
                simp only[Act.put,List.setIfInBounds_toArray,List.set_cons_zero,List.set_cons_succ,i64_w,i32_w]
                rfl
              refine one_ (i:=5) (N:=some 57) #[true,true,true,true,true,true,false,false] rfl rfl (Jz HT_.out (by kernel_rfl)) (by decide) (fun K hK=>?_)
              refine Kd.R_lit_step (Kd.int .i64) _ 3 ?hg (N:=57) ?hd (xs:=([(j:Int)]:List Int)) (inner:=[.int .i64 (j:Int)]) (ok:=fun _=>True) (okp:=fun _=>True) ?hr ?hp (fun _ hk=>hk) trivial (Below.refl _ _) (Nat.le_refl _) (by simp) ?_
              (case hd=>rfl)
              (case hg=>rfl)
              (case hr=>first|(go_simp;done)|(go_simp;rfl))
              (case hp=>exact(Reps.one (show Kd.M (Kd.int .i64) _ _ _ (j:Int) [.int .i64 (j:Int)] from rfl) (Reps.none _ _)))
              intro v57 wa_ ho hb hg_ hnew_
              clear hg_ hnew_
              have HO57:=Jc.mk (Kd.R_lower (Kd.R_new' (u:=v55) ho (Kd.R_lt HO55.out)) BZ.out.size)
              have m0_:=Jc.mk (Kd.R_below HO55.out hb)
              clear HO55
              have HO55:=m0_
              clear m0_
              have n0_:=Jc.mk (Jw BZ.out hb)
              clear BZ hb ho
              have BZ:=n0_
              clear n0_
              refine hK.out _ _ (Jd (Jp SZ.out.bW BZ.out) 0 |>.trans rfl) (fun hHeld=>?_)
              clear hK K
              refine norm_ (a':=?_) ?_ ?_
              rotate_left
              · show Act.put _ (some 57) _=_
                simp only[Act.put,List.setIfInBounds_toArray,List.set_cons_zero,List.set_cons_succ,i64_w,i32_w]
                rfl
              exact norm_ (by simp only[putAll,Act.put,List.setIfInBounds_toArray,List.set_cons_zero,List.set_cons_succ]) (hCont (v53,v55,v57) _ ⟨hHeld,HO55.out,HO57.out,BZ.out⟩)
            · skip
              refine Kd.R_lit_step (Kd.int .i64) _ 3 ?hg (N:=57) ?hd (xs:=([(j:Int)]:List Int)) (inner:=[.int .i64 (j:Int)]) (ok:=fun _=>True) (okp:=fun _=>True) ?hr ?hp (fun _ hk=>hk) trivial (Below.refl _ _) (Nat.le_refl _) (by simp) ?_
              (case hd=>rfl)
              (case hg=>rfl)
              (case hr=>first|(go_simp;done)|(go_simp;rfl))
              (case hp=>exact(Reps.one (show Kd.M (Kd.int .i64) _ _ _ (j:Int) [.int .i64 (j:Int)] from rfl) (Reps.none _ _)))
              intro v57 wa_ ho hb hg_ hnew_
              clear hg_ hnew_
              have HO57:=Jc.mk (Kd.R_lower (Kd.R_new' (u:=v53) ho (Kd.R_lt HO53.out)) BZ.out.size)
              have m0_:=Jc.mk (Kd.R_below HO53.out hb)
              clear HO53
              have HO53:=m0_
              clear m0_
              have n0_:=Jc.mk (Jw BZ.out hb)
              clear BZ hb ho
              have BZ:=n0_
              clear n0_
              refine hK.out _ _ (Jd (Jp SZ.out.bW BZ.out) 0 |>.trans rfl) (fun hHeld=>?_)
              clear hK K
              refine norm_ (a':=?_) ?_ ?_
              rotate_left
              · show Act.put _ (some 57) _=_
                simp only[Act.put,List.setIfInBounds_toArray,List.set_cons_zero,List.set_cons_succ,i64_w,i32_w]
                rfl
              refine one_ (i:=3) (N:=some 55) #[true,true,true,true,true,true,false,false] rfl rfl (Jz HT_.out (by kernel_rfl)) (by decide) (fun K hK=>?_)
              refine Kd.R_append_rows_step (Kd.int .i64) (w0:=wz) wz.heap.size (by rfl) (.tmp 53) (.tmp 54) 22 3 (.int .i64 0) 8 rfl Try.underlying22 info3 rfl (by decide) (by omega) v53 [] p _ _ _ (fun _=>True) (fun _=>False) rfl rfl ?aO ?aR (fun _ _ h=>h) (fun _ h=>h.elim) ?aF ?aB ?aS ?aL ?_
              (case aR=>exact(Foot.now (Kd.F_below PZ.out BZ.out)))
              (case aB=>exact BZ.out)
              (case aF=>exact fun _ _=>trivial)
              (case aO=>exact HO53.out)
              (case aS=>exact BZ.out.size)
              (case aL=>(try simp only[List.length_nil,List.length_cons]);have:=HLP.out;omega)
              intro v55 wb_ ho hb hg hat
              rw[List.nil_append] at ho
              have m0_:=Jc.mk (Kd.R_after (ok:=fun _=>True) HO57.out hg hat)
              clear HO57
              have HO57:=m0_
              clear m0_
              have HO55:=Jc.mk ho
              clear BZ HO53
              have BZ:=Jc.mk hb
              clear ho hb hg hat
              refine hK.out _ _ (Jd (Jp SZ.out.bW BZ.out) 0 |>.trans rfl) (fun hHeld=>?_)
              clear hK K
              refine norm_ (a':=?_) ?_ ?_
              rotate_left
              · show Act.put _ (some 55) _=_
                simp only[Act.put,List.setIfInBounds_toArray,List.set_cons_zero,List.set_cons_succ,i64_w,i32_w]
                rfl
              exact norm_ (by simp only[putAll,Act.put,List.setIfInBounds_toArray,List.set_cons_zero,List.set_cons_succ]) (hCont (v53,v55,v57) _ ⟨hHeld,HO55.out,HO57.out,BZ.out⟩)
          · skip
            refine Kd.R_lit_step (Kd.int .i64) _ 3 ?hg (N:=57) ?hd (xs:=([(j:Int)]:List Int)) (inner:=[.int .i64 (j:Int)]) (ok:=fun _=>True) (okp:=fun _=>True) ?hr ?hp (fun _ hk=>hk) trivial (Below.refl _ _) (Nat.le_refl _) (by simp) ?_
            (case hd=>rfl)
            (case hg=>rfl)
            (case hr=>first|(go_simp;done)|(go_simp;rfl))
            (case hp=>exact(Reps.one (show Kd.M (Kd.int .i64) _ _ _ (j:Int) [.int .i64 (j:Int)] from rfl) (Reps.none _ _)))
            intro v57 wa_ ho hb hg_ hnew_
            clear hg_ hnew_
            have HO57:=Jc.mk (Kd.R_lower ho BZ.out.size)
            have n0_:=Jc.mk (Jw BZ.out hb)
            clear BZ hb ho
            have BZ:=n0_
            clear n0_
            refine hK.out _ _ (Jd (Jp SZ.out.bW BZ.out) 0 |>.trans rfl) (fun hHeld=>?_)
            clear hK K
            refine norm_ (a':=?_) ?_ ?_
            rotate_left
            · show Act.put _ (some 57) _=_
              simp only[Act.put,List.setIfInBounds_toArray,List.set_cons_zero,List.set_cons_succ,i64_w,i32_w]
              rfl
            refine one_ (i:=1) (N:=some 53) #[true,true,true,false,true,true,false,false] rfl rfl (Jz HT_.out (by kernel_rfl)) (by decide) (fun K hK=>?_)
            refine Kd.R_lit_step (Kd.int .i64) _ 3 ?hg (N:=53) ?hd (xs:=([]:List Int)) (inner:=[]) (ok:=fun _=>True) (okp:=fun _=>True) ?hr ?hp (fun _ hk=>hk) trivial (Below.refl _ _) (Nat.le_refl _) (by simp) ?_
            (case hd=>rfl)
            (case hg=>rfl)
            (case hr=>first|(go_simp;done)|(go_simp;rfl))
            (case hp=>exact(Reps.none _ _))
            intro v53 wa_ ho hb hg_ hnew_
            clear hg_ hnew_
            have m0_:=Jc.mk (Kd.R_elder' (v:=v53) HO57.out (Kd.R_base ho) hb)
            clear HO57
            have HO57:=m0_
            clear m0_
            have HO53:=Jc.mk (Kd.R_lower ho BZ.out.size)
            have n0_:=Jc.mk (Jw BZ.out hb)
            clear BZ hb ho
            have BZ:=n0_
            clear n0_
            refine hK.out _ _ (Jd (Jp SZ.out.bW BZ.out) 0 |>.trans rfl) (fun hHeld=>?_)
            clear hK K
            refine norm_ (a':=?_) ?_ ?_
            rotate_left
            · show Act.put _ (some 53) _=_
              simp only[Act.put,List.setIfInBounds_toArray,List.set_cons_zero,List.set_cons_succ,i64_w,i32_w]
              rfl
            refine one_ (i:=3) (N:=some 55) #[true,true,true,true,true,true,false,false] rfl rfl (Jz HT_.out (by kernel_rfl)) (by decide) (fun K hK=>?_)
            refine Kd.R_append_rows_step (Kd.int .i64) (w0:=wz) wz.heap.size (by rfl) (.tmp 53) (.tmp 54) 22 3 (.int .i64 0) 8 rfl Try.underlying22 info3 rfl (by decide) (by omega) v53 [] p _ _ _ (fun _=>True) (fun _=>False) rfl rfl ?aO ?aR (fun _ _ h=>h) (fun _ h=>h.elim) ?aF ?aB ?aS ?aL ?_
            (case aR=>exact(Foot.now (Kd.F_below PZ.out BZ.out)))
            (case aB=>exact BZ.out)
            (case aF=>exact fun _ _=>trivial)
            (case aO=>exact HO53.out)
            (case aS=>exact BZ.out.size)
            (case aL=>(try simp only[List.length_nil,List.length_cons]);have:=HLP.out;omega)
            intro v55 wb_ ho hb hg hat
            rw[List.nil_append] at ho
            have m0_:=Jc.mk (Kd.R_after (ok:=fun _=>True) HO57.out hg hat)
            clear HO57
            have HO57:=m0_
            clear m0_
            have HO55:=Jc.mk ho
            clear BZ HO53
            have BZ:=Jc.mk hb
            clear ho hb hg hat
            refine hK.out _ _ (Jd (Jp SZ.out.bW BZ.out) 0 |>.trans rfl) (fun hHeld=>?_)
            clear hK K
            refine norm_ (a':=?_) ?_ ?_
            rotate_left
            · show Act.put _ (some 55) _=_
              simp only[Act.put,List.setIfInBounds_toArray,List.set_cons_zero,List.set_cons_succ,i64_w,i32_w]
              rfl
            exact norm_ (by simp only[putAll,Act.put,List.setIfInBounds_toArray,List.set_cons_zero,List.set_cons_succ]) (hCont (v53,v55,v57) _ ⟨hHeld,HO55.out,HO57.out,BZ.out⟩)
        rintro⟨v53,v55,v57⟩ w53 ⟨hHeld,h0_,h1_,h2_⟩
        clear BZ
        have HO55:=Jc.mk h0_
        have HO57:=Jc.mk h1_
        have BZ:=Jc.mk h2_
        clear h0_ h1_ h2_
        obtain⟨A57,c57,e57⟩:=Kd.R_slice HO57.out
        subst e57
        refine norm_ (a':=?_) ?_ ?_
        rotate_left
        · simp only[putAll,Act.put,List.setIfInBounds_toArray,List.set_cons_zero,List.set_cons_succ]
          rfl
        refine one_ (i:=6) (N:=some 58) #[true,true,true,true,true,true,true,false] rfl rfl (Jz HT_.out (by kernel_rfl)) (by decide) (fun K hK=>?_)
        refine Kd.R_append_rows_step (Kd.int .i64) (w0:=wz) wz.heap.size (by rfl) (.tmp 55) (.tmp 57) 22 3 (.int .i64 0) 8 rfl Try.underlying22 info3 rfl (by decide) (by omega) v55 p [(j:Int)] _ _ _ (fun _=>True) (fun _=>False) rfl rfl ?aO ?aR (fun _ _ h=>h) (fun _ h=>h.elim) ?aF ?aB ?aS ?aL ?_
        (case aR=>exact(Kd.R_reads' HO57.out).2.2)
        (case aB=>exact BZ.out)
        (case aF=>exact fun _ _=>trivial)
        (case aO=>exact HO55.out)
        (case aS=>exact BZ.out.size)
        (case aL=>(try simp only[List.length_nil,List.length_cons]);have:=HLP.out;omega)
        intro v58 wb_ ho hb hg hat
        have HO58:=Jc.mk ho
        clear HO57
        clear BZ HO55
        have BZ:=Jc.mk hb
        clear ho hb hg hat
        have SY:=Jc.mk (St.below SZ.out BZ.out)
        have KY:=Jc.mk (Kp.trans KZ.out (Kp.below BZ.out))
        refine hK.out _ _ (Jd (Jp SZ.out.bW BZ.out) 0 |>.trans rfl) (fun hHeld=>?_)
        clear hK K
        refine norm_ (a':=?_) ?_ ?_
        rotate_left
        · show Act.put _ (some 58) _=_
          simp only[Act.put,List.setIfInBounds_toArray,List.set_cons_zero,List.set_cons_succ,i64_w,i32_w]
          rfl
        obtain⟨A58,c58,e58⟩:=Kd.R_slice HO58.out
        subst e58
        have HP58:Jc (Pa gO wb_ v A58 (p ++ [(j:Int)])):=⟨Kd.F_mono (Kd.R_F (Kd.R_bound HO58.out)) (fun k hk=>⟨fun e=>by have h5:=hk.2.1;have h6:=blk_lt SZ.out.bO;omega,fun e=>by have h5:=hk.2.1;have h6:=Kd.N_lt SZ.out.hN k e.symm;omega⟩)⟩
        have hc58:=(Kd.R_reads' HO58.out).2.1
        refine one_ (i:=7) (N:=some 59) #[true,true,true,true,true,true,true,true] rfl rfl (Jz HT_.out (by kernel_rfl)) (by decide) (fun K hK=>?_)
        have he:=enters_ Try.func115 (by kernel_rfl) rfl #[.slice A58 (p ++ [(j:Int)]).length c58, .pointer (some ⟨gB,0,none⟩), .pointer (some ⟨gO,0,none⟩), .pointer (some ⟨gW,0,none⟩)] wb_
        refine call_ 115 #[.slice A58 (p ++ [(j:Int)]).length c58, .pointer (some ⟨gB,0,none⟩), .pointer (some ⟨gO,0,none⟩), .pointer (some ⟨gW,0,none⟩)] (by rfl) rfl ?hr ?_
        (case hr=>unfold execOp;simp[resolve,Deferred.ofValue,invoke,Act.eval,he])
        refine(walk hD sq h4 nBO nOB nWO nOW nBW nWB gO0 m (p ++ [(j:Int)]) ?s1 ?s2 ?s3 ?s4 A58 c58 wb_ v ys hc58 ?s5 SY.out HP58.out).mono ?_
        (case s1=>simp)
        (case s2=>exact fun x hx=>(List.mem_append.1 hx).elim (fun z=>hr x z) (fun z=>by have:=List.mem_singleton.1 z;have:=HSQ.out;omega))
        (case s3=>exact List.nodup_append.2 ⟨hnd,(by simp),fun a ha b hb e=>HIN.out (by rw[<- List.mem_singleton.1 hb, <- e];exact ha)⟩)
        (case s4=>rw[List.length_append,List.length_singleton];omega)
        (case s5=>have z:=HBd.out;rw[Nat.succ_mul] at z;omega)
        rintro e w9 ⟨rfl,v9,hs9,hk9⟩
        refine⟨_,rfl,?_⟩
        have HS9:=Jc.mk hs9
        have HK9:=Jc.mk (Kp.trans KY.out hk9)
        clear hs9 hk9
        refine hK.out _ _ ((Jd HS9.out.bW 0).trans rfl) (fun hHeld=>?_)
        clear hK K
        refine done_ (by kernel_rfl) ?_
        try go_wp2
        go_roundg k1
        case measure=>omega
        case rel=>exact⟨j + 1,v9,_,by omega,(by first|rw[HWJ.out]|go_num),⟨by(repeat(first|with_reducible refine St.drewN ?_ _|with_reducible refine St.drew ?_));exact HS9.out⟩,⟨by(repeat(first|with_reducible refine Kp.drewN ?_ _|with_reducible refine Kp.drew ?_));exact HK9.out⟩,⟨by have z:=HE.out;rw[rowI,HREC.out] at z;rw[List.append_assoc];exact z⟩,⟨by have z:=HBd.out;rw[Nat.succ_mul] at z;have y:=walk_len sq h4 m (p ++ [(j:Int)]);rw[List.length_append];omega⟩⟩
      · obtain rfl:j=row.length:=by omega
        have hk0:gk=0:=by omega
        subst hk0
        have c3b0:decide ((row.length:Int) < (row.length:Int))=false:=decide_eq_false (by omega)
        go_wp2
        go_end0
        exact⟨rfl,v,by have:=HE.out;rw[rowI,List.append_nil] at this;rw[<- this];(repeat(first|with_reducible refine St.drewN ?_ _|with_reducible refine St.drew ?_));exact SS.out,by(repeat(first|with_reducible refine Kp.drewN ?_ _|with_reducible refine Kp.drew ?_));exact KK.out⟩
def foundI (d:List (List Int)):Nat->Nat->List (List Int)
  | 0,_=>[]
  | e + 1,i=>walkI d d.length [(i:Int)] ++ foundI d e (i + 1)
theorem lit1 {gO:Nat} {vo:Value} (w:World) (i:Int) (h1:gO < w.heap.size) (h2:∀k,vo.ownBlock=some k->k < w.heap.size):Pa gO (w.alloc (.cells #[.int .i64 i] 3)) vo (some ⟨w.heap.size,0,none⟩) [i]:=by
  have hR:Kd.R (Kd.int .i64) 3 (w.alloc (.cells #[.int .i64 i] 3)) w.heap.size (fun _=>True) (.slice (some ⟨w.heap.size,0,none⟩) 1 1) [i]:=by
    refine⟨fun _ _=>trivial,[.int .i64 i],World.ownsRow_lit w #[.int .i64 i] 1 (Nat.le_refl _) (by decide) rfl,Reps.one (show Kd.M (Kd.int .i64) _ _ _ i [.int .i64 i] from rfl) (Reps.none _ _)⟩
  exact Kd.F_mono (Kd.R_F (Kd.R_bound hR)) (fun k hk=>⟨fun e=>by have:=hk.2.1;omega,fun e=>by have:=hk.2.1;have:=h2 k e.symm;omega⟩)
theorem size_alloc_ (w:World) (o:Obj):(w.alloc o).heap.size=w.heap.size + 1:=by rw[show(w.alloc o).heap=w.heap.push o from rfl,Array.size_push]
def at4 (w:World) (C1 C2 C3 C4:Array Value):World:=(((w.alloc (.cells C1 25)).alloc (.cells C2 22)).alloc (.cells C3 23)).alloc (.cells C4 115)
theorem at4_1 (w:World) (C1 C2 C3 C4:Array Value):(at4 w C1 C2 C3 C4).heap[w.heap.size]? = some (.cells C1 25 (0,0)):=Jl (Jl (Jl (blk_new w _) _) _) _
theorem at4_3 (w:World) (C1 C2 C3 C4:Array Value):(at4 w C1 C2 C3 C4).heap[w.heap.size + 1 + 1]? = some (.cells C3 23 (0,0)):=by
  have:=blk_new ((w.alloc (.cells C1 25)).alloc (.cells C2 22)) (.cells C3 23)
  rw[size_alloc_,size_alloc_] at this
  exact Jl this _
theorem at4_4 (w:World) (C1 C2 C3 C4:Array Value):(at4 w C1 C2 C3 C4).heap[w.heap.size + 1 + 1 + 1]? = some (.cells C4 115 (0,0)):=by
  have:=blk_new (((w.alloc (.cells C1 25)).alloc (.cells C2 22)).alloc (.cells C3 23)) (.cells C4 115)
  rw[size_alloc_,size_alloc_,size_alloc_] at this
  exact this
theorem st_init (w:World) (AC:Option Addr) (nC cC:Nat) (AD:Option Addr) (nD cD:Nat) :
    St w w.heap.size (w.heap.size + 1 + 1) (w.heap.size + 1 + 1 + 1) AC nC cC AD nD cD (.slice (some ⟨w.heap.size + 1,0,none⟩) 0 0) []
      ((at4 w #[.slice AC nC cC, .slice AD nD cD] #[] #[.slice (some ⟨w.heap.size + 1,0,none⟩) 0 0] #[.nilFunc]).setCell ⟨w.heap.size + 1 + 1 + 1,0,none⟩
        (.func (.func 115) #[] #[.pointer (some ⟨w.heap.size,0,none⟩), .pointer (some ⟨w.heap.size + 1 + 1,0,none⟩), .pointer (some ⟨w.heap.size + 1 + 1 + 1,0,none⟩)])):=by
  have hR:Kd.N (Kd.slice 3 (Kd.int .i64)) 22 ((w.alloc (.cells #[.slice AC nC cC, .slice AD nD cD] 25)).alloc (.cells #[] 22)) w.heap.size (fun k=>w.heap.size<=k/\k≠w.heap.size + 1 + 1) (.slice (some ⟨w.heap.size + 1,0,none⟩) 0 0) []:=by
    refine⟨fun k hk=>?_,[],rfl,⟨fun k hk=>hk.symm,[],?_,Reps.none _ _⟩,fun j x c hx _=>by simp at hx⟩
    · have:w.heap.size + 1=k:=by simpa [Value.ownBlock] using hk
      omega
    · have:=World.ownsRow_lit (base:=w.heap.size) (e:=22) (size:=(Kd.raw (Kd.slice 3 (Kd.int .i64)).sz).sz) (w.alloc (.cells #[.slice AC nC cC, .slice AD nD cD] 25)) #[] 0 (by rw[size_alloc_];omega) (by decide) (by simp)
      rw[size_alloc_] at this
      exact this
  refine⟨?_,Ju (at4_1 _ _ _ _ _) (by show w.heap.size≠w.heap.size + 1 + 1 + 1;omega) _,Ju (at4_3 _ _ _ _ _) (by show w.heap.size + 1 + 1≠w.heap.size + 1 + 1 + 1;omega) _,Jv (at4_4 _ _ _ _ _) 0 _ rfl,?_⟩
  · unfold at4;exact Jh (Jk (Jk (Jk (Jk (Below.refl _ _) _) _) _) _) (by omega)
  · refine Kd.N_below hR (Jh (Jk (Jk (Below.refl _ _) _) _) ?_)
    rw[size_alloc_,size_alloc_];omega
end Circ
open Circ
def G4.f (_:Nat) (c:List Int) (d:List (List Int)):Option (List (List Int)):=
  if c.length=d.length/\d.length<=4/\(∀i,i < d.length->(d.getD i []).length=d.length)/\(foundI d d.length 0).length<=20 then some (srtL ((foundI d d.length 0).length - 1) 1 (foundI d d.length 0)) else none
set_option maxHeartbeats 8000000 in
set_option maxRecDepth 100000 in
theorem G4.calls (k:Nat) (A0_0:Option Addr) (c0_0:Nat) (l0_0:List Int) (A0_1:Option Addr) (c0_1:Nat) (l0_1:List (List Int)) (r:List (List Int)) (w:World) (hr0_0:Kd.C (Kd.int .i64) w A0_0 l0_0.length l0_0) (hc0_0:l0_0.length<=c0_0) (hr0_1:Kd.C (Kd.slice 3 (Kd.int .i64)) w A0_1 l0_1.length l0_1) (hc0_1:l0_1.length<=c0_1) (h:G4.f k l0_0 l0_1=some r) :
    Calls Try.prog 96 #[.agg #[.slice A0_0 l0_0.length c0_0, .slice A0_1 l0_1.length c0_1]] w fun e w'=>∃v0_:Value,e = .returned (v0_)/\Kd.N (Kd.slice 3 (Kd.int .i64)) 22 w' w.heap.size (fun k_=>(w.heap.size<=k_)) v0_ r/\Below w.heap.size w w':=by
  have hu:=Try.underlying25
  unfold G4.f at h
  split at h
  case isFalse=>cases h
  case isTrue hh=>
  obtain⟨hcd,h4,sq,h20⟩:=hh
  have HR:=Jc.mk (Option.some.inj h)
  have HCD:=Jc.mk hcd
  clear hcd
  clear h
  have H20:=Jc.mk h20
  clear h20
  have HD:=Jc.mk hr0_1
  have HSQ:=Jc.mk sq
  clear hr0_1 sq
  have z1:w.heap.size≠w.heap.size + 1 + 1:=by omega
  have z2:w.heap.size + 1 + 1≠w.heap.size:=by omega
  have z3:w.heap.size + 1 + 1 + 1≠w.heap.size + 1 + 1:=by omega
  have z4:w.heap.size + 1 + 1≠w.heap.size + 1 + 1 + 1:=by omega
  have z5:w.heap.size≠w.heap.size + 1 + 1 + 1:=by omega
  have z6:w.heap.size + 1 + 1 + 1≠w.heap.size:=by omega
  have z7:w.heap.size<=w.heap.size + 1 + 1:=by omega
  have hst:=at4_4 w #[.slice A0_0 l0_0.length c0_0, .slice A0_1 l0_1.length c0_1] #[] #[.slice (some ⟨w.heap.size + 1,0,none⟩) 0 0] #[.nilFunc]
  have hs0:(at4 w #[.slice A0_0 l0_0.length c0_0, .slice A0_1 l0_1.length c0_1] #[] #[.slice (some ⟨w.heap.size + 1,0,none⟩) 0 0] #[.nilFunc]).cell? ⟨w.heap.size + 1 + 1 + 1,0,none⟩=some .nilFunc:=(Jd hst 0).trans rfl
  have hf0:=Jo hst 0
  unfold at4 at hs0 hf0
  clear hst
  go_enter Try.func96,Try.ntmps96
  have S0:=Jc.mk (st_init w A0_0 l0_0.length c0_0 A0_1 l0_1.length c0_1)
  unfold at4 at S0
  generalize hW4:((((w.alloc (.cells #[.slice A0_0 l0_0.length c0_0, .slice A0_1 l0_1.length c0_1] 25)).alloc (.cells #[] 22)).alloc (.cells #[.slice (some ⟨w.heap.size + 1,0,none⟩) 0 0] 23)).alloc (.cells #[.nilFunc] 115))=w4 at hs0 hf0 S0
  go_wp2_with ((with_reducible refine gate_store (t:=115) (p:=4) rfl ?_);refine store_event (t:=115) (p:=4) (v:=?vo) (w1:=w4.setCell ⟨w.heap.size + 1 + 1 + 1,0,none⟩
        (.func (.func 115) #[] #[.pointer (some ⟨w.heap.size,0,none⟩), .pointer (some ⟨w.heap.size + 1 + 1,0,none⟩), .pointer (some ⟨w.heap.size + 1 + 1 + 1,0,none⟩)])) ?hg ?ho ?hn ?hr ?_;(case ho=>rfl);(case hg=>rfl);(case hn=>rfl);(case hr=>go_simp;rw[run_store _ _ _ _ _ rfl];simp only[stored,hs0,hf0];rfl);intro w5 hw;rw[<- hw] at S0;have SS:=S0;clear S0 hs0 hf0 hW4 hw;have hz0:w5.cell? ⟨w.heap.size,0,none⟩=some (.slice A0_0 l0_0.length c0_0):=(Jd SS.out.bB 0).trans rfl)
  have h625:l0_1.length * 5 ^ l0_1.length<=4 * 625:=Nat.mul_le_mul h4 (Nat.pow_le_pow_right (by omega) h4)
  generalize hF:foundI l0_1 l0_1.length 0=F at HR H20
  have HF:=Jc.mk hF
  clear hF
  obtain⟨n,hn⟩:∃n,n=l0_1.length:=⟨_,rfl⟩
  have HN:=Jc.mk hn
  have H4:=Jc.mk h4
  clear hn h4
  have H625:=Jc.mk h625
  clear h625
  have HHR:=Jc.mk hr0_0
  clear hr0_0
  go_loopg [11] (l0_0.length) (fun kq v11 w'=>∃(j:Nat) (v:Value) (ys:List (List Int)),kq + j=l0_0.length/\v11 = .int .i64 j/\Jc (St w w.heap.size (w.heap.size + 1 + 1) (w.heap.size + 1 + 1 + 1) A0_0 l0_0.length c0_0 A0_1 l0_1.length c0_1 v ys w')/\Jc (ys ++ foundI l0_1 kq j=F)/\Jc (ys.length + kq * 5 ^ l0_1.length<=1000000))
  case atStart=>exact⟨0,_,[],by omega,rfl,⟨by(repeat(first|with_reducible refine St.drewN ?_ _|with_reducible refine St.drew ?_));exact SS.out⟩,⟨by rw[<- HF.out,List.nil_append,HCD.out]⟩,⟨by have:=H625.out;rw[HCD.out,List.length_nil];omega⟩⟩
  case round=>
    clear SS
    obtain⟨j,v,ys,hj,rfl,SS,HE,HBd⟩:=hrel
    by_cases hlt:j < l0_0.length
    · obtain⟨k1,rfl⟩:∃k1,gk=k1 + 1:=⟨gk - 1,by omega⟩
      have HWJ:Jc (wrap64 ((j:Int) + 1)=((j + 1:Nat):Int)):=⟨by have:=H4.out;have:=HCD.out;unfold wrap64;omega⟩
      have hzW:wr.cell? ⟨w.heap.size + 1 + 1 + 1,0,none⟩=some (.func (.func 115) #[] #[.pointer (some ⟨w.heap.size,0,none⟩), .pointer (some ⟨w.heap.size + 1 + 1,0,none⟩), .pointer (some ⟨w.heap.size + 1 + 1 + 1,0,none⟩)]):=(Jd SS.out.bW 0).trans rfl
      have c3b0:decide ((j:Int) < (l0_0.length:Int))=true:=decide_eq_true (by omega)
      go_wp2_with (go_at_call 115;refine(walk HD.out HSQ.out H4.out z1 z2 z3 z4 z5 z6 z7 l0_1.length [(j:Int)] (by simp) ?s2 (by simp) (by simp) _ 1 _ v ys (Nat.le_refl _) ?s5 (SS.out.below (Jk (Below.refl _ _) _)) (lit1 wr (j:Int) (blk_lt SS.out.bO) (Kd.N_lt SS.out.hN))).mono ?_;(case s2=>exact fun x hx=>by have:=List.mem_singleton.1 hx;have:=HCD.out;omega);(case s5=>have z:=HBd.out;rw[Nat.succ_mul] at z;omega);rintro e w9 ⟨rfl,v9,hs9,_⟩;have HS9:=Jc.mk hs9;clear hs9)
      go_roundg k1
      case measure=>omega
      case rel=>exact⟨j + 1,v9,_,by omega,(by first|rw[HWJ.out]|go_num),⟨by(repeat(first|with_reducible refine St.drewN ?_ _|with_reducible refine St.drew ?_));exact HS9.out⟩,⟨by have z:=HE.out;rw[foundI] at z;rw[List.append_assoc];exact z⟩,⟨by have z:=HBd.out;rw[Nat.succ_mul] at z;have y:=walk_len HSQ.out H4.out l0_1.length [(j:Int)];rw[List.length_append];omega⟩⟩
    · obtain rfl:j=l0_0.length:=by omega
      have hk0:gk=0:=by omega
      subst hk0
      have c3b0:decide ((l0_0.length:Int) < (l0_0.length:Int))=false:=decide_eq_false (by omega)
      have HYF:Jc (ys=F):=⟨by have:=HE.out;rw[foundI,List.append_nil] at this;exact this⟩
      have hzO:wr.cell? ⟨w.heap.size + 1 + 1,0,none⟩=some v:=(Jd SS.out.bO 0).trans rfl
      by_cases hys:ys=[]
      · subst hys
        obtain⟨AV,cV,eV⟩:=Kd.N_slice SS.out.hN
        have HEV:=Jc.mk eV
        clear eV
        go_wp2_with (go_at_call 117;rw[HEV.out];refine(sort117_0 AV cV _).mono ?_;rintro e w9 ⟨rfl,⟨nd,rfl⟩⟩)
        go_ret
        refine⟨_,rfl,?_,?_⟩
        · rw[<- HR.out, <- HYF.out]
          exact Kd.N_mono (ok:=fun k=>w.heap.size<=k/\k≠w.heap.size + 1 + 1) (by(repeat(first|with_reducible refine Kd.N_drewN ?_ _|with_reducible refine Kd.N_drew ?_));exact SS.out.hN) (fun _ hk=>hk.1)
        · repeat(first|(with_reducible first|exact SS.out.hB|apply Jk|apply Jj|apply Ji)|exact SS.out.hB)
      · have hlen:0 < ys.length:=List.length_pos_iff.2 hys
        obtain⟨g,cap,eV,hg,hgl,_⟩:=Kd.N_form SS.out.hN hlen
        have HEV:=Jc.mk eV
        have HN9:=Jc.mk (show Kd.N (Kd.slice 3 (Kd.int .i64)) 22 wr w.heap.size (fun k=>w.heap.size<=k/\k≠w.heap.size + 1 + 1) (.slice (some ⟨g,0,none⟩) ys.length cap) ys from eV ▸ SS.out.hN)
        have hgO:g≠w.heap.size + 1 + 1:=(SS.out.hN.1 g (by rw[eV];simp[Value.ownBlock])).2
        have HGO:=Jc.mk hgO
        have HG:=Jc.mk hg
        have h20:ys.length<=20:=by rw[HYF.out];exact H20.out
        clear eV hgO hg hgl hys hlen
        go_wp2_with (go_at_call 117;rw[HEV.out];refine(sort117 (show Kd.N (Kd.slice 3 (Kd.int .i64)) 22 _ w.heap.size (fun k=>w.heap.size<=k/\k≠w.heap.size + 1 + 1) (.slice (some ⟨g,0,none⟩) ys.length cap) ys by(repeat(first|with_reducible refine Kd.N_drewN ?_ _|with_reducible refine Kd.N_drew ?_));exact HN9.out) h20).mono ?_;rintro e w9 ⟨rfl,hs9⟩;have HS9:=Jc.mk hs9;clear hs9;have hzO9:w9.cell? ⟨w.heap.size + 1 + 1,0,none⟩=some v:=(Jd ((HS9.out.2.1.2 _ (blk_lt SS.out.bO) (fun e=>HGO.out e.symm)).trans SS.out.bO) 0).trans rfl)
        go_ret
        refine⟨_,rfl,?_,?_⟩
        · rw[<- HR.out, <- HYF.out,HEV.out]
          exact Kd.N_mono (ok:=fun k=>w.heap.size<=k/\k≠w.heap.size + 1 + 1) (by(repeat(first|with_reducible refine Kd.N_drewN ?_ _|with_reducible refine Kd.N_drew ?_));exact HS9.out.1) (fun _ hk=>hk.1)
        · have hBB:Below w.heap.size w w9:=⟨HS9.out.2.2.1.trans SS.out.hB.os,HS9.out.2.2.2.1.trans SS.out.hB.tape,HS9.out.2.2.2.2.trans SS.out.hB.output,Nat.le_trans SS.out.hB.size HS9.out.2.1.1,fun i hi=>(HS9.out.2.1.2 i (Nat.lt_of_lt_of_le hi SS.out.hB.size) (fun e=>by have:=HG.out;omega)).trans (SS.out.hB.block i hi)⟩
          repeat(first|(with_reducible first|exact hBB|apply Jk|apply Jj|apply Ji)|exact hBB)
end
end Go.Proofs.Ytfooakkhkehpiaa.PE
namespace Go.Proofs.Ytfooakkhkehpiaa.PE
open Go.RowKit Go.Proofs.YtfooakkhkehpiaaW.PrintWords Go.Proofs.YtfooakkhkehpiaaW.PrintLast Go.Proofs.YtfooakkhkehpiaaW.PrintMore Go.Proofs.Ytfooakkhkehpiaa.Qe
attribute [local go_sem] max2_int min2_int max_two min_two max_three min_three max_four min_four
set_option linter.unusedVariables false
set_option linter.unusedSimpArgs false
mutual
def Fk.l0:Nat->List Int->Int->List Int->Int->Int->List Int->List (List Int)->List Int->List (List Int)->Option (List Int × (List (List Int)))
 | 0,_,_,_,_,_,_,_,_,_=>none
 | k + 1,x1,x6,lb,x14,x15,lq8,fi9,ej6,bs3=>if x15 < x14 then(if 0<=x15 then(if x15 < (lb.length:Int) then(if 0<=(rd lb x15) then(if (rd lb x15) < (fi9.length:Int) then(if (x1.length:Int)=0 then(none) else(if 0<=(Int.tmod (wrap64 (x15 + 1)) (x1.length:Int)) then(if (Int.tmod (wrap64 (x15 + 1)) (x1.length:Int)) < (x1.length:Int) then(if 0<=(rd x1 (Int.tmod (wrap64 (x15 + 1)) (x1.length:Int))) then(if (rd x1 (Int.tmod (wrap64 (x15 + 1)) (x1.length:Int))) < ((Jr fi9 (rd lb x15)).length:Int) then(Fk.l0 k x1 (mn x6 (rd (Jr fi9 (rd lb x15)) (rd x1 (Int.tmod (wrap64 (x15 + 1)) (x1.length:Int))))) lb x14 (wrap64 (x15 + 1)) lq8 fi9 ej6 bs3) else(none)) else(none)) else(none)) else(none))) else(none)) else(none)) else(none)) else(none)) else(Fk.l1 k x1 x6 x1 (x1.length:Int) 0 ej6 bs3)
def Fk.l1:Nat->List Int->Int->List Int->Int->Int->List Int->List (List Int)->Option (List Int × (List (List Int)))
 | 0,_,_,_,_,_,_,_=>none
 | k + 1,x1,x6,x38,x39,zt,ej6,bs3=>if zt < x39 then(if 0<=zt then(if zt < (x38.length:Int) then(if 0<=(rd x38 zt) then(if (rd x38 zt) < (bs3.length:Int) then(if (x1.length:Int)=0 then(none) else(if 0<=(Int.tmod (wrap64 (zt + 1)) (x1.length:Int)) then(if (Int.tmod (wrap64 (zt + 1)) (x1.length:Int)) < (x1.length:Int) then(if 0<=(rd x1 (Int.tmod (wrap64 (zt + 1)) (x1.length:Int))) then(if (rd x1 (Int.tmod (wrap64 (zt + 1)) (x1.length:Int))) < ((Jr bs3 (rd x38 zt)).length:Int) then(Fk.l1 k x1 x6 x38 x39 (wrap64 (zt + 1)) ej6 (bs3.set ((rd x38 zt):Int).toNat ((Jr bs3 (rd x38 zt)).set ((rd x1 (Int.tmod (wrap64 (zt + 1)) (x1.length:Int))):Int).toNat (wrap64 ((rd (Jr bs3 (rd x38 zt)) (rd x1 (Int.tmod (wrap64 (zt + 1)) (x1.length:Int)))) - x6))))) else(none)) else(none)) else(none)) else(none))) else(none)) else(none)) else(none)) else(none)) else(some (ej6,bs3))
end
def Fk.f (k:Nat) (ab:List Int) (aa:List (List Int)) (l1:List Int):Option (List Int × (List (List Int))):=(Fo.f k ab aa).bind fun bt467=>(Fk.l0 k l1 9 l1 (l1.length:Int) 0 ab aa bt467.1 bt467.2)
def Fk.T6:Bool × List (List Nat × List Nat):=(true,[([],[]),([],[]),([1],[1]),([],[]),([2,3],[2,3]),([4],[4]),([],[]),([],[]),([7],[7]),([],[]),([9],[9]),([8,10],[8,10]),([6,11],[6,11]),([12],[12]),([5,13],[5,13]),([14],[14]),([0,15],[0,15]),([16,0,1,2,3,4,5,6,7,8,9,10,11,12,13,14,15,16],[0,16])])
def Fk.B6:List Nat:=[0,0,2,0,14,30,0,0,128,0,512,1920,4032,8128,16382,32766,65535,131071]
theorem Fk.tab6:rtab .any (opsOf Try.f97 6)=Fk.T6:=by kernel_rfl
theorem Fk.bits6:waitsOk Fk.T6.2 Fk.B6=true:=by kernel_rfl
def Fk.T11:Bool × List (List Nat × List Nat):=(true,[([],[]),([0],[0]),([],[]),([1,2],[1,2]),([3],[3]),([],[]),([],[]),([6],[6]),([],[]),([8],[8]),([7,9],[7,9]),([5,10],[5,10]),([11],[11]),([4,12],[4,12]),([13],[13]),([],[]),([14,15],[14,15]),([4,12,0,1,2,3,4,5,6,7,8,9,10,11,12,13,14,15,16],[4,12]),([17,16,0,1,2,3,4,5,6,7,8,9,10,11,12,13,14,15,16],[16,17])])
def Fk.B11:List Nat:=[0,1,0,7,15,0,0,64,0,256,960,2016,4064,8191,16383,0,65535,131071,262143]
theorem Fk.tab11:rtab .any (opsOf Try.f97 11)=Fk.T11:=by kernel_rfl
theorem Fk.bits11:waitsOk Fk.T11.2 Fk.B11=true:=by kernel_rfl
theorem ax0 {p:Prop} (h:p:=by repeat(first|(with_reducible first|exact HB.out|apply Jk|apply Jj|apply Ji|refine Jh ?_ lq9.out|refine Jh ?_ lr0.out|refine Jh ?_ lr1.out|refine Jh ?_ GB39.out)|exact HB.out)):p:=h
set_option maxHeartbeats 8000000 in
set_option maxRecDepth 100000 in
theorem Fk.calls (k:Nat) (af:Option Addr) (ac:Nat) (ab:List Int) (ah:Option Addr) (ag:Nat) (aa:List (List Int)) (A1:Option Addr) (c1:Nat) (l1:List Int) (r1:List Int) (r2:List (List Int)) (w:World) (cb:Kd.C (Kd.int .i64) w af ab.length ab) (cg:ab.length<=ac) (cc:Kd.C (Kd.slice 3 (Kd.int .i64)) w ah aa.length aa) (ch:aa.length<=ag) (iu:Kd.C (Kd.int .i64) w A1 l1.length l1) (iz:l1.length<=c1) (h:Fk.f k ab aa l1=some (r1,r2)) :
  Calls Try.prog 97 #[.agg #[.slice af ab.length ac, .slice ah aa.length ag], .slice A1 l1.length c1] w fun e w'=>∃v0_ v1_:Value,e = .returned (.agg #[v0_,v1_])/\Kd.R (Kd.int .i64) 3 w' w.heap.size (fun _=>True) v0_ r1/\Kd.S (Kd.slice 3 (Kd.int .i64)) 22 w' w.heap.size (fun k_=>some k_≠(v0_:Value).ownBlock) v1_ r2/\Below w.heap.size w w':=by
 have hu25:=Try.underlying25
 have bg:=A_ cb
 have bw:=A_ cg
 clear cb cg
 have bd:=A_ cc
 have b4:=A_ ch
 clear cc ch
 have fs:=A_ iu
 have pe:=A_ iz
 clear iu iz
 have HB:=A_ (Below.refl w.heap.size w)
 have H:=h
 unfold Fk.f at H
 clear h
 replace H:=Option.bind_eq_some_iff.mp H
 obtain⟨⟨an9,bc6⟩,zg,H⟩:=H
 try dsimp only at H
 have A3:=A_ zg
 clear zg
 have H':=A_ H
 clear H
 go_enter Try.func97,Try.ntmps97
 go_wp2_with (first|((with_reducible refine gd_ 2 ?_);refine bx_ (N:=2) #[.slice af ab.length ac, .slice ah aa.length ag] 25 ?_;intro aj2 hg w4 hbox hb;have pp:=A_ (hbox);have oh8:=A_ ((g84_:w.heap.size<=aj2));have lq9:=oh8;replace HB:=hs_ (ax0) hb;clear hb hbox hg)|((with_reducible refine gd_ 4 ?_);refine bx_ (N:=4) #[.slice none 0 0, .slice none 0 0] 25 ?_;intro ad2 hg w5 hbox hb;have rg:=A_ (hbox);have oh9:=A_ ((g84_:w.heap.size<=ad2));have lr0:=oh9;replace HB:=hs_ (ax0) hb;have jd9:=nl_ pp hg;have je0:=nr_ pp hg;replace pp:=bb_ pp hb;clear hb hbox hg;have ig4:=jd9.out;have ig5:=je0.out;obtain⟨aa9,ab0,ab1,ab2⟩:=blk2_ pp)|((with_reducible refine gc_ 111 ?_);refine gl_ 12 Try.func111 #[.agg #[.slice af ab.length ac, .slice ah aa.length ag]] ?_;(refine(Fo.calls k _ _ ab _ _ aa an9 bc6 _ (uC_ bg) bw.out (uC_ bd) b4.out A3.out).mono ?_);rintro e w8 ⟨oi0,oi1,rfl,ai,ak,hb⟩;refine⟨_,rfl,?_⟩;have fj0:=A_ (Kd.R_lower ai (Je (ax0)));have fj1:=A_ (Kd.S_lower ak (Je (ax0)));replace pp:=bb_ pp hb;replace rg:=bb_ rg hb;replace HB:=hs_ (ax0) hb)|((with_reducible refine gd_ 5 ?_);refine bx_ (N:=5) #[.slice none 0 0, .slice none 0 0] 25 ?_;intro aj3 hg w9 hbox hb;replace fj0:=rb_ fj0 hb;replace fj1:=sb_ fj1 hb;have vd:=A_ (hbox);have oi2:=A_ ((g84_:w.heap.size<=aj3));have lr1:=oi2;replace HB:=hs_ (ax0) hb;have fj2:=nl_ pp hg;have je1:=nr_ pp hg;replace pp:=bb_ pp hb;have fj3:=nl_ rg hg;have je2:=nr_ rg hg;replace rg:=bb_ rg hb;clear hb hbox hg;obtain⟨ie,gl,yu⟩:=Kd.R_slice fj0.out;subst yu;have bg8:=je1.out;have bg9:=fj2.out;have cl3:=je2.out;have cl4:=fj3.out;obtain⟨sv,sw,sx,sy⟩:=blk2_ vd;obtain⟨nz,k8,bn4⟩:=Kd.S_slice fj1.out;subst bn4))
 go_loopg [6,15] k (fun kq v6 v15 w'=>∃(m3:Int) (rh:Int),v6 = .int .i64 m3/\v15 = .int .i64 rh/\Jc (Fk.l0 kq l1 m3 l1 (l1.length:Int) rh ab aa an9 bc6=some (r1,r2))/\Jc (kq<=k)/\Jc (Kd.R (Kd.int .i64) 3 w' w.heap.size (fun _=>True) (.slice ie an9.length gl) an9)/\Jc (Kd.S (Kd.slice 3 (Kd.int .i64)) 22 w' w.heap.size (fun k_=>some k_≠((.slice ie an9.length gl):Value).ownBlock) (.slice nz bc6.length k8) bc6)/\Jc (hc_ w' aj2 #[(.slice af ab.length ac),(.slice ah aa.length ag)] 25)/\Jc (hc_ w' ad2 #[(.slice none 0 0),(.slice none 0 0)] 25)/\Jc (hc_ w' aj3 #[(.slice ie an9.length gl),(.slice nz bc6.length k8)] 25)/\Jc (Below w.heap.size w w'))
 case atStart=>exact⟨(9),(0),(g3_),(g3_),H',⟨Nat.le_refl _⟩,⟨ra_ fj0⟩,⟨sa_ fj1⟩,⟨ba_ pp⟩,⟨ba_ rg⟩,⟨ba_ vd⟩,⟨ax0⟩⟩
 clear H'
 obtain⟨m3,rh,rfl,rfl,HA,HK1,at8,ws,pp,rg,vd,HB⟩:=hrel
 cases gk with
 | zero=>exact absurd HA.out (by simp[Fk.l0])
 | succ k1=>?_
 have H:=HA.out
 clear HA
 simp only[Fk.l0] at H
 by_cases eu:rh < (l1.length:Int)
 ·rw[if_pos eu] at H
  have pf:=decide_eq_true eu
  clear eu
  obtain⟨ag9,H⟩:=pd_ H
  obtain⟨al4,H⟩:=pd_ H
  obtain⟨bh2,H⟩:=pd_ H
  obtain⟨tr,H⟩:=pd_ H
  by_cases o3:(l1.length:Int)=0
  ·rw[if_pos o3] at H
   exact absurd H (by simp)
  rw[if_neg o3] at H
  have ei3:((l1.length:Int) == 0)=false:=beq_eq_false_iff_ne.mpr o3
  have lr2:((l1.length:Int) != 0)=true:=bne_iff_ne.mpr o3
  have lr3:¬ (l1=[]):=fun h_=>o3 (by rw[h_];rfl)
  obtain⟨ji21,hji21⟩:∃j_:Int,(Int.tmod (wrap64 (rh + 1)) (l1.length:Int))=j_:=⟨_,rfl⟩
  first|rw[hji21] at H|simp only[hji21] at H
  obtain⟨ay9,H⟩:=pd_ H
  obtain⟨bn7,H⟩:=pd_ H
  obtain⟨yw,H⟩:=pd_ H
  obtain⟨bg1,H⟩:=pd_ H
  obtain⟨ji26,hji26⟩:∃j_:Int,(mn m3 (rd (Jr aa (rd l1 rh)) (rd l1 (ji21))))=j_:=⟨_,rfl⟩
  first|rw[hji26] at H|simp only[hji26] at H
  have hji26_:(if (rd (Jr aa (rd l1 rh)) (rd l1 (ji21))) < m3 then(rd (Jr aa (rd l1 rh)) (rd l1 (ji21))) else m3)=ji26:=hji26
  have H':=A_ H
  clear H
  obtain⟨⟨je3,lr4,gu7⟩,fj4,fj5⟩:=rdp_ (Kd.at_int fs.out rh)
  cases lr4
  replace gu7:=cl_ HB gu7
  try go_wp2
  replace at8:=rd_ at8
  replace ws:=sd_ ws
  replace pp:=bd_ pp
  replace rg:=bd_ rg
  replace vd:=bd_ vd
  replace HB:=A_ (Ji HB.out)
  obtain⟨⟨je4,oi3,lr5,lr6,ej7,je5,je6⟩,fj6,fj7⟩:=rdp_ (at_L1 bd.out (rd l1 rh))
  have lr7:=ej7
  cases lr6
  replace ej7:=cl_ HB ej7
  have je7:=A_ je6
  have oi4:=A_ je5
  clear je6 je5
  obtain⟨⟨lr8,lr9,ej8⟩,fj8,fj9⟩:=rdp_ (Kd.at_int fs.out (ji21))
  have ls0:=ej8
  obtain rfl:je3=lr8:=(by injection lr9)
  replace ej8:=cl_ HB ej8
  obtain⟨⟨je8,ls1,ej9⟩,fk0,fk1⟩:=rdp_ (Kd.at_int je7.out (rd l1 (ji21)))
  have ls2:=ej9
  cases ls1
  replace ej9:=cl_ HB ej9
  refine start_ (n:=18) (S:=fun w'=>w'.cell? ⟨aj2,0,none⟩=some (.slice af ab.length ac)/\w'.cell? ⟨aj2,1,none⟩=some (.slice (some je4) aa.length ag)/\w'.cell? (je4.add ((rd l1 rh)).toNat)=some (.slice (some je8) (Jr aa (rd l1 rh)).length lr5)/\w'.cell? (je3.add ((ji21)).toNat)=some (.int .i64 (rd l1 (ji21)))/\w'.cell? (je8.add ((rd l1 (ji21))).toNat)=some (.int .i64 (rd (Jr aa (rd l1 rh)) (rd l1 (ji21))))) (ds:=[]) (tl_ 18 0) (g1_) rfl (g1_) ⟨(Jd pp.out 0).trans rfl,(Jd pp.out 1).trans rfl,((cl_ HB lr7).trans rfl),((cl_ HB ls0).trans rfl),((cl_ HB ls2).trans rfl)⟩ (fun hHeld=>?_);refine Jx Fk.tab6 Fk.bits6 (fun HT_ HW_=>?_)
  generalize wr.drew=w27 at at8 ws pp rg vd HB je7 ej7 ej8 ej9 hHeld |-
  refine pw_ 0 20 (tl_ 18 1) ?_
  refine pw_ 1 21 (tl_ 18 3) ?_
  refine pw_ 3 23 (tl_ 18 11) ?_
  refine pw_ 6 26 (tl_ 18 75) ?_
  refine pw_ 7 27 (tl_ 18 203) ?_
  refine pw_ 8 28 (tl_ 18 459) ?_
  refine pw_ 9 29 (tl_ 18 971) ?_
  refine pw_ 10 30 (tl_ 18 1995) ?_
  refine pw_ 11 31 (tl_ 18 4043) ?_
  refine pw_ 12 32 (tl_ 18 8139) ?_
  refine tk4_ 2 22 (tl_ 18 8143) hHeld ?_
  refine pw_ 4 24 (tl_ 18 8159) ?_
  refine tk4_ 5 25 (tl_ 18 8191) hHeld ?_
  refine tk4_ 13 33 (tl_ 18 16383) hHeld ?_
  refine pw_ 14 34 (tl_ 18 32767) ?_
  refine tk4_ 15 35 (tl_ 18 65535) hHeld ?_
  refine pw_ 16 36 (tl_ 18 131071) ?_
  refine pw_ 17 6 (tl_ 18 262143) ?_
  refine done_ (done_of HT_.out (g1_)) ?_
  try go_wp2
  go_roundg k1
  case measure=>have:=HK1.out;omega
  case rel=>exact⟨(ji26),(wrap64 (rh + 1)),(by first|rfl|(simp;done)|(simp only[<- hji26] <;> (first|rfl|simp))|(simp[*];done)),(g3_),H',⟨g8_⟩,⟨uR_ at8⟩,⟨uS_ ws⟩,⟨uB_ pp⟩,⟨uB_ rg⟩,⟨uB_ vd⟩,⟨ax0⟩⟩
 rw[if_neg eu] at H
 have pf:=decide_eq_false eu
 clear eu
 have H':=A_ H
 clear H
 go_wp2
 go_loopg [40] k1 (fun kq v40 w'=>∃(lj:Int) (bc7:List Int) (o9:List (List Int)) (di5:Value) (gu8:Value),v40 = .int .i64 lj/\Jc (Fk.l1 kq l1 m3 l1 (l1.length:Int) lj bc7 o9=some (r1,r2))/\Jc (kq<=k1)/\Jc (Kd.R (Kd.int .i64) 3 w' w.heap.size (fun _=>True) di5 bc7)/\Jc (Kd.S (Kd.slice 3 (Kd.int .i64)) 22 w' w.heap.size (fun k_=>some k_≠(di5:Value).ownBlock) gu8 o9)/\Jc (hc_ w' aj2 #[(.slice af ab.length ac),(.slice ah aa.length ag)] 25)/\Jc (hc_ w' ad2 #[(.slice none 0 0),(.slice none 0 0)] 25)/\Jc (hc_ w' aj3 #[di5,gu8] 25)/\Jc (Below w.heap.size w w'))
 case atStart=>exact⟨(0),(an9),(bc6),(.slice ie an9.length gl),(.slice nz bc6.length k8),(g3_),H',⟨Nat.le_refl _⟩,⟨uR_ at8⟩,⟨uS_ ws⟩,⟨uB_ pp⟩,⟨uB_ rg⟩,⟨uB_ vd⟩,⟨ax0⟩⟩
 clear H'
 obtain⟨lj,bc7,o9,di5,gu8,rfl,HA,HK2,at8,ws,pp,rg,vd,HB⟩:=hrel
 cases gk with
 | zero=>exact absurd HA.out (by simp[Fk.l1])
 | succ k2=>?_
 have H:=HA.out
 clear HA
 simp only[Fk.l1] at H
 by_cases lo:lj < (l1.length:Int)
 case neg=>
  rw[if_neg lo] at H
  have bp0:=decide_eq_false lo
  clear lo
  simp only[Option.some.injEq,Prod.mk.injEq] at H
  obtain⟨rfl,rfl⟩:=H
  have fb8:=je1.out
  have fb9:=fj2.out
  have ea3:=je2.out
  have ea4:=fj3.out
  obtain⟨gj8,gj9,gk0,gk1⟩:=blk2_ vd
  obtain⟨de,df,cr3⟩:=Kd.R_slice at8.out
  subst cr3
  have ib2:=je0.out
  have ib3:=jd9.out
  obtain⟨ib4,ib5,ib6,ib7⟩:=blk2_ rg
  obtain⟨ar0,ar1,ea5⟩:=Kd.S_slice ws.out
  subst ea5
  go_wp2
  refine bodyPost_ret (results_cell_row rfl _ _ ad2 25 #[.slice de bc7.length df, .slice ar0 o9.length ar1] (0,0) _ rfl (ba_ rg) Try.underlying25 rfl (g1_)) rfl ?_
  exact⟨_,_,g4_,ra_ at8,sa_ ws,ax0⟩
 rw[if_pos lo] at H
 have bp0:=decide_eq_true lo
 clear lo
 obtain⟨gh7,H⟩:=pd_ H
 obtain⟨de1,H⟩:=pd_ H
 obtain⟨ea2,H⟩:=pd_ H
 obtain⟨gf6,H⟩:=pd_ H
 by_cases qz:(l1.length:Int)=0
 ·rw[if_pos qz] at H
  exact absurd H (by simp)
 rw[if_neg qz] at H
 have ew5:((l1.length:Int) == 0)=false:=beq_eq_false_iff_ne.mpr qz
 have oi5:((l1.length:Int) != 0)=true:=bne_iff_ne.mpr qz
 have oi6:¬ (l1=[]):=fun h_=>qz (by rw[h_];rfl)
 obtain⟨ji34,hji34⟩:∃j_:Int,(Int.tmod (wrap64 (lj + 1)) (l1.length:Int))=j_:=⟨_,rfl⟩
 first|rw[hji34] at H|simp only[hji34] at H
 obtain⟨gf7,H⟩:=pd_ H
 obtain⟨ez2,H⟩:=pd_ H
 obtain⟨kp3,H⟩:=pd_ H
 obtain⟨kp4,H⟩:=pd_ H
 obtain⟨gu9,hyq⟩:∃y_:List Int,y_=((Jr o9 (rd l1 lj)).set ((rd l1 (ji34)):Int).toNat (wrap64 ((rd (Jr o9 (rd l1 lj)) (rd l1 (ji34))) - m3))):=⟨_,rfl⟩
 replace H:(Fk.l1 k2 l1 m3 l1 (l1.length:Int) (wrap64 (lj + 1)) bc7 (o9.set ((rd l1 lj):Int).toNat gu9))=some (r1,r2):=qh_
 have ls3:=A_ hyq
 clear hyq
 obtain⟨je9,hyq⟩:∃y_:List (List Int),y_=(o9.set ((rd l1 lj):Int).toNat gu9):=⟨_,rfl⟩
 replace H:(Fk.l1 k2 l1 m3 l1 (l1.length:Int) (wrap64 (lj + 1)) bc7 je9)=some (r1,r2):=qh_
 have ls4:=A_ hyq
 clear hyq
 have H':=A_ H
 clear H
 obtain⟨⟨jf0,ls5,jf1⟩,gv0,gv1⟩:=rdp_ (Kd.at_int fs.out lj)
 cases ls5
 replace jf1:=cl_ HB jf1
 try go_wp2
 replace at8:=rd_ at8
 replace ws:=sd_ ws
 replace pp:=bd_ pp
 replace rg:=bd_ rg
 replace vd:=bd_ vd
 replace HB:=A_ (Ji HB.out)
 obtain⟨a7,ay,ac1⟩:=Kd.S_slice ws.out
 (first|subst ac1|(injection ac1 with f1_ f2_ f3_;have f4_:=f1_.symm;have f5_:=f3_.symm;clear f1_ f2_ f3_;subst f4_;subst f5_))
 have fk2:0<=((rd l1 lj):Int):=od_
 have fk3:(rd l1 lj) < (o9.length:Int):=od_
 obtain⟨gv2,oi7,ls6,ls7,fk4,jf2,jf3⟩:=at_L1 (Kd.S_reads' ws.out).2.2 (rd l1 lj) fk2 fk3
 cases ls7
 obtain⟨ce479,hce479,hMe479,hcc479⟩:=Kd.S_get ws.out [] (rd l1 lj) fk2 (by first|exact fk3|exact od_|(have e_:=(Kd.S_reads' ws.out).1;omega))
 obtain⟨ve479_0,rfl,ge479_0⟩:=hMe479
 have hv479_0:=hcc479 0 _ rfl
 rw[Nat.add_zero,show((Kd.slice 3 (Kd.int .i64))).sz=1 from rfl,Nat.mul_one] at hv479_0
 replace hv479_0:=Option.some.inj (hv479_0.symm.trans fk4)
 rw[hv479_0] at ge479_0
 have cu9:=A_ (show Kd.R (Kd.int .i64) 3 _ _ _ _ (Jr o9 (rd l1 lj)) from ge479_0)
 clear hv479_0 ge479_0
 have HX479_0:=A_ fk4
 clear hcc479 hce479
 have gv3:=A_ jf3
 have oi8:=A_ jf2
 clear jf3 jf2
 replace fk2:=eq_true fk2
 replace fk3:=eq_true fk3
 obtain⟨⟨ls8,ls9,fk5⟩,gv4,gv5⟩:=rdp_ (Kd.at_int fs.out (ji34))
 have lt0:=fk5
 obtain rfl:jf0=ls8:=(by injection ls9)
 replace fk5:=cl_ HB fk5
 obtain⟨⟨oi9,lt1,gv8⟩,gv6,gv7⟩:=rdp_ (Kd.at_int (by repeat(first|(with_reducible exact gv3.out)|(with_reducible refine Kd.C_alloc ?_ _)|(with_reducible refine Kd.C_drewN ?_ _)|(with_reducible refine Kd.C_drew ?_)|exact gv3.out)) (rd l1 (ji34)))
 cases lt1
 have p39:0<=((rd l1 (ji34)):Int):=od_
 have q39:((rd l1 (ji34)):Int) < (((Jr o9 (rd l1 lj)).length:Int):Int):=od_
 obtain⟨df3,zf,am7,ed8,gl39,cl39,HG39⟩:=Kd.R_form cu9.out (by omega)
 (first|cases am7|(injection am7 with ea_ en_ ec_;(first|subst ea_|(injection ea_ with ea_;subst ea_));subst ec_;clear en_))
 have GB39:=A_ ed8
 have GG39:=A_ HG39
 clear ed8 gl39 HG39
 (first|simp only[add_plain] at gv8|skip)
 obtain⟨gj7,hf39_0⟩:=Kd.R_celln 0 cu9.out ((rd l1 (ji34)):Int) p39 q39
 replace p39:=eq_true p39
 replace q39:=eq_true q39
 have hq42:((rd l1 lj):Int) < (o9.length:Int):=(by have h_:((rd l1 lj):Int) < ((o9.length:Int):Int):=od_;first|exact h_|(have e_:=(Kd.S_reads' ws.out).1;omega)|simpa only[List.length_set,List.length_set] using h_)
 obtain⟨oki42,ce42,hcl42,hM42,hcc42,hok42,hbk42⟩:=Kd.S_borrow ws.out [] ((rd l1 lj):Int) (od_) (by first|exact hq42|exact od_|(have e_:=(Kd.S_reads' ws.out).1;omega))
 obtain⟨ve42_0,rfl,ge42_0⟩:=hM42
 have hv42:=hcc42 0 _ rfl
 rw[Nat.add_zero,show((Kd.slice 3 (Kd.int .i64))).sz=1 from rfl,Nat.mul_one] at hv42
 replace hv42:=Option.some.inj (hv42.symm.trans HX479_0.out)
 subst hv42
 clear hcc42 hcl42
 replace ge42_0:=(show Kd.R (Kd.int .i64) 3 _ _ _ _ (Jr o9 (rd l1 lj)) from ge42_0)
 have HP42:=Kd.R_putg ge42_0 ((rd l1 (ji34)):Int) (wrap64 ((rd (Jr o9 (rd l1 lj)) (rd l1 (ji34))) - m3))
 rw[<- ls3.out] at HP42
 have HS42:=hbk42 HP42.2 (fun k_ e_=>by injection e_ with e_;subst e_;exact ge42_0.1 _ rfl) (x':=gu9) (Kd.M_row HP42.1)
 rw[<- ls4.out] at HS42
 have HQ42:=A_ HS42
 clear HP42 HS42 hbk42 hok42
 refine start_ (n:=19) (S:=fun w'=>w'.cell? ⟨aj3,0,none⟩=some (di5)/\w'.cell? ⟨aj3,1,none⟩=some (.slice (some gv2) o9.length ay)/\w'.cell? (gv2.add ((rd l1 lj)).toNat)=some (.slice (some ⟨df3,0,none⟩) (Jr o9 (rd l1 lj)).length ls6)/\w'.cell? (jf0.add ((ji34)).toNat)=some (.int .i64 (rd l1 (ji34)))/\w'.cell? ⟨df3,((rd l1 (ji34))).toNat,none⟩=some (.int .i64 (rd (Jr o9 (rd l1 lj)) (rd l1 (ji34))))) (ds:=[18]) (tl_ 19 0) (g1_) rfl (g1_) ⟨(Jd vd.out 0).trans rfl,(Jd vd.out 1).trans rfl,fk4,((cl_ HB lt0).trans rfl),gv8⟩ (fun hHeld=>?_);refine Jx Fk.tab11 Fk.bits11 (fun HT_ HW_=>?_)
 generalize wr.drew=o5 at at8 ws pp rg vd HB GG39 cu9 HQ42 gv3 HX479_0 hf39_0 gj7 fk4 fk5 gv8 hHeld |-
 refine pw_ 0 45 (tl_ 19 1) ?_
 refine pw_ 2 47 (tl_ 19 5) ?_
 refine pw_ 5 50 (tl_ 19 37) ?_
 refine pw_ 6 51 (tl_ 19 101) ?_
 refine pw_ 7 52 (tl_ 19 229) ?_
 refine pw_ 8 53 (tl_ 19 485) ?_
 refine pw_ 9 54 (tl_ 19 997) ?_
 refine pw_ 10 55 (tl_ 19 2021) ?_
 refine pw_ 11 56 (tl_ 19 4069) ?_
 refine pw_ 15 60 (tl_ 19 36837) ?_
 refine tk4_ 1 46 (tl_ 19 36839) hHeld ?_
 refine pw_ 3 48 (tl_ 19 36847) ?_
 refine tk4_ 4 49 (tl_ 19 36863) hHeld ?_
 refine tk4_ 12 57 (tl_ 19 40959) hHeld ?_
 refine pw_ 13 58 (tl_ 19 49151) ?_
 refine tk4_ 14 59 (tl_ 19 65535) hHeld ?_
 refine pw_ 16 61 (tl_ 19 131071) ?_
 refine pw_ 17 62 (tl_ 19 262143) ?_
 refine last_ (i:=18) (N:=none) (tl_ 19 524287) rfl rfl (Jz HT_.out (g1_)) (by decide) (fun K hK=>?_)
 refine skip_ (w1:=?_) (by rfl) rfl ?_ ?_
 rotate_left
 ·go_simp
  rfl
 refine hK.out _ _ ?_
 clear hK K
 refine done_ (done_of HT_.out (g1_)) ?_
 try go_wp2
 go_roundg k2
 case measure=>have:=HK1.out;have:=HK2.out;omega
 case rel=>exact⟨(wrap64 (lj + 1)),(bc7),(je9),(di5),(.slice (some gv2) o9.length ay),(g3_),H',⟨g42_⟩,⟨by(with_reducible repeat(first|apply Kd.R_alloc|apply Kd.R_drewN|apply Kd.R_drew));exact Kd.R_mono (Kd.R_far (p:=⟨df3,((rd l1 (ji34)):Int).toNat,none⟩) (Kd.R_far1 at8.out rfl ((cu9.out.1 _ rfl).1)) (fun _ hk=>hk.2) (.int .i64 (wrap64 ((rd (Jr o9 (rd l1 lj)) (rd l1 (ji34))) - m3)))) (fun _ hk=>trivial)⟩,⟨uS_ HQ42⟩,⟨by(with_reducible repeat(first|refine Jm ?_ _|refine Jn ?_|refine Jl ?_ _));refine Ju ?_ (by have h_:=Kd.R_ne cu9.out pp.out (by decide);intro e_;exact h_ (g6_)) _;exact uB_ pp⟩,⟨by(with_reducible repeat(first|refine Jm ?_ _|refine Jn ?_|refine Jl ?_ _));refine Ju ?_ (by have h_:=Kd.R_ne cu9.out rg.out (by decide);intro e_;exact h_ (g6_)) _;exact uB_ rg⟩,⟨by(with_reducible repeat(first|refine Jm ?_ _|refine Jn ?_|refine Jl ?_ _));refine Ju ?_ (by have h_:=Kd.R_ne cu9.out vd.out (by decide);intro e_;exact h_ (g6_)) _;exact uB_ vd⟩,⟨ax0⟩⟩
def Fe.l0:Nat->Int->List Int->List (List Int)->Option (List Int × (List (List Int)) × Int)
 | 0,_,_,_=>none
 | k + 1,x5,gv9,gw0=>(G4.f k gv9 gw0).bind fun tw=>(if (tw.length:Int)=0 then(some (gv9,gw0,x5)) else(if 0 < (tw.length:Int) then((Fk.f k gv9 gw0 (Jr tw 0)).bind fun bt298=>(Fe.l0 k (wrap64 (x5 + 1)) bt298.1 bt298.2)) else(none)))
def Fe.f (k:Nat) (ab:List Int) (aa:List (List Int)):Option (List Int × (List (List Int)) × Int):=(Fo.f k ab aa).bind fun bt287=>(Fe.l0 k 0 bt287.1 bt287.2)
theorem Fe.calls0_q0 {p:Prop} (h:p:=by repeat(first|(with_reducible first|exact HB.out|apply Jk|apply Jj|apply Ji|refine Jh ?_ lt2.out|refine Jh ?_ lt3.out|refine Jh ?_ lt4.out)|exact HB.out)):p:=h
set_option maxHeartbeats 8000000 in
set_option maxRecDepth 100000 in
theorem Fe.calls0 (k:Nat) (af:Option Addr) (ac:Nat) (ab:List Int) (ah:Option Addr) (ag:Nat) (aa:List (List Int)) (r1:List Int) (r2:List (List Int)) (r3:Int) (w:World) (cb:Kd.C (Kd.int .i64) w af ab.length ab) (cg:ab.length<=ac) (cc:Kd.C (Kd.slice 3 (Kd.int .i64)) w ah aa.length aa) (ch:aa.length<=ag) (h:Fe.f k ab aa=some (r1,r2,r3)) :
  Calls Try.prog 99 #[.agg #[.slice af ab.length ac, .slice ah aa.length ag]] w fun e w'=>∃v0_ v1_:Value,e = .returned (.tuple #[.agg #[v0_,v1_], .int .i64 r3])/\Kd.R (Kd.int .i64) 3 w' w.heap.size (fun k_=>(w.heap.size<=k_)) v0_ r1/\Kd.S (Kd.slice 3 (Kd.int .i64)) 22 w' w.heap.size (fun k_=>(w.heap.size<=k_)/\some k_≠(v0_:Value).ownBlock) v1_ r2/\Below w.heap.size w w':=by
 have hu25:=Try.underlying25
 have bg:=A_ cb
 have bw:=A_ cg
 clear cb cg
 have bd:=A_ cc
 have b4:=A_ ch
 clear cc ch
 have HB:=A_ (Below.refl w.heap.size w)
 have H:=h
 unfold Fe.f at H
 clear h
 replace H:=Option.bind_eq_some_iff.mp H
 obtain⟨⟨di6,ar8⟩,vy,H⟩:=H
 try dsimp only at H
 have A2:=A_ vy
 clear vy
 have H':=A_ H
 clear H
 go_enter Try.func99,Try.ntmps99
 go_wp2_with (first|((with_reducible refine gd_ 1 ?_);refine bx_ (N:=1) #[.slice af ab.length ac, .slice ah aa.length ag] 25 ?_;intro tx hg w3 hbox hb;have pa:=A_ (hbox);have oj0:=A_ ((g85_:w.heap.size<=tx));have lt2:=oj0;replace HB:=A_ (Jw (Fe.calls0_q0) hb);clear hb hbox hg)|((with_reducible refine gd_ 2 ?_);refine bx_ (N:=2) #[.slice none 0 0, .slice none 0 0] 25 ?_;intro qu hg w4 hbox hb;have qj:=A_ (hbox);have oj1:=A_ ((g85_:w.heap.size<=qu));have lt3:=oj1;replace HB:=A_ (Jw (Fe.calls0_q0) hb);have jf4:=nl_ pa hg;have jf5:=nr_ pa hg;replace pa:=bb_ pa hb;clear hb hbox hg;have ev5:=jf4.out;have ev6:=jf5.out;obtain⟨ur,us,ut,uu⟩:=blk2_ pa)|((with_reducible refine gc_ 111 ?_);refine gl_ 8 Try.func111 #[.agg #[.slice af ab.length ac, .slice ah aa.length ag]] ?_;(refine(Fo.calls k _ _ ab _ _ aa di6 ar8 _ (uC_ bg) bw.out (uC_ bd) b4.out A2.out).mono ?_);rintro e w7 ⟨lt5,ij1,rfl,ai,ak,hb⟩;refine⟨_,rfl,?_⟩;have fk6:=A_ (Kd.R_lower (Kd.R_newM (M:=fun k_=>(w.heap.size<=k_)) ai (Je (Fe.calls0_q0)) (fun k_ h_=>h_)) (Je (Fe.calls0_q0)));have bq6:=A_ (Kd.S_lower (Kd.S_mono (ok':=fun k_=>(w.heap.size<=k_)/\some k_≠(lt5:Value).ownBlock/\k_≠tx/\k_≠qu) (id (Kd.S_bound ak)) (fun k_ hk_=>⟨(Nat.le_trans (Je (Fe.calls0_q0)) hk_.2.1),hk_.1,(Kd.freshB (g:=tx) (o:=.cells #[.slice af ab.length ac, .slice ah aa.length ag] 25 (0,0)) (uB_ pa) k_ hk_.2.1),(Kd.freshB (g:=qu) (o:=.cells #[.slice none 0 0, .slice none 0 0] 25 (0,0)) (uB_ qj) k_ hk_.2.1)⟩)) (Je (Fe.calls0_q0)));replace pa:=bb_ pa hb;replace qj:=bb_ qj hb;replace HB:=A_ (Jw (Fe.calls0_q0) hb))|((with_reducible refine gd_ 4 ?_);refine bx_ (N:=4) #[.slice none 0 0, .slice none 0 0] 25 ?_;intro oj hg w8 hbox hb;replace fk6:=rb_ fk6 hb;replace bq6:=A_ (Kd.S_below (Kd.S_elderB (uS_ bq6) oj (Nat.le_of_eq hg.symm)) hb);have ol:=A_ (hbox);have oj2:=A_ ((g85_:w.heap.size<=oj));have lt4:=oj2;replace HB:=A_ (Jw (Fe.calls0_q0) hb);have bs4:=nl_ pa hg;have ek0:=nr_ pa hg;replace pa:=bb_ pa hb;have bs5:=nl_ qj hg;have ek1:=nr_ qj hg;replace qj:=bb_ qj hb;clear hb hbox hg;obtain⟨g5,fw,eo9⟩:=Kd.R_slice fk6.out;subst eo9;have ct3:=ek0.out;have ct4:=bs4.out;have bg8:=ek1.out;have bg9:=bs5.out;obtain⟨vu,vv,vw,vx⟩:=blk2_ ol;obtain⟨jg,gx,bo8⟩:=Kd.S_slice bq6.out;subst bo8))
 go_loopg [5] k (fun kq v5 w'=>∃(ae:Int) (sf:List Int) (sg:List (List Int)) (fk7:Value) (gw1:Value),v5 = .int .i64 ae/\Jc (Fe.l0 kq ae sf sg=some (r1,r2,r3))/\Jc (kq<=k)/\Jc (Kd.R (Kd.int .i64) 3 w' w.heap.size (fun k_=>(w.heap.size<=k_)) fk7 sf)/\Jc (Kd.S (Kd.slice 3 (Kd.int .i64)) 22 w' w.heap.size (fun k_=>(w.heap.size<=k_)/\some k_≠(fk7:Value).ownBlock/\k_≠tx/\k_≠qu/\k_≠oj) gw1 sg)/\Jc (hc_ w' tx #[(.slice af ab.length ac),(.slice ah aa.length ag)] 25)/\Jc (hc_ w' qu #[(.slice none 0 0),(.slice none 0 0)] 25)/\Jc (hc_ w' oj #[fk7,gw1] 25)/\Jc (Below w.heap.size w w'))
 case atStart=>exact⟨(0),(di6),(ar8),(.slice g5 di6.length fw),(.slice jg ar8.length gx),(g3_),H',⟨Nat.le_refl _⟩,⟨ra_ fk6⟩,⟨sa_ bq6⟩,⟨ba_ pa⟩,⟨ba_ qj⟩,⟨ba_ ol⟩,⟨Fe.calls0_q0⟩⟩
 clear H'
 obtain⟨ae,sf,sg,fk7,gw1,rfl,HA,HK1,sh,th,pa,qj,ol,HB⟩:=hrel
 cases gk with
 | zero=>exact absurd HA.out (by simp[Fe.l0])
 | succ k1=>?_
 have H:=HA.out
 clear HA
 simp only[Fe.l0] at H
 obtain⟨tw,A14,H⟩:=bind_ H
 by_cases eu:(tw.length:Int)=0
 ·rw[if_pos eu] at H
  have pf:((tw.length:Int) == 0)=true:=beq_iff_eq.mpr eu
  have lt6:((tw.length:Int) != 0)=false:=bne_eq_false_iff_eq.mpr eu
  clear eu
  simp only[Option.some.injEq,Prod.mk.injEq] at H
  obtain⟨rfl,rfl,rfl⟩:=H
  have fd0:=ek0.out
  have fd1:=bs4.out
  have jf6:=ek1.out
  have jf7:=bs5.out
  obtain⟨ap7,ap8,ap9,aq0⟩:=blk2_ ol
  obtain⟨zd,ze,ba6⟩:=Kd.R_slice sh.out
  subst ba6
  obtain⟨bj7,bj8,ek2⟩:=Kd.S_slice th.out
  subst ek2
  go_wp2_with (first|((with_reducible refine gc_ 96 ?_);refine gl_ 12 Try.func96 #[.agg #[.slice zd sf.length ze, .slice bj7 sg.length bj8]] ?_;(refine(G4.calls k1 _ _ sf _ _ sg tw _ (cR_ sh) (lR_ sh) (cS_ th) (lS_ th) A14.out).mono ?_);rintro e w21 ⟨ie3,rfl,ai,hb⟩;refine⟨_,rfl,?_⟩;have ah7:=A_ (Kd.N_lower (Kd.N_mono (ok':=fun k_=>(w.heap.size<=k_)/\some k_≠(.slice zd sf.length ze:Value).ownBlock/\some k_≠(.slice bj7 sg.length bj8:Value).ownBlock/\k_≠tx/\k_≠qu/\k_≠oj) ai (fun k_ hk_=>⟨(Nat.le_trans (Je (Fe.calls0_q0)) hk_),(Kd.fresh' (Kd.R_lt (uR_ sh)) k_ hk_),(Kd.fresh' (Kd.S_lt (uS_ th)) k_ hk_),(Kd.freshB (g:=tx) (o:=.cells #[.slice af ab.length ac, .slice ah aa.length ag] 25 (0,0)) (uB_ pa) k_ hk_),(Kd.freshB (g:=qu) (o:=.cells #[.slice none 0 0, .slice none 0 0] 25 (0,0)) (uB_ qj) k_ hk_),(Kd.freshB (g:=oj) (o:=.cells #[.slice zd sf.length ze, .slice bj7 sg.length bj8] 25 (0,0)) (uB_ ol) k_ hk_)⟩)) (Je (Fe.calls0_q0)));replace sh:=rb_ sh hb;replace th:=A_ (Kd.S_elder' (uS_ th) (Kd.N_base (g103_)) hb);replace pa:=bb_ pa hb;replace qj:=bb_ qj hb;replace ol:=bb_ ol hb;replace HB:=A_ (Jw (Fe.calls0_q0) hb);obtain⟨iv,iw,ct6⟩:=Kd.N_slice ah7.out;subst ct6;obtain⟨bx4,bx5,bx6,bx7⟩:=blk2_ ol;have fd3:=jf5.out;have fd4:=jf4.out;obtain⟨fc4,fc5,fc6,fc7⟩:=blk2_ qj))
  refine bodyPost_ret (Jy rfl _ _ qu 25 #[.slice zd sf.length ze, .slice bj7 sg.length bj8] (0,0) _ rfl (ba_ qj) Try.underlying25 rfl (g1_)) rfl ?_
  exact⟨_,_,g4_,ra_ sh,sa_ th,Fe.calls0_q0⟩
 rw[if_neg eu] at H
 have pf:((tw.length:Int) == 0)=false:=beq_eq_false_iff_ne.mpr eu
 have lt6:((tw.length:Int) != 0)=true:=bne_iff_ne.mpr eu
 have oj3:¬ (tw=[]):=fun h_=>eu (by rw[h_];rfl)
 obtain⟨ou,H⟩:=pos_ H
 have co0:=decide_eq_true ou
 have oj4:decide (0 < tw.length)=true:=decide_eq_true (by omega)
 clear ou
 replace H:=Option.bind_eq_some_iff.mp H
 obtain⟨⟨di7,as0⟩,jf8,H⟩:=H
 try dsimp only at H
 have A27:=A_ jf8
 clear jf8
 have H':=A_ H
 clear H
 have dd6:=ek0.out
 have dd7:=bs4.out
 have dz3:=ek1.out
 have dz4:=bs5.out
 obtain⟨eu3,eu4,eu5,eu6⟩:=blk2_ ol
 obtain⟨bh,bf,cu3⟩:=Kd.R_slice sh.out
 subst cu3
 obtain⟨bu,bl,bh3⟩:=Kd.S_slice th.out
 subst bh3
 try go_wp2_with (first|((with_reducible refine gc_ 96 ?_);refine gl_ 12 Try.func96 #[.agg #[.slice bh sf.length bf, .slice bu sg.length bl]] ?_;(refine(G4.calls k1 _ _ sf _ _ sg tw _ (cR_ sh) (lR_ sh) (cS_ th) (lS_ th) A14.out).mono ?_);rintro e w33 ⟨ie3,rfl,ai,hb⟩;refine⟨_,rfl,?_⟩;have ah7:=A_ (Kd.N_lower (Kd.N_mono (ok':=fun k_=>(w.heap.size<=k_)/\some k_≠(.slice bh sf.length bf:Value).ownBlock/\some k_≠(.slice bu sg.length bl:Value).ownBlock/\k_≠tx/\k_≠qu/\k_≠oj) ai (fun k_ hk_=>⟨(Nat.le_trans (Je (Fe.calls0_q0)) hk_),(Kd.fresh' (Kd.R_lt (uR_ sh)) k_ hk_),(Kd.fresh' (Kd.S_lt (uS_ th)) k_ hk_),(Kd.freshB (g:=tx) (o:=.cells #[.slice af ab.length ac, .slice ah aa.length ag] 25 (0,0)) (uB_ pa) k_ hk_),(Kd.freshB (g:=qu) (o:=.cells #[.slice none 0 0, .slice none 0 0] 25 (0,0)) (uB_ qj) k_ hk_),(Kd.freshB (g:=oj) (o:=.cells #[.slice bh sf.length bf, .slice bu sg.length bl] 25 (0,0)) (uB_ ol) k_ hk_)⟩)) (Je (Fe.calls0_q0)));replace sh:=rb_ sh hb;replace th:=A_ (Kd.S_elder' (uS_ th) (Kd.N_base (g103_)) hb);replace pa:=bb_ pa hb;replace qj:=bb_ qj hb;replace ol:=bb_ ol hb;replace HB:=A_ (Jw (Fe.calls0_q0) hb);obtain⟨oq,n0,cn8⟩:=Kd.N_slice ah7.out;subst cn8))
 replace sh:=rd_ sh
 replace th:=sd_ th
 replace ah7:=nd_ ah7
 replace pa:=bd_ pa
 replace qj:=bd_ qj
 replace ol:=bd_ ol
 replace HB:=A_ (Ji HB.out)
 have ar3:0<=(0:Int):=(by omega)
 have ar4:0 < (tw.length:Int):=od_
 obtain⟨eb9,jf9,jg0,ec0,cq7,jg1,jg2⟩:=at_L1 (Kd.N_reads' ah7.out).2.2 0 ar3 ar4
 cases ec0
 obtain⟨ce297,hce297,hMe297,hcc297⟩:=Kd.N_get ah7.out [] 0 ar3 (by first|exact ar4|exact od_|(have e_:=(Kd.N_reads' ah7.out).1;omega))
 obtain⟨ua297_0,uc297_0,rfl,ul297_0,ge297_0⟩:=Kd.FK_slice_open hMe297
 have hv297_0:=hcc297 0 _ rfl
 rw[Nat.add_zero,show((Kd.slice 3 (Kd.int .i64))).sz=1 from rfl,Nat.mul_one] at hv297_0
 replace hv297_0:=Option.some.inj (hv297_0.symm.trans cq7)
 injection hv297_0 with hva_ hvn_ hvc_
 rw[hva_] at ge297_0
 rw[hvc_] at ul297_0
 have gw2:=A_ (show Kd.V (Kd.int .i64) 3 _ w.heap.size _ _ (Jr tw 0) from Kd.V_mk ul297_0 ge297_0)
 clear hva_ hvn_ hvc_ ge297_0 ul297_0
 clear hcc297 hce297
 have qi297:(0 < tw.length)=True:=eq_true (by omega)
 (try rw[show((0:Int)).toNat=0 from rfl] at cq7)
 (try rw[Addr.add_zero'] at cq7)
 have di8:=A_ jg2
 have lt7:=A_ jg1
 clear jg2 jg1
 replace ar3:=eq_true ar3
 replace ar4:=eq_true ar4
 refine start_ (n:=6) (S:=fun w'=>w'.cell? ⟨oj,0,none⟩=some (.slice bh sf.length bf)/\w'.cell? ⟨oj,1,none⟩=some (.slice bu sg.length bl)/\w'.cell? eb9=some (.slice jf9 (Jr tw 0).length jg0)) (ds:=[5]) (tl_ 6 0) (g1_) rfl (g1_) ⟨(Jd ol.out 0).trans rfl,(Jd ol.out 1).trans rfl,cq7⟩ (fun hHeld=>?_)
 generalize w33.drew=w35 at sh th ah7 pa qj ol HB gw2 di8 cq7 hHeld |-
 refine pure_ (i:=1) (N:=some 19) (v:=?_) (a':=?_) (tl_ 6 2) rfl rfl (g1_) (fun _ _ _ h=>h) (Or.inl ⟨by rfl,?_⟩) ?_ ?_
 rotate_left
 ·intro w'
  go_simp
  with_reducible rfl
 rotate_left
 · exact sp_
 refine pure_ (i:=2) (N:=some 20) (v:=?_) (a':=?_) (tl_ 6 6) rfl rfl (g1_) (fun _ _ _ h=>h) (Or.inl ⟨by rfl,?_⟩) ?_ ?_
 rotate_left
 ·intro w'
  go_simp
  with_reducible rfl
 rotate_left
 · exact sp_
 refine take_ (i:=0) (N:=some 18) (v:=?_) (a':=?_) (tl_ 6 7) rfl rfl (g1_) (fun _ _ _ h=>h) (Or.inl ⟨by rfl,?_⟩) hHeld ?_ ?_
 rotate_left
 ·rintro w' ⟨s0,s1,s2⟩
  go_simp
  with_reducible rfl
 rotate_left
 · exact sp_
 refine take_ (i:=3) (N:=some 21) (v:=?_) (a':=?_) (tl_ 6 15) rfl rfl (g1_) (fun _ _ _ h=>h) (Or.inl ⟨by rfl,?_⟩) hHeld ?_ ?_
 rotate_left
 ·rintro w' ⟨s0,s1,s2⟩
  go_simp
  with_reducible rfl
 rotate_left
 · exact sp_
 refine one_ (i:=4) (N:=some 22) (tl_ 6 31) rfl rfl (g1_) (by decide) (fun K hK=>?_)
 refine goes_ Try.func97 (g1_) rfl #[.agg #[.slice bh sf.length bf, .slice bu sg.length bl], .slice jf9 (Jr tw 0).length jg0] (by rfl) rfl rfl (gM_) ?_
 with_reducible refine(Fk.calls k1 _ _ sf _ _ sg _ _ (Jr tw 0) di7 as0 _ ?side1 ?side2 ?side3 ?side4 ?side5 ?side6 A27.out).mono ?_
 (case side1=>exact cR_ sh)
 (case side2=>exact lR_ sh)
 (case side3=>exact cS_ th)
 (case side4=>exact lS_ th)
 (case side5=>repeat(first|exact(by repeat(first|(with_reducible exact di8.out)|(with_reducible refine Kd.C_alloc ?_ _)|(with_reducible refine Kd.C_drewN ?_ _)|(with_reducible refine Kd.C_drew ?_)|exact di8.out))|(with_reducible refine Kd.C_alloc ?_ _)|(with_reducible refine Kd.C_drewN ?_ _)|(with_reducible refine Kd.C_drew ?_)))
 (case side6=>exact lt7.out)
 rintro e kt ⟨lt8,ij9,rfl,ai,ak,hb⟩
 have HS2_:=(hb.cell (World.block_lt_of_cell? _ _ (hHeld.2.2))).trans (hHeld.2.2)
 refine⟨_,rfl,?_⟩
 replace gw2:=A_ (Kd.V_mono (Kd.V_told (Kd.V_told (Kd.V_old (uV_ gw2) hb) (Kd.R_base ai)) (Kd.S_base (g72_))) (fun _ h_=>h_.1))
 have jg3:=A_ (Kd.R_lower (Kd.R_new' (Kd.R_newM (M:=fun k_=>(w.heap.size<=k_)) ai (Je (Fe.calls0_q0)) (fun k_ h_=>h_)) (Kd.R_lt (uR_ sh))) (Je (Fe.calls0_q0)))
 have ee6:=A_ (Kd.S_lower (Kd.S_mono (ok':=fun k_=>(w.heap.size<=k_)/\some k_≠(lt8:Value).ownBlock/\some k_≠(.slice bh sf.length bf:Value).ownBlock/\some k_≠(.slice bu sg.length bl:Value).ownBlock/\some k_≠(.slice (some eb9) tw.length n0:Value).ownBlock/\k_≠tx/\k_≠qu/\k_≠oj) (id (Kd.S_bound ak)) (fun k_ hk_=>⟨(Nat.le_trans (Je (Fe.calls0_q0)) hk_.2.1),hk_.1,(Kd.fresh' (Kd.R_lt (uR_ sh)) k_ hk_.2.1),(Kd.fresh' (Kd.S_lt (uS_ th)) k_ hk_.2.1),(Kd.fresh' (Kd.N_lt (uN_ ah7)) k_ hk_.2.1),(Kd.freshB (g:=tx) (o:=.cells #[.slice af ab.length ac, .slice ah aa.length ag] 25 (0,0)) (uB_ pa) k_ hk_.2.1),(Kd.freshB (g:=qu) (o:=.cells #[.slice none 0 0, .slice none 0 0] 25 (0,0)) (uB_ qj) k_ hk_.2.1),(Kd.freshB (g:=oj) (o:=.cells #[.slice bh sf.length bf, .slice bu sg.length bl] 25 (0,0)) (uB_ ol) k_ hk_.2.1)⟩)) (Je (Fe.calls0_q0)))
 replace sh:=A_ (Kd.R_elder' (uR_ sh) (Kd.R_base ai) hb)
 replace th:=A_ (Kd.S_mono (Kd.S_told (Kd.S_told (Kd.S_old (uS_ th) hb) (Kd.R_base ai)) (Kd.S_base (g72_))) (fun _ h_=>h_.1))
 replace ah7:=A_ (Kd.N_mono (Kd.N_told (Kd.N_told (Kd.N_old (uN_ ah7) hb) (Kd.R_base ai)) (Kd.S_base (g72_))) (fun _ h_=>h_.1))
 replace pa:=bb_ pa hb
 replace qj:=bb_ qj hb
 replace ol:=bb_ ol hb
 replace di8:=A_ (Kd.C_below (by repeat(first|(with_reducible exact di8.out)|(with_reducible refine Kd.C_alloc ?_ _)|(with_reducible refine Kd.C_drewN ?_ _)|(with_reducible refine Kd.C_drew ?_)|exact di8.out)) hb)
 replace HB:=A_ (Jw (Fe.calls0_q0) hb)
 obtain⟨nn,m8,di9⟩:=Kd.R_slice jg3.out
 (first|subst di9|(injection di9 with f1_ f2_ f3_;have f4_:=f1_.symm;have f5_:=f3_.symm;clear f1_ f2_ f3_;subst f4_;subst f5_))
 obtain⟨ai0,zf,am7⟩:=Kd.S_slice ee6.out
 (first|subst am7|(injection am7 with f1_ f2_ f3_;have f4_:=f1_.symm;have f5_:=f3_.symm;clear f1_ f2_ f3_;subst f4_;subst f5_))
 refine hK.out _ _ ⟨(Jd ol.out 0).trans rfl,(Jd ol.out 1).trans rfl,HS2_⟩ (fun hHeld=>?_)
 clear hK K
 refine nm_ ?_
 refine last_ (i:=5) (N:=none) (tl_ 6 63) rfl rfl (g1_) (by decide) (fun K hK=>?_)
 have oj5:kt.cell? ⟨oj,0,none⟩=some (.slice bh sf.length bf):=(Jd ol.out 0).trans rfl
 have oj6:=Jo ol.out 0
 have lt9:kt.cell? ⟨oj,1,none⟩=some (.slice bu sg.length bl):=(Jd ol.out 1).trans rfl
 have lu0:=Jo ol.out 1
 refine skip_ (w1:=?_) (by rfl) rfl ?_ ?_
 rotate_left
 ·go_simp
  rfl
 refine hK.out _ _ ?_
 clear hK K
 refine done_ (g1_) ?_
 try go_wp2
 go_roundg k1
 case measure=>have:=HK1.out;omega
 case rel=>exact⟨(wrap64 (ae + 1)),(di7),(as0),(.slice nn di7.length m8),(.slice ai0 as0.length zf),(g3_),H',⟨g8_⟩,⟨ra_ jg3⟩,⟨sa_ ee6⟩,⟨ba_ pa⟩,⟨ba_ qj⟩,⟨ba_ ol⟩,⟨Fe.calls0_q0⟩⟩
theorem Fe.calls (k:Nat) (af:Option Addr) (ac:Nat) (ab:List Int) (ah:Option Addr) (ag:Nat) (aa:List (List Int)) (r1:List Int) (r2:List (List Int)) (r3:Int) (w:World) (cb:Kd.C (Kd.int .i64) w af ab.length ab) (cg:ab.length<=ac) (cc:Kd.C (Kd.slice 3 (Kd.int .i64)) w ah aa.length aa) (ch:aa.length<=ag) (h:Fe.f k ab aa=some (r1,r2,r3)) :
  Calls Try.prog 99 #[.agg #[.slice af ab.length ac, .slice ah aa.length ag]] w fun e w'=>∃v0_ v1_:Value,e = .returned (.tuple #[.agg #[v0_,v1_], .int .i64 r3])/\Kd.R (Kd.int .i64) 3 w' w.heap.size (fun _=>True) v0_ r1/\Kd.S (Kd.slice 3 (Kd.int .i64)) 22 w' w.heap.size (fun k_=>some k_≠(v0_:Value).ownBlock) v1_ r2/\Below w.heap.size w w':=by
 refine(Fe.calls0 k af ac ab ah ag aa r1 r2 r3 w cb cg cc ch h).mono ?_
 rintro e w' ⟨v0_,v1_,he,h0,h1,hb⟩
 exact⟨v0_,v1_,he,Kd.R_mono h0 (fun _ _=>trivial),Kd.S_mono h1 (fun _ h_=>h_.2),hb⟩
attribute [local go_sem high] eqA69
mutual
def Fq.j0:Nat->Bool->List Int->List (List Int)->Int->Int->Int->Int->Option (List Int × (List (List Int)) × Bool)
 | 0,_,_,_,_,_,_,_=>none
 | k + 1,x10,bc8,bc9,cf5,ad3,at9,bs6=>if x10=true then((G8.f k bc8 bc9 ad3 bs6).bind fun bt489=>((Fi.f k bt489.1 bt489.2).bind fun gw3=>(some (bt489.1,bt489.2,gw3)))) else(if cf5=1 then((Gt.f k bc8 bc9 ad3).bind fun gw4=>(if gw4=true then((Gt.f k bc8 bc9 at9).bind fun gw5=>(if gw5=true then(Fq.j1 k (ad3 != at9) bc8 bc9 cf5 ad3 at9 bs6) else(Fq.j1 k false bc8 bc9 cf5 ad3 at9 bs6))) else(Fq.j1 k false bc8 bc9 cf5 ad3 at9 bs6))) else(Fq.j1 k false bc8 bc9 cf5 ad3 at9 bs6))
def Fq.j1:Nat->Bool->List Int->List (List Int)->Int->Int->Int->Int->Option (List Int × (List (List Int)) × Bool)
 | 0,_,_,_,_,_,_,_=>none
 | k + 1,x34,bc8,bc9,cf5,ad3,at9,bs6=>if x34=true then((Fo.f k bc8 bc9).bind fun bt499=>(if 0<=ad3 then(if ad3 < (bt499.2.length:Int) then(if 0<=at9 then(if at9 < ((Jr bt499.2 ad3).length:Int) then((some (bt499.2.set (ad3:Int).toNat ((Jr bt499.2 ad3).set (at9:Int).toNat bs6):List (List Int))).bind fun ao0=>((Fi.f k bt499.1 ao0).bind fun cv0=>(some (bt499.1,ao0,cv0)))) else(none)) else(none)) else(none)) else(none))) else(if (cf5 == 2 && (ad3 == 0 && (at9 == 0 && (bs6 == 0))))=true then((Fu.f k bc8 bc9).bind fun bt511=>(some (bt511.1,bt511.2,true))) else(if (cf5 == 3 && (ad3 == 0 && (at9 == 0 && (bs6 == 0))))=true then((Fe.f k bc8 bc9).bind fun bt517=>(some (bt517.1,bt517.2.1,true))) else(some (([]:List Int),([]:List (List Int)),false))))
end
def Fq.f (k:Nat) (ab:List Int) (aa:List (List Int)) (aq:Int) (am:Int) (an:Int) (ao:Int):Option (List Int × (List (List Int)) × Bool):=if aq=0 then(if an=0 then((Gt.f k ab aa am).bind fun dj0=>(Fq.j0 k dj0 ab aa aq am an ao)) else(Fq.j0 k false ab aa aq am an ao)) else(Fq.j0 k false ab aa aq am an ao)
def Fq.T6:Bool × List (List Nat × List Nat):=(true,[([],[]),([0],[0]),([],[]),([2],[2]),([1,3],[1,3]),([4],[4]),([],[]),([6],[6]),([],[]),([8],[8]),([5,7,0,1,2,3,4,5,6,7,8,9],[5,7]),([10,9,0,1,2,3,4,5,6,7,8,9],[9,10])])
def Fq.B6:List Nat:=[0,1,0,4,15,31,0,64,0,256,1023,2047]
theorem Fq.tab6:rtab .any (opsOf Try.f123 6)=Fq.T6:=by kernel_rfl
theorem Fq.bits6:waitsOk Fq.T6.2 Fq.B6=true:=by kernel_rfl
theorem ke {p:Prop} (h:p:=by repeat(first|(with_reducible first|exact HB.out|apply Jk|apply Jj|apply Ji|refine Jh ?_ lu5.out|refine Jh ?_ lu6.out|refine Jh ?_ lu7.out|refine Jh ?_ lu8.out|refine Jh ?_ lu9.out|refine Jh ?_ GB83.out|refine Jh ?_ lv0.out)|exact HB.out)):p:=h
set_option maxHeartbeats 8000000 in
set_option maxRecDepth 100000 in
theorem Fq.calls (k:Nat) (af:Option Addr) (ac:Nat) (ab:List Int) (ah:Option Addr) (ag:Nat) (aa:List (List Int)) (aq:Int) (am:Int) (an:Int) (ao:Int) (r1:List Int) (r2:List (List Int)) (r3:Bool) (w:World) (cb:Kd.C (Kd.int .i64) w af ab.length ab) (cg:ab.length<=ac) (cc:Kd.C (Kd.slice 3 (Kd.int .i64)) w ah aa.length aa) (ch:aa.length<=ag) (h:Fq.f k ab aa aq am an ao=some (r1,r2,r3)) :
  Calls Try.prog 123 #[.agg #[.slice af ab.length ac, .slice ah aa.length ag], .agg #[.int .i64 aq, .int .i64 am, .int .i64 an, .int .i64 ao]] w fun e w'=>∃v0_ v1_:Value,e = .returned (.tuple #[.agg #[v0_,v1_], .bool r3])/\Kd.R (Kd.int .i64) 3 w' w.heap.size (fun _=>True) v0_ r1/\Kd.S (Kd.slice 3 (Kd.int .i64)) 22 w' w.heap.size (fun k_=>some k_≠(v0_:Value).ownBlock) v1_ r2/\Below w.heap.size w w':=by
 have hu25:=Try.underlying25
 have hu69:=Try.underlying69
 have bg:=A_ cb
 have bw:=A_ cg
 clear cb cg
 have bd:=A_ cc
 have b4:=A_ ch
 clear cc ch
 have HB:=A_ (Below.refl w.heap.size w)
 have H:=h
 unfold Fq.f at H
 clear h
 have HC3:=A_ H
 clear H
 go_enter Try.func123,Try.ntmps123
 go_upto_region 1 with(first|((with_reducible refine gd_ 2 ?_);refine bx_ (N:=2) #[.slice af ab.length ac, .slice ah aa.length ag] 25 ?_;intro ve hg w4 hbox hb;have fi:=A_ (hbox);have ok1:=A_ ((g26_:w.heap.size<=ve));have lu5:=ok1;replace HB:=hs_ (ke) hb;clear hb hbox hg)|((with_reducible refine gd_ 3 ?_);refine bx_ (N:=3) #[.int .i64 aq, .int .i64 am, .int .i64 an, .int .i64 ao] 69 ?_;intro ri hg w5 hbox hb;have e6:=A_ (hbox);have ok2:=A_ ((g26_:w.heap.size<=ri));have lu6:=ok2;replace HB:=hs_ (ke) hb;have au0:=nl_ fi hg;have au1:=nr_ fi hg;replace fi:=bb_ fi hb;clear hb hbox hg)|((with_reducible refine gd_ 4 ?_);refine bx_ (N:=4) #[.slice none 0 0, .slice none 0 0] 25 ?_;intro jw hg w6 hbox hb;have es:=A_ (hbox);have ok3:=A_ ((g26_:w.heap.size<=jw));have lu7:=ok3;replace HB:=hs_ (ke) hb;have ao1:=nl_ fi hg;have ao2:=nr_ fi hg;replace fi:=bb_ fi hb;have ad4:=nl_ e6 hg;have ad5:=nr_ e6 hg;replace e6:=bb_ e6 hb;clear hb hbox hg))
 (try simp only[Act.put,List.setIfInBounds_toArray,List.set_cons_zero,List.set_cons_succ])
 go_cut [10] (fun v10 wc=>∃(kq:Nat) (fk8:Bool),v10 = .bool fk8/\Jc (Fq.j0 kq fk8 ab aa aq am an ao=some (r1,r2,r3))/\Jc (kq<=k)/\Jc (hc_ wc ve #[(.slice af ab.length ac),(.slice ah aa.length ag)] 25)/\Jc (hc_ wc ri #[.int .i64 aq, .int .i64 am, .int .i64 an, .int .i64 ao] 69)/\Jc (hc_ wc jw #[(.slice none 0 0),(.slice none 0 0)] 25)/\Jc (Below w.heap.size w wc))
 case first=>
  have H:=HC3.out
  clear HC3
  by_cases c7:aq=0
  case neg=>
   rw[if_neg c7] at H
   have pz:(aq == 0)=false:=beq_eq_false_iff_ne.mpr c7
   have bn8:(aq != 0)=true:=bne_iff_ne.mpr c7
   (first|rw[pz]|(simp only[i64_w,i32_w];rw[pz])|skip)
   have H':=A_ H
   clear H
   have bx0:=au1.out
   have bx1:=au0.out
   have dc8:=ad4.out
   have dc9:=ad5.out
   obtain⟨uh,ui,az4,gw6,uj,uk,az5,gw7⟩:=blk4_ e6
   go_wp2
   go_meet
   case rel=>exact⟨_,(false),(g3_),H',⟨g9_⟩,⟨uB_ fi⟩,⟨uB_ e6⟩,⟨uB_ es⟩,⟨ke⟩⟩
  rw[if_pos c7] at H
  have pz:(aq == 0)=true:=beq_iff_eq.mpr c7
  have bn8:(aq != 0)=false:=bne_eq_false_iff_eq.mpr c7
  clear c7
  (first|rw[pz]|(simp only[i64_w,i32_w];rw[pz])|skip)
  by_cases c8:an=0
  ·rw[if_pos c8] at H
   have xf:(an == 0)=true:=beq_iff_eq.mpr c8
   have cd3:(an != 0)=false:=bne_eq_false_iff_eq.mpr c8
   clear c8
   obtain⟨dj0,A9,H⟩:=bind_ H
   have H':=A_ H
   clear H
   have ct3:=au1.out
   have ct4:=au0.out
   have bg8:=ad4.out
   have bg9:=ad5.out
   obtain⟨vu,vv,bb6,jg4,vw,vx,bb7,jg5⟩:=blk4_ e6
   have ga6:=ao1.out
   have ga7:=ao2.out
   obtain⟨um,un,uo,uq⟩:=blk2_ fi
   go_wp2_with (first|(go_at_call 83;(refine(Gt.calls k _ _ ab _ _ aa am dj0 _ (uC_ bg) bw.out (uC_ bd) b4.out A9.out).mono ?_);rintro e rq ⟨rfl,hb⟩;replace fi:=bb_ fi hb;replace e6:=bb_ e6 hb;replace es:=bb_ es hb;replace HB:=hs_ (ke) hb))
   go_meet
   case rel=>exact⟨_,(dj0),(g3_),H',⟨g9_⟩,⟨uB_ fi⟩,⟨uB_ e6⟩,⟨uB_ es⟩,⟨ke⟩⟩
  rw[if_neg c8] at H
  have xf:(an == 0)=false:=beq_eq_false_iff_ne.mpr c8
  have cd3:(an != 0)=true:=bne_iff_ne.mpr c8
  have H':=A_ H
  clear H
  have fd0:=au1.out
  have fd1:=au0.out
  have jf6:=ad4.out
  have jf7:=ad5.out
  obtain⟨ap7,ap8,cl0,jg6,ap9,aq0,cl1,jg7⟩:=blk4_ e6
  go_wp2
  go_meet
  case rel=>exact⟨_,(false),(g3_),H',⟨g9_⟩,⟨uB_ fi⟩,⟨uB_ e6⟩,⟨uB_ es⟩,⟨ke⟩⟩
 clear HC3
 obtain⟨kq,fk8,rfl,HA,HJ2,fi,e6,es,HB⟩:=hcut
 cases kq with
 | zero=>exact absurd HA.out (by simp[Fq.j0])
 | succ kj2=>?_
 have H:=HA.out
 clear HA
 simp only[Fq.j0] at H
 by_cases lf:fk8=true
 ·subst lf
  replace H:=ifp_ H
  replace H:=Option.bind_eq_some_iff.mp H
  obtain⟨⟨rj,ty⟩,jg8,H⟩:=H
  try dsimp only at H
  have A23:=A_ jg8
  clear jg8
  obtain⟨gw3,A24,H⟩:=bind_ H
  simp only[Option.some.injEq,Prod.mk.injEq] at H
  obtain⟨rfl,rfl,rfl⟩:=H
  have gm9:=au0.out
  have gn0:=au1.out
  have gm1:=ao1.out
  have gm2:=ao2.out
  obtain⟨df4,df5,df6,df7⟩:=blk2_ fi
  have dd6:=ad4.out
  have dd7:=ad5.out
  obtain⟨db6,db7,fs1,lv1,db8,db9,fs2,lv2⟩:=blk4_ e6
  try go_wp2_with (first|((with_reducible refine gc_ 84 ?_);refine gl_ 30 Try.func84 #[.agg #[.slice af ab.length ac, .slice ah aa.length ag], .int .i64 am, .int .i64 ao] ?_;(refine(G8.calls kj2 _ _ ab _ _ aa am ao rj ty _ (uC_ bg) bw.out (uC_ bd) b4.out A23.out).mono ?_);rintro e px ⟨ok4,ok5,rfl,ai,ak,hb⟩;refine⟨_,rfl,?_⟩;have aj4:=A_ (Kd.R_lower ai (Je (ke)));have aj5:=A_ (Kd.S_lower ak (Je (ke)));replace fi:=bb_ fi hb;replace e6:=bb_ e6 hb;replace es:=bb_ es hb;replace HB:=hs_ (ke) hb)|((with_reducible refine gd_ 6 ?_);refine bx_ (N:=6) #[.slice none 0 0, .slice none 0 0] 25 ?_;intro m9 hg w31 hbox hb;replace aj4:=rb_ aj4 hb;replace aj5:=sb_ aj5 hb;have ad6:=A_ (hbox);have ok6:=A_ ((g26_:w.heap.size<=m9));have lu8:=ok6;replace HB:=hs_ (ke) hb;have gw8:=nl_ fi hg;have lv3:=nr_ fi hg;replace fi:=bb_ fi hb;have gw9:=nl_ e6 hg;have lv4:=nr_ e6 hg;replace e6:=bb_ e6 hb;have ek3:=nl_ es hg;have cv1:=nr_ es hg;replace es:=bb_ es hb;clear hb hbox hg;obtain⟨bu,bl,bh3⟩:=Kd.R_slice aj4.out;subst bh3;have ca5:=lv3.out;have ca6:=gw8.out;have eg5:=lv4.out;have eg6:=gw9.out;have ok7:=cv1.out;have ok8:=ek3.out;obtain⟨lv5,lv6,lv7,lv8⟩:=blk2_ ad6;obtain⟨nn,m8,di9⟩:=Kd.S_slice aj5.out;subst di9))
  have n0_:Jc (Kd.R (Kd.int .i64) 3 ((w31.setCell ⟨m9,0,none⟩ (.slice bu rj.length bl)).setCell ⟨m9,1,none⟩ (.slice nn ty.length m8)) w.heap.size (fun _=>True) (.slice bu rj.length bl) rj):=⟨ra_ aj4⟩
  have n1_:Jc (Kd.S (Kd.slice 3 (Kd.int .i64)) 22 ((w31.setCell ⟨m9,0,none⟩ (.slice bu rj.length bl)).setCell ⟨m9,1,none⟩ (.slice nn ty.length m8)) w.heap.size (fun k_=>some k_≠(.slice bu rj.length bl:Value).ownBlock) (.slice nn ty.length m8) ty):=⟨sa_ aj5⟩
  have n2_:Jc (((w31.setCell ⟨m9,0,none⟩ (.slice bu rj.length bl)).setCell ⟨m9,1,none⟩ (.slice nn ty.length m8)).heap[ve]? = some (.cells #[.slice af ab.length ac, .slice ah aa.length ag] 25 (0,0))):=⟨ba_ fi⟩
  have n3_:Jc (((w31.setCell ⟨m9,0,none⟩ (.slice bu rj.length bl)).setCell ⟨m9,1,none⟩ (.slice nn ty.length m8)).heap[ri]? = some (.cells #[.int .i64 aq, .int .i64 am, .int .i64 an, .int .i64 ao] 69 (0,0))):=⟨ba_ e6⟩
  have n4_:Jc (((w31.setCell ⟨m9,0,none⟩ (.slice bu rj.length bl)).setCell ⟨m9,1,none⟩ (.slice nn ty.length m8)).heap[jw]? = some (.cells #[.slice none 0 0, .slice none 0 0] 25 (0,0))):=⟨ba_ es⟩
  have n5_:Jc (((w31.setCell ⟨m9,0,none⟩ (.slice bu rj.length bl)).setCell ⟨m9,1,none⟩ (.slice nn ty.length m8)).heap[m9]? = some (.cells #[.slice bu rj.length bl, .slice nn ty.length m8] 25 (0,0))):=⟨ba_ ad6⟩
  have n6_:Jc (Below w.heap.size w ((w31.setCell ⟨m9,0,none⟩ (.slice bu rj.length bl)).setCell ⟨m9,1,none⟩ (.slice nn ty.length m8))):=⟨ke⟩
  generalize ((w31.setCell ⟨m9,0,none⟩ (.slice bu rj.length bl)).setCell ⟨m9,1,none⟩ (.slice nn ty.length m8))=lh at n0_ n1_ n2_ n3_ n4_ n5_ n6_ |-
  have aj4:=n0_
  have aj5:=n1_
  have fi:=n2_
  have e6:=n3_
  have es:=n4_
  have ad6:=n5_
  have HB:=n6_
  clear n0_ n1_ n2_ n3_ n4_ n5_ n6_
  replace aj4:=rd_ aj4
  replace aj5:=sd_ aj5
  replace fi:=bd_ fi
  replace e6:=bd_ e6
  replace es:=bd_ es
  replace ad6:=bd_ ad6
  replace HB:=A_ (Ji HB.out)
  refine start_ (n:=5) (S:=fun w'=>w'.cell? ⟨m9,0,none⟩=some (.slice bu rj.length bl)/\w'.cell? ⟨m9,1,none⟩=some (.slice nn ty.length m8)) (ds:=[]) (tl_ 5 0) (g1_) rfl (g1_) ⟨(Jd ad6.out 0).trans rfl,(Jd ad6.out 1).trans rfl⟩ (fun hHeld=>?_)
  generalize lh.drew=w39 at aj4 aj5 fi e6 es ad6 HB hHeld |-
  refine take_ (i:=0) (N:=some 31) (v:=?_) (a':=?_) (tl_ 5 1) rfl rfl (g1_) (fun _ _ _ h=>h) (Or.inl ⟨by rfl,?_⟩) hHeld ?_ ?_
  rotate_left
  ·rintro w' ⟨s0,s1⟩
   go_simp
   with_reducible rfl
  rotate_left
  · exact sp_
  refine take_ (i:=1) (N:=some 32) (v:=?_) (a':=?_) (tl_ 5 3) rfl rfl (g1_) (fun _ _ _ h=>h) (Or.inl ⟨by rfl,?_⟩) hHeld ?_ ?_
  rotate_left
  ·rintro w' ⟨s0,s1⟩
   go_simp
   with_reducible rfl
  rotate_left
  · exact sp_
  refine one_ (i:=2) (N:=some 33) (tl_ 5 7) rfl rfl (g1_) (by decide) (fun K hK=>?_)
  refine goes_ Try.func73 (g1_) rfl #[.agg #[.slice bu rj.length bl, .slice nn ty.length m8]] (by rfl) rfl rfl (gM_) ?_
  refine(Fi.calls kj2 _ _ rj _ _ ty gw3 _ (cR_ aj4) (lR_ aj4) (cS_ aj5) (lS_ aj5) A24.out).mono ?_
  rintro e o5 ⟨rfl,hb⟩
  refine⟨_,rfl,?_⟩
  replace aj4:=rb_ aj4 hb
  replace aj5:=sb_ aj5 hb
  replace fi:=bb_ fi hb
  replace e6:=bb_ e6 hb
  replace es:=bb_ es hb
  replace ad6:=bb_ ad6 hb
  replace HB:=hs_ (ke) hb
  refine hK.out _ _ ⟨(Jd ad6.out 0).trans rfl,(Jd ad6.out 1).trans rfl⟩ (fun hHeld=>?_)
  clear hK K
  refine nm_ ?_
  refine one_ (i:=3) (N:=none) (tl_ 5 15) rfl rfl (g1_) (by decide) (fun K hK=>?_)
  have ok9:o5.cell? ⟨jw,0,none⟩=some (.slice none 0 0):=(Jd es.out 0).trans rfl
  have ol0:=Jo es.out 0
  have ol3:=cv1.out
  have ol6:=ek3.out
  have ik1:o5.cell? ⟨jw,1,none⟩=some (.slice none 0 0):=(Jd es.out 1).trans rfl
  have ik2:=Jo es.out 1
  refine skip_ (w1:=?_) (by rfl) rfl ?_ ?_
  rotate_left
  ·go_simp
   rfl
  refine hK.out _ _ ⟨(cf_ cv1 ((cf_ cv1 (hHeld.1)))),(cf_ cv1 ((cf_ cv1 (hHeld.2))))⟩ (fun hHeld=>?_)
  clear hK K
  refine pure_ (i:=4) (N:=some 5) (v:=?_) (a':=?_) (tl_ 5 31) rfl rfl (g1_) (fun _ _ _ h=>h) (Or.inl ⟨by rfl,?_⟩) ?_ ?_
  rotate_left
  ·intro w'
   go_simp
   with_reducible rfl
  rotate_left
  · exact sp_
  refine done_ (g1_) ?_
  try go_wp2
  refine bodyPost_ret (Jy rfl _ _ jw 25 #[.slice bu rj.length bl, .slice nn ty.length m8] (0,0) _ rfl (ba_ es) Try.underlying25 rfl (g1_)) rfl ?_
  exact⟨_,_,g4_,ra_ aj4,sa_ aj5,ke⟩
 replace lf:=Bool.eq_false_iff.mpr lf
 subst lf
 replace H:=ifn_ H
 have gx0:=A_ H
 clear H
 go_upto_region 4 with(fail)
 go_cut [34] (fun v34 wc=>∃(kq:Nat) (fk9:Bool),v34 = .bool fk9/\Jc (Fq.j1 kq fk9 ab aa aq am an ao=some (r1,r2,r3))/\Jc (kq<=kj2)/\Jc (hc_ wc ve #[(.slice af ab.length ac),(.slice ah aa.length ag)] 25)/\Jc (hc_ wc ri #[.int .i64 aq, .int .i64 am, .int .i64 an, .int .i64 ao] 69)/\Jc (hc_ wc jw #[(.slice none 0 0),(.slice none 0 0)] 25)/\Jc (Below w.heap.size w wc))
 case first=>
  have H:=gx0.out
  clear gx0
  by_cases c44:aq=1
  case neg=>
   rw[if_neg c44] at H
   have dj1:(aq == 1)=false:=beq_eq_false_iff_ne.mpr c44
   have jg9:(aq != 1)=true:=bne_iff_ne.mpr c44
   (first|rw[dj1]|(simp only[i64_w,i32_w];rw[dj1])|skip)
   have H':=A_ H
   clear H
   have fe0:=au1.out
   have fe1:=au0.out
   have io4:=ad4.out
   have io5:=ad5.out
   obtain⟨dj8,dj9,dk0,ly5,dk1,dk2,dk3,ly6⟩:=blk4_ e6
   go_wp2
   go_meet
   case rel=>exact⟨_,(false),(g3_),H',⟨g114_⟩,⟨uB_ fi⟩,⟨uB_ e6⟩,⟨uB_ es⟩,⟨ke⟩⟩
  rw[if_pos c44] at H
  have dj1:(aq == 1)=true:=beq_iff_eq.mpr c44
  have jg9:(aq != 1)=false:=bne_eq_false_iff_eq.mpr c44
  clear c44
  (first|rw[dj1]|(simp only[i64_w,i32_w];rw[dj1])|skip)
  obtain⟨gw4,A45,H⟩:=bind_ H
  by_cases c46:gw4=true
  case neg=>
   replace c46:=Bool.eq_false_iff.mpr c46
   subst c46
   replace H:=ifn_ H
   have H':=A_ H
   clear H
   have gx1:=au1.out
   have gx2:=au0.out
   have eh6:=ad4.out
   have eh7:=ad5.out
   obtain⟨dj2,dj3,dj4,ly3,dj5,dj6,dj7,ly4⟩:=blk4_ e6
   have io0:=ao1.out
   have io1:=ao2.out
   obtain⟨iu6,iu7,iu8,iu9⟩:=blk2_ fi
   go_wp2_with (first|(go_at_call 83;(refine(Gt.calls kj2 _ _ ab _ _ aa am false _ (uC_ bg) bw.out (uC_ bd) b4.out A45.out).mono ?_);rintro e w73 ⟨rfl,hb⟩;replace fi:=bb_ fi hb;replace e6:=bb_ e6 hb;replace es:=bb_ es hb;replace HB:=hs_ (ke) hb))
   go_meet
   case rel=>exact⟨_,(false),(g3_),H',⟨g114_⟩,⟨uB_ fi⟩,⟨uB_ e6⟩,⟨uB_ es⟩,⟨ke⟩⟩
  subst c46
  replace H:=ifp_ H
  obtain⟨gw5,A47,H⟩:=bind_ H
  by_cases c48:gw5=true
  ·subst c48
   replace H:=ifp_ H
   have H':=A_ H
   clear H
   have in2:=au1.out
   have in3:=au0.out
   have gn3:=ad4.out
   have gn4:=ad5.out
   obtain⟨ea6,ea7,fd7,gn5,ea8,ea9,fd8,gn6⟩:=blk4_ e6
   have it7:=ao1.out
   have it8:=ao2.out
   obtain⟨lv9,lw0,lw1,lw2⟩:=blk2_ fi
   have MK83_0:=True.intro
   go_wp2_with (first|(clear MK83_0;go_at_call 83;(refine(Gt.calls kj2 _ _ ab _ _ aa am true _ (uC_ bg) bw.out (uC_ bd) b4.out A45.out).mono ?_);rintro e w54 ⟨rfl,hb⟩;replace fi:=bb_ fi hb;replace e6:=bb_ e6 hb;replace es:=bb_ es hb;replace HB:=hs_ (ke) hb;obtain⟨ek4,ek5,ek6,ek7⟩:=blk2_ fi;obtain⟨ge8,ge9,lw3,lw4,gf0,gf1,lw5,lw6⟩:=blk4_ e6)|(go_at_call 83;(refine(Gt.calls kj2 _ _ ab _ _ aa an true _ (uC_ bg) bw.out (uC_ bd) b4.out A47.out).mono ?_);rintro e w57 ⟨rfl,hb⟩;replace fi:=bb_ fi hb;replace e6:=bb_ e6 hb;replace es:=bb_ es hb;replace HB:=hs_ (ke) hb;obtain⟨ib8,ib9,lw7,lw8,ic0,ic1,lw9,lx0⟩:=blk4_ e6))
   go_meet
   case rel=>exact⟨_,((am != an)),(g3_),H',⟨g114_⟩,⟨uB_ fi⟩,⟨uB_ e6⟩,⟨uB_ es⟩,⟨ke⟩⟩
  replace c48:=Bool.eq_false_iff.mpr c48
  subst c48
  replace H:=ifn_ H
  have H':=A_ H
  clear H
  have lg0:=au1.out
  have lg1:=au0.out
  have lx1:=ad4.out
  have lx2:=ad5.out
  obtain⟨lx3,lx4,lx5,lx6,lx7,lx8,lx9,ly0⟩:=blk4_ e6
  have fl0:=ao1.out
  have fl1:=ao2.out
  obtain⟨dh1,dh2,dh3,dh4⟩:=blk2_ fi
  have MK83_0:=True.intro
  go_wp2_with (first|(clear MK83_0;go_at_call 83;(refine(Gt.calls kj2 _ _ ab _ _ aa am true _ (uC_ bg) bw.out (uC_ bd) b4.out A45.out).mono ?_);rintro e w64 ⟨rfl,hb⟩;replace fi:=bb_ fi hb;replace e6:=bb_ e6 hb;replace es:=bb_ es hb;replace HB:=hs_ (ke) hb;obtain⟨iu1,iu2,iu3,iu4⟩:=blk2_ fi;obtain⟨cf6,cf7,cf8,ly1,cf9,cg0,cg1,ly2⟩:=blk4_ e6)|(go_at_call 83;(refine(Gt.calls kj2 _ _ ab _ _ aa an false _ (uC_ bg) bw.out (uC_ bd) b4.out A47.out).mono ?_);rintro e w67 ⟨rfl,hb⟩;replace fi:=bb_ fi hb;replace e6:=bb_ e6 hb;replace es:=bb_ es hb;replace HB:=hs_ (ke) hb))
  go_meet
  case rel=>exact⟨_,(false),(g3_),H',⟨g114_⟩,⟨uB_ fi⟩,⟨uB_ e6⟩,⟨uB_ es⟩,⟨ke⟩⟩
 clear gx0
 obtain⟨kq,fk9,rfl,HA,HJ42,fi,e6,es,HB⟩:=hcut
 cases kq with
 | zero=>exact absurd HA.out (by simp[Fq.j1])
 | succ kj42=>?_
 have H:=HA.out
 clear HA
 simp only[Fq.j1] at H
 by_cases c77:fk9=true
 case neg=>
  replace c77:=Bool.eq_false_iff.mpr c77
  subst c77
  replace H:=ifn_ H
  by_cases aj6:(aq == 2 && (am == 0 && (an == 0 && (ao == 0))))=true
  ·rw[if_pos aj6] at H
   have lz8:(aq == 2 && (am == 0 && (an == 0 && (ao == 0))))=true:=aj6
   (try(have lz9:decide (aq=2 && (am == 0 && (an == 0 && (ao == 0))))=true:=by simpa using aj6))
   (try(have ma0:(aq == 2 && (am == 0 && (an == 0 && (ao == 0))))=true:=by simpa using aj6))
   clear aj6
   replace H:=Option.bind_eq_some_iff.mp H
   obtain⟨⟨ek9,fl5⟩,jh6,H⟩:=H
   try dsimp only at H
   have ma1:=A_ jh6
   clear jh6
   simp only[Option.some.injEq,Prod.mk.injEq] at H
   obtain⟨rfl,rfl,rfl⟩:=H
   have op3:=au1.out
   have op4:=au0.out
   have gp1:=ad4.out
   have gp2:=ad5.out
   obtain⟨op5,op6,op7,op8,op9,oq0,oq1,oq2⟩:=blk4_ e6
   have ma2:=ao1.out
   have ma3:=ao2.out
   obtain⟨gr4,gr5,gr6,gr7⟩:=blk2_ fi
   go_wp2_with (first|((with_reducible refine gc_ 92 ?_);refine gl_ 78 Try.func92 #[.agg #[.slice af ab.length ac, .slice ah aa.length ag]] ?_;(refine(Fu.calls kj42 _ _ ab _ _ aa ek9 fl5 _ (uC_ bg) bw.out (uC_ bd) b4.out ma1.out).mono ?_);rintro e ix8 ⟨oq3,oq4,rfl,ai,ak,hb⟩;refine⟨_,rfl,?_⟩;have jh7:=A_ (Kd.R_lower ai (Je (ke)));have jh8:=A_ (Kd.S_lower ak (Je (ke)));replace fi:=bb_ fi hb;replace e6:=bb_ e6 hb;replace es:=bb_ es hb;replace HB:=hs_ (ke) hb;obtain⟨fl6,fl7,ma4⟩:=Kd.R_slice jh7.out;subst ma4;obtain⟨la4,la5,la6,la7⟩:=blk2_ es;obtain⟨pj,pk,gp7⟩:=Kd.S_slice jh8.out;subst gp7))
   refine bodyPost_ret (Jy rfl _ _ jw 25 #[.slice fl6 ek9.length fl7, .slice pj fl5.length pk] (0,0) _ rfl (ba_ es) Try.underlying25 rfl (g1_)) rfl ?_
   exact⟨_,_,g4_,ra_ jh7,sa_ jh8,ke⟩
  rw[if_neg aj6] at H
  have lz8:(aq == 2 && (am == 0 && (an == 0 && (ao == 0))))=false:=by simpa using aj6
  (try(have lz9:decide (aq=2 && (am == 0 && (an == 0 && (ao == 0))))=false:=by simpa using aj6))
  (try(have ma0:(aq == 2 && (am == 0 && (an == 0 && (ao == 0))))=false:=by simpa using aj6))
  (try(have oq5:¬ (aq=2 && (am == 0 && (an == 0 && (ao == 0)))):=by simpa using aj6))
  clear aj6
  by_cases aj7:(aq == 3 && (am == 0 && (an == 0 && (ao == 0))))=true
  ·rw[if_pos aj7] at H
   have ma5:(aq == 3 && (am == 0 && (an == 0 && (ao == 0))))=true:=aj7
   (try(have ma6:decide (aq=3 && (am == 0 && (an == 0 && (ao == 0))))=true:=by simpa using aj7))
   (try(have ma7:(aq == 3 && (am == 0 && (an == 0 && (ao == 0))))=true:=by simpa using aj7))
   clear aj7
   replace H:=Option.bind_eq_some_iff.mp H
   obtain⟨⟨cv4,dk4,ma8⟩,jh9,H⟩:=H
   try dsimp only at H
   have ma9:=A_ jh9
   clear jh9
   simp only[Option.some.injEq,Prod.mk.injEq] at H
   obtain⟨rfl,rfl,rfl⟩:=H
   have mb0:=au1.out
   have mb1:=au0.out
   have iy9:=ad4.out
   have iz0:=ad5.out
   obtain⟨li2,li3,li4,oq6,li5,li6,li7,oq7⟩:=blk4_ e6
   have mb2:=ao1.out
   have mb3:=ao2.out
   obtain⟨oq8,oq9,or0,or1⟩:=blk2_ fi
   go_wp2_with (first|((with_reducible refine gc_ 99 ?_);refine gl_ 85 Try.func99 #[.agg #[.slice af ab.length ac, .slice ah aa.length ag]] ?_;(refine(Fe.calls kj42 _ _ ab _ _ aa cv4 dk4 ma8 _ (uC_ bg) bw.out (uC_ bd) b4.out ma9.out).mono ?_);rintro e or2 ⟨or3,or4,rfl,ai,ak,hb⟩;refine⟨_,rfl,?_⟩;have fl8:=A_ (Kd.R_lower ai (Je (ke)));have fl9:=A_ (Kd.S_lower ak (Je (ke)));replace fi:=bb_ fi hb;replace e6:=bb_ e6 hb;replace es:=bb_ es hb;replace HB:=hs_ (ke) hb)|((with_reducible refine gd_ 8 ?_);refine bx_ (N:=8) #[.slice none 0 0, .slice none 0 0] 25 ?_;intro au3 hg mb4 hbox hb;replace fl8:=rb_ fl8 hb;replace fl9:=sb_ fl9 hb;have gx6:=A_ (hbox);have or5:=A_ ((g26_:w.heap.size<=au3));have lv0:=or5;replace HB:=hs_ (ke) hb;have mb5:=nl_ fi hg;have mb6:=nr_ fi hg;replace fi:=bb_ fi hb;have mb7:=nl_ e6 hg;have mb8:=nr_ e6 hg;replace e6:=bb_ e6 hb;have gx7:=nl_ es hg;have mb9:=nr_ es hg;replace es:=bb_ es hb;clear hb hbox hg;obtain⟨bk0,bk1,gx8⟩:=Kd.R_slice fl8.out;subst gx8;have gp9:=mb6.out;have gq0:=mb5.out;have ji0:=mb8.out;have ji1:=mb7.out;have iq5:=mb9.out;have iq6:=gx7.out;obtain⟨ji2,ji4,ji5,ji6⟩:=blk2_ gx6;obtain⟨cv5,cv6,gx9⟩:=Kd.S_slice fl9.out;subst gx9;obtain⟨mc0,mc1,mc2,mc3⟩:=blk2_ es))
   refine bodyPost_ret (Jy rfl _ _ jw 25 #[.slice bk0 cv4.length bk1, .slice cv5 dk4.length cv6] (0,0) _ rfl (ba_ es) Try.underlying25 rfl (g1_)) rfl ?_
   exact⟨_,_,g4_,ra_ fl8,sa_ fl9,ke⟩
  rw[if_neg aj7] at H
  have ma5:(aq == 3 && (am == 0 && (an == 0 && (ao == 0))))=false:=by simpa using aj7
  (try(have ma6:decide (aq=3 && (am == 0 && (an == 0 && (ao == 0))))=false:=by simpa using aj7))
  (try(have ma7:(aq == 3 && (am == 0 && (an == 0 && (ao == 0))))=false:=by simpa using aj7))
  (try(have or6:¬ (aq=3 && (am == 0 && (an == 0 && (ao == 0)))):=by simpa using aj7))
  clear aj7
  simp only[Option.some.injEq,Prod.mk.injEq] at H
  obtain⟨rfl,rfl,rfl⟩:=H
  have mc4:=au1.out
  have mc5:=au0.out
  have iq7:=ad4.out
  have iq8:=ad5.out
  obtain⟨lc1,lc2,or7,or8,lc3,lc4,or9,os0⟩:=blk4_ e6
  have mc6:=ao2.out
  have mc7:=ao1.out
  obtain⟨mc8,mc9,md0,md1⟩:=blk2_ es
  go_wp2
  refine bodyPost_ret (Jy rfl _ _ jw 25 #[.slice none 0 0, .slice none 0 0] (0,0) _ rfl (ba_ es) Try.underlying25 rfl (g1_)) rfl ?_
  exact⟨_,_,g4_,g34_,g41_,ke⟩
 subst c77
 replace H:=ifp_ H
 replace H:=Option.bind_eq_some_iff.mp H
 obtain⟨⟨ms,mg⟩,jh0,H⟩:=H
 try dsimp only at H
 have A78:=A_ jh0
 clear jh0
 obtain⟨ol9,H⟩:=pd_ H
 obtain⟨om0,H⟩:=pd_ H
 obtain⟨om1,H⟩:=pd_ H
 obtain⟨om2,H⟩:=pd_ H
 obtain⟨gx3,hyq⟩:∃y_:List Int,y_=((Jr mg am).set (an:Int).toNat ao):=⟨_,rfl⟩
 replace H:((some (mg.set (am:Int).toNat gx3:List (List Int))).bind fun ao0=>((Fi.f kj42 ms ao0).bind fun cv0=>(some (ms,ao0,cv0))))=some (r1,r2,r3):=qh_
 have ly7:=A_ hyq
 clear hyq
 obtain⟨ao0,hyq⟩:∃y_:List (List Int),y_=(mg.set (am:Int).toNat gx3):=⟨_,rfl⟩
 replace H:((Fi.f kj42 ms ao0).bind fun cv0=>(some (ms,ao0,cv0)))=some (r1,r2,r3):=qh_
 have ly8:=A_ hyq
 clear hyq
 obtain⟨cv0,A84,H⟩:=bind_ H
 simp only[Option.some.injEq,Prod.mk.injEq] at H
 obtain⟨rfl,rfl,rfl⟩:=H
 have om3:=au0.out
 have om4:=au1.out
 have lh1:=ao1.out
 have lh2:=ao2.out
 obtain⟨lh3,lh4,lh5,lh6⟩:=blk2_ fi
 try go_wp2_with (first|((with_reducible refine gc_ 111 ?_);refine gl_ 58 Try.func111 #[.agg #[.slice af ab.length ac, .slice ah aa.length ag]] ?_;(refine(Fo.calls kj42 _ _ ab _ _ aa ms mg _ (uC_ bg) bw.out (uC_ bd) b4.out A78.out).mono ?_);rintro e w88 ⟨om5,om6,rfl,ai,ak,hb⟩;refine⟨_,rfl,?_⟩;have tz:=A_ (Kd.R_lower ai (Je (ke)));have pb:=A_ (Kd.S_lower ak (Je (ke)));replace fi:=bb_ fi hb;replace e6:=bb_ e6 hb;replace es:=bb_ es hb;replace HB:=hs_ (ke) hb)|((with_reducible refine gd_ 7 ?_);refine bx_ (N:=7) #[.slice none 0 0, .slice none 0 0] 25 ?_;intro l9 hg w89 hbox hb;replace tz:=rb_ tz hb;replace pb:=sb_ pb hb;have qv:=A_ (hbox);have om7:=A_ ((g26_:w.heap.size<=l9));have lu9:=om7;replace HB:=hs_ (ke) hb;have gx4:=nl_ fi hg;have ly9:=nr_ fi hg;replace fi:=bb_ fi hb;have gx5:=nl_ e6 hg;have lz0:=nr_ e6 hg;replace e6:=bb_ e6 hb;have ek8:=nl_ es hg;have cv2:=nr_ es hg;replace es:=bb_ es hb;clear hb hbox hg;obtain⟨na,nc,cv3⟩:=Kd.R_slice tz.out;subst cv3;have lz1:=ly9.out;have lz2:=gx4.out;have om8:=lz0.out;have om9:=gx5.out;have iw4:=cv2.out;have iw5:=ek8.out;obtain⟨on0,on1,on2,on3⟩:=blk2_ qv;obtain⟨au2,t1,lz3⟩:=Kd.S_slice pb.out;subst lz3))
 generalize hw_:((w89.setCell ⟨l9,0,none⟩ (.slice na ms.length nc)).setCell ⟨l9,1,none⟩ (.slice au2 mg.length t1))=w96
 have n0_:Jc (Kd.R (Kd.int .i64) 3 w96 w.heap.size (fun _=>True) (.slice na ms.length nc) ms):=A_ (by rw[<- hw_];exact ra_ tz)
 have n1_:Jc (Kd.S (Kd.slice 3 (Kd.int .i64)) 22 w96 w.heap.size (fun k_=>some k_≠(.slice na ms.length nc:Value).ownBlock) (.slice au2 mg.length t1) mg):=A_ (by rw[<- hw_];exact sa_ pb)
 have n2_:Jc (hc_ w96 ve #[.slice af ab.length ac, .slice ah aa.length ag] 25):=A_ (by rw[<- hw_];exact ba_ fi)
 have n3_:Jc (hc_ w96 ri #[.int .i64 aq, .int .i64 am, .int .i64 an, .int .i64 ao] 69):=A_ (by rw[<- hw_];exact ba_ e6)
 have n4_:Jc (hc_ w96 jw #[.slice none 0 0, .slice none 0 0] 25):=A_ (by rw[<- hw_];exact ba_ es)
 have n5_:Jc (hc_ w96 l9 #[.slice na ms.length nc, .slice au2 mg.length t1] 25):=A_ (by rw[<- hw_];exact ba_ qv)
 have n6_:Jc (Below w.heap.size w w96):=A_ (by rw[<- hw_];exact ke)
 clear hw_
 have tz:=n0_
 have pb:=n1_
 have fi:=n2_
 have e6:=n3_
 have es:=n4_
 have qv:=n5_
 have HB:=n6_
 clear n0_ n1_ n2_ n3_ n4_ n5_ n6_
 replace tz:=rd_ tz
 replace pb:=sd_ pb
 replace fi:=bd_ fi
 replace e6:=bd_ e6
 replace es:=bd_ es
 replace qv:=bd_ qv
 replace HB:=A_ (Ji HB.out)
 have fl2:0<=(am:Int):=od_
 have fl3:am < (mg.length:Int):=od_
 obtain⟨bs7,on4,lz4,lz5,fl4,jh1,jh2⟩:=at_L1 (Kd.S_reads' pb.out).2.2 am fl2 fl3
 cases lz5
 obtain⟨ce506,hce506,hMe506,hcc506⟩:=Kd.S_get pb.out [] am fl2 (by first|exact fl3|exact od_|(have e_:=(Kd.S_reads' pb.out).1;omega))
 obtain⟨ve506_0,rfl,ge506_0⟩:=hMe506
 have hv506_0:=hcc506 0 _ rfl
 rw[Nat.add_zero,show((Kd.slice 3 (Kd.int .i64))).sz=1 from rfl,Nat.mul_one] at hv506_0
 replace hv506_0:=Option.some.inj (hv506_0.symm.trans fl4)
 rw[hv506_0] at ge506_0
 have cg2:=A_ (show Kd.R (Kd.int .i64) 3 _ _ _ _ (Jr mg am) from ge506_0)
 clear hv506_0 ge506_0
 have HX506_0:=A_ fl4
 clear hcc506 hce506
 have lz6:=A_ jh2
 have on5:=A_ jh1
 clear jh2 jh1
 replace fl2:=eq_true fl2
 replace fl3:=eq_true fl3
 have p83:0<=(an:Int):=od_
 have q83:(an:Int) < (((Jr mg am).length:Int):Int):=od_
 obtain⟨bj9,on6,jh3,jh4,gl83,cl83,HG83⟩:=Kd.R_form cg2.out (by omega)
 (first|cases jh3|(injection jh3 with ea_ en_ ec_;(first|subst ea_|(injection ea_ with ea_;subst ea_));subst ec_;clear en_))
 have GB83:=A_ jh4
 have GG83:=A_ HG83
 clear jh4 gl83 HG83
 obtain⟨lz7,hf83_0⟩:=Kd.R_celln 0 cg2.out (an:Int) p83 q83
 replace p83:=eq_true p83
 replace q83:=eq_true q83
 have hq98:(am:Int) < (mg.length:Int):=(by have h_:(am:Int) < ((mg.length:Int):Int):=od_;first|exact h_|(have e_:=(Kd.S_reads' pb.out).1;omega)|simpa only[List.length_set,List.length_set] using h_)
 obtain⟨oki98,ce98,hcl98,hM98,hcc98,hok98,hbk98⟩:=Kd.S_borrow pb.out [] (am:Int) (od_) (by first|exact hq98|exact od_|(have e_:=(Kd.S_reads' pb.out).1;omega))
 obtain⟨ve98_0,rfl,ge98_0⟩:=hM98
 have hv98:=hcc98 0 _ rfl
 rw[Nat.add_zero,show((Kd.slice 3 (Kd.int .i64))).sz=1 from rfl,Nat.mul_one] at hv98
 replace hv98:=Option.some.inj (hv98.symm.trans HX506_0.out)
 subst hv98
 clear hcc98 hcl98
 replace ge98_0:=(show Kd.R (Kd.int .i64) 3 _ _ _ _ (Jr mg am) from ge98_0)
 have HP98:=Kd.R_putg ge98_0 (an:Int) ao
 rw[<- ly7.out] at HP98
 have HS98:=hbk98 HP98.2 (fun k_ e_=>by injection e_ with e_;subst e_;exact ge98_0.1 _ rfl) (x':=gx3) (Kd.M_row HP98.1)
 rw[<- ly8.out] at HS98
 have HQ98:=A_ HS98
 clear HP98 HS98 hbk98 hok98
 refine start_ (n:=12) (S:=fun w'=>w'.cell? ⟨l9,0,none⟩=some (.slice na ms.length nc)/\w'.cell? ⟨l9,1,none⟩=some (.slice (some bs7) mg.length t1)/\w'.cell? ⟨ri,0,none⟩=some (.int .i64 aq)/\w'.cell? ⟨ri,1,none⟩=some (.int .i64 am)/\w'.cell? ⟨ri,2,none⟩=some (.int .i64 an)/\w'.cell? ⟨ri,3,none⟩=some (.int .i64 ao)/\w'.cell? (bs7.add (am).toNat)=some (.slice (some ⟨bj9,0,none⟩) (Jr mg am).length lz4)) (ds:=[11]) (tl_ 12 0) (g1_) rfl (g1_) ⟨(Jd qv.out 0).trans rfl,(Jd qv.out 1).trans rfl,(Jd e6.out 0).trans rfl,(Jd e6.out 1).trans rfl,(Jd e6.out 2).trans rfl,(Jd e6.out 3).trans rfl,fl4⟩ (fun hHeld=>?_);refine Jx Fq.tab6 Fq.bits6 (fun HT_ HW_=>?_)
 generalize w96.drew=w97 at tz pb fi e6 es qv HB GG83 cg2 HQ98 lz6 HX506_0 hf83_0 fl4 lz7 hHeld |-
 refine pw_ 0 59 (tl_ 12 1) ?_
 refine pw_ 2 61 (tl_ 12 5) ?_
 refine pw_ 6 65 (tl_ 12 69) ?_
 refine pw_ 8 67 (tl_ 12 325) ?_
 refine tk3_ 1 60 (tl_ 12 327) hHeld ?_
 refine tk3_ 3 62 (tl_ 12 335) hHeld ?_
 refine pw_ 4 63 (tl_ 12 351) ?_
 refine tk3_ 5 64 (tl_ 12 383) hHeld ?_
 refine tk3_ 7 66 (tl_ 12 511) hHeld ?_
 refine tk3_ 9 68 (tl_ 12 1023) hHeld ?_
 refine pw_ 10 69 (tl_ 12 2047) ?_
 refine last_ (i:=11) (N:=none) (tl_ 12 4095) rfl rfl (Jz HT_.out (g1_)) (by decide) (fun K hK=>?_)
 refine skip_ (w1:=?_) (by rfl) rfl ?_ ?_
 rotate_left
 ·go_simp
  rfl
 refine hK.out _ _ ?_
 clear hK K
 refine done_ (done_of HT_.out (g1_)) ?_
 have n0_:Jc (Kd.R (Kd.int .i64) 3 (w97.setCell ⟨bj9,(an:Int).toNat,none⟩ (.int .i64 ao)) w.heap.size (fun _=>True) (.slice na ms.length nc) ms):=⟨by(with_reducible repeat(first|apply Kd.R_alloc|apply Kd.R_drewN|apply Kd.R_drew));exact Kd.R_mono (Kd.R_far (p:=⟨bj9,(an:Int).toNat,none⟩) (Kd.R_far1 tz.out rfl ((cg2.out.1 _ rfl).1)) (fun _ hk=>hk.2) (.int .i64 ao)) (fun _ hk=>trivial)⟩
 have n1_:Jc (Kd.S (Kd.slice 3 (Kd.int .i64)) 22 (w97.setCell ⟨bj9,(an:Int).toNat,none⟩ (.int .i64 ao)) w.heap.size (fun k_=>some k_≠(.slice na ms.length nc:Value).ownBlock) (.slice (some bs7) mg.length t1) ao0):=⟨uS_ HQ98⟩
 have n2_:Jc ((w97.setCell ⟨bj9,(an:Int).toNat,none⟩ (.int .i64 ao)).heap[ve]? = some (.cells #[.slice af ab.length ac, .slice ah aa.length ag] 25 (0,0))):=⟨by(with_reducible repeat(first|refine Jm ?_ _|refine Jn ?_|refine Jl ?_ _));refine Ju ?_ (by have h_:=Kd.R_ne cg2.out fi.out (by decide);intro e_;exact h_ (g6_)) _;exact uB_ fi⟩
 have n3_:Jc ((w97.setCell ⟨bj9,(an:Int).toNat,none⟩ (.int .i64 ao)).heap[ri]? = some (.cells #[.int .i64 aq, .int .i64 am, .int .i64 an, .int .i64 ao] 69 (0,0))):=⟨by(with_reducible repeat(first|refine Jm ?_ _|refine Jn ?_|refine Jl ?_ _));refine Ju ?_ (by have h_:=Kd.R_ne cg2.out e6.out (by decide);intro e_;exact h_ (g6_)) _;exact uB_ e6⟩
 have n4_:Jc ((w97.setCell ⟨bj9,(an:Int).toNat,none⟩ (.int .i64 ao)).heap[jw]? = some (.cells #[.slice none 0 0, .slice none 0 0] 25 (0,0))):=⟨by(with_reducible repeat(first|refine Jm ?_ _|refine Jn ?_|refine Jl ?_ _));refine Ju ?_ (by have h_:=Kd.R_ne cg2.out es.out (by decide);intro e_;exact h_ (g6_)) _;exact uB_ es⟩
 have n5_:Jc ((w97.setCell ⟨bj9,(an:Int).toNat,none⟩ (.int .i64 ao)).heap[l9]? = some (.cells #[.slice na ms.length nc, .slice (some bs7) mg.length t1] 25 (0,0))):=⟨by(with_reducible repeat(first|refine Jm ?_ _|refine Jn ?_|refine Jl ?_ _));refine Ju ?_ (by have h_:=Kd.R_ne cg2.out qv.out (by decide);intro e_;exact h_ (g6_)) _;exact uB_ qv⟩
 have n6_:Jc (Below w.heap.size w (w97.setCell ⟨bj9,(an:Int).toNat,none⟩ (.int .i64 ao))):=⟨ke⟩
 generalize (w97.setCell ⟨bj9,(an:Int).toNat,none⟩ (.int .i64 ao))=gq7 at n0_ n1_ n2_ n3_ n4_ n5_ n6_ |-
 have tz:=n0_
 have pb:=n1_
 have fi:=n2_
 have e6:=n3_
 have es:=n4_
 have qv:=n5_
 have HB:=n6_
 clear n0_ n1_ n2_ n3_ n4_ n5_ n6_
 try go_wp2
 replace tz:=rd_ tz
 replace pb:=sd_ pb
 replace fi:=bd_ fi
 replace e6:=bd_ e6
 replace es:=bd_ es
 replace qv:=bd_ qv
 replace HB:=A_ (Ji HB.out)
 refine start_ (n:=5) (S:=fun w'=>w'.cell? ⟨l9,0,none⟩=some (.slice na ms.length nc)/\w'.cell? ⟨l9,1,none⟩=some (.slice (some bs7) mg.length t1)) (ds:=[]) (tl_ 5 0) (g1_) rfl (g1_) ⟨(Jd qv.out 0).trans rfl,(Jd qv.out 1).trans rfl⟩ (fun hHeld=>?_)
 generalize gq7.drew=lh7 at tz pb fi e6 es qv HB hHeld |-
 refine take_ (i:=0) (N:=some 70) (v:=?_) (a':=?_) (tl_ 5 1) rfl rfl (g1_) (fun _ _ _ h=>h) (Or.inl ⟨by rfl,?_⟩) hHeld ?_ ?_
 rotate_left
 ·rintro w' ⟨s0,s1⟩
  go_simp
  with_reducible rfl
 rotate_left
 · exact sp_
 refine take_ (i:=1) (N:=some 71) (v:=?_) (a':=?_) (tl_ 5 3) rfl rfl (g1_) (fun _ _ _ h=>h) (Or.inl ⟨by rfl,?_⟩) hHeld ?_ ?_
 rotate_left
 ·rintro w' ⟨s0,s1⟩
  go_simp
  with_reducible rfl
 rotate_left
 · exact sp_
 refine one_ (i:=2) (N:=some 72) (tl_ 5 7) rfl rfl (g1_) (by decide) (fun K hK=>?_)
 refine goes_ Try.func73 (g1_) rfl #[.agg #[.slice na ms.length nc, .slice (some bs7) ao0.length t1]] (by rfl) rfl rfl (by(try simp only[List.map_toArray,List.map_cons,List.map_nil]);first|done|(rw[show ao0.length=mg.length from(Kd.S_reads' pb.out).1.symm] <;> rfl)|rfl|(simp only[List.length_drop,List.length_take];rfl)) ?_
 with_reducible refine(Fi.calls kj42 _ _ ms _ _ ao0 cv0 _ ?side1 ?side2 ?side3 ?side4 A84.out).mono ?_
 (case side1=>exact cR_ tz)
 (case side2=>exact lR_ tz)
 (case side3=>exact cS_ pb)
 (case side4=>rw[show ao0.length=mg.length from(Kd.S_reads' pb.out).1.symm];exact(Kd.S_reads' pb.out).2.1)
 rintro e jh5 ⟨rfl,hb⟩
 refine⟨_,rfl,?_⟩
 replace tz:=rb_ tz hb
 replace pb:=sb_ pb hb
 replace fi:=bb_ fi hb
 replace e6:=bb_ e6 hb
 replace es:=bb_ es hb
 replace qv:=bb_ qv hb
 replace HB:=hs_ (ke) hb
 refine hK.out _ _ ⟨(Jd qv.out 0).trans rfl,(Jd qv.out 1).trans rfl⟩ (fun hHeld=>?_)
 clear hK K
 refine nm_ ?_
 refine one_ (i:=3) (N:=none) (tl_ 5 15) rfl rfl (g1_) (by decide) (fun K hK=>?_)
 have on7:jh5.cell? ⟨jw,0,none⟩=some (.slice none 0 0):=(Jd es.out 0).trans rfl
 have on8:=Jo es.out 0
 have oo0:=ad4.out
 have oo1:=cv2.out
 have oo3:=ad5.out
 have oo4:=ek8.out
 have oo5:jh5.cell? ⟨jw,1,none⟩=some (.slice none 0 0):=(Jd es.out 1).trans rfl
 have oo6:=Jo es.out 1
 refine skip_ (w1:=?_) (by rfl) rfl ?_ ?_
 rotate_left
 ·go_simp
  rfl
 refine hK.out _ _ ⟨(cf_ cv2 ((cf_ cv2 (hHeld.1)))),(cf_ cv2 ((cf_ cv2 (hHeld.2))))⟩ (fun hHeld=>?_)
 clear hK K
 refine pure_ (i:=4) (N:=some 5) (v:=?_) (a':=?_) (tl_ 5 31) rfl rfl (g1_) (fun _ _ _ h=>h) (Or.inl ⟨by rfl,?_⟩) ?_ ?_
 rotate_left
 ·intro w'
  go_simp
  with_reducible rfl
 rotate_left
 · exact sp_
 refine done_ (g1_) ?_
 try go_wp2
 refine bodyPost_ret (Jy rfl _ _ jw 25 #[.slice na ms.length nc, .slice (some bs7) mg.length t1] (0,0) _ rfl (ba_ es) Try.underlying25 rfl (g1_)) rfl ?_
 exact⟨_,_,g4_,ra_ tz,sa_ pb,ke⟩
def Ft.l0:Nat->List Int->List Int->Int->Int->Option (Bool)
 | 0,_,_,_,_=>none
 | k + 1,x0,x1,wm,lb=>if lb < wm then(if 0<=lb then(if lb < (x0.length:Int) then(if lb < (x1.length:Int) then(if (rd x0 lb)=(rd x1 lb) then(Ft.l0 k x0 x1 wm (wrap64 (lb + 1))) else(some false)) else(none)) else(none)) else(none)) else(some true)
def Ft.f (k:Nat) (l0:List Int) (l1:List Int):Option (Bool):=if (l0.length:Int)=(l1.length:Int) then(Ft.l0 k l0 l1 (l0.length:Int) 0) else(some false)
set_option maxHeartbeats 8000000 in
set_option maxRecDepth 100000 in
theorem Ft.calls (k:Nat) (A0:Option Addr) (c0:Nat) (l0:List Int) (A1:Option Addr) (c1:Nat) (l1:List Int) (r:Bool) (w:World) (fa:Kd.C (Kd.int .i64) w A0 l0.length l0) (ec:l0.length<=c0) (iu:Kd.C (Kd.int .i64) w A1 l1.length l1) (iz:l1.length<=c1) (h:Ft.f k l0 l1=some r) :
  Calls Try.prog 131 #[.slice A0 l0.length c0, .slice A1 l1.length c1] w fun e w'=>e = .returned (.bool r)/\Drawn0 w w':=by
 have fp:=A_ fa
 have op:=A_ ec
 clear fa ec
 have fs:=A_ iu
 have pe:=A_ iz
 clear iu iz
 have H:=h
 unfold Ft.f at H
 clear h
 by_cases c3:(l0.length:Int)=(l1.length:Int)
 case neg=>
  rw[if_neg c3] at H
  have gj:((l0.length:Int) == (l1.length:Int))=false:=beq_eq_false_iff_ne.mpr c3
  have ny:((l0.length:Int) != (l1.length:Int))=true:=bne_iff_ne.mpr c3
  have ul:(l0.length == l1.length)=false:=by first|simpa using c3|(simp at c3 |-;omega)
  obtain rfl:=Option.some.inj H
  go_enter Try.func131,Try.ntmps131
  go_wp2
  repeat(go_quiet (fail);try go_wp2)
  go_ret
  exact⟨g3_,g5_⟩
 rw[if_pos c3] at H
 have gj:((l0.length:Int) == (l1.length:Int))=true:=beq_iff_eq.mpr c3
 have ny:((l0.length:Int) != (l1.length:Int))=false:=bne_eq_false_iff_eq.mpr c3
 have ul:(l0.length == l1.length)=true:=by first|simpa using c3|(simp at c3 |-;omega)
 clear c3
 have H':=A_ H
 clear H
 go_enter Try.func131,Try.ntmps131
 go_wp2
 repeat(go_quiet (fail);try go_wp2)
 go_loopg [13] k (fun kq v13 w'=>∃(b5:Int),v13 = .int .i64 b5/\Jc (Ft.l0 kq l0 l1 (l0.length:Int) b5=some r)/\Jc (kq<=k)/\Drawn0 w w')
 case atStart=>exact⟨(0),(g3_),H',⟨Nat.le_refl _⟩,g5_⟩
 clear H'
 obtain⟨b5,rfl,HA,HK1,⟨m1,rfl⟩⟩:=hrel
 cases gk with
 | zero=>exact absurd HA.out (by simp[Ft.l0])
 | succ k1=>?_
 have H:=HA.out
 clear HA
 simp only[Ft.l0] at H
 by_cases c4:b5 < (l0.length:Int)
 case neg=>
  rw[if_neg c4] at H
  have ic:=decide_eq_false c4
  clear c4
  obtain rfl:=Option.some.inj H
  go_wp2
  repeat(go_quiet (fail);try go_wp2)
  go_ret
  exact⟨g3_,g5_⟩
 rw[if_pos c4] at H
 have ic:=decide_eq_true c4
 clear c4
 obtain⟨kn,H⟩:=pd_ H
 obtain⟨kf,H⟩:=pd_ H
 obtain⟨pz,H⟩:=pd_ H
 by_cases c8:(rd l0 b5)=(rd l1 b5)
 ·rw[if_pos c8] at H
  have xf:((rd l0 b5) == (rd l1 b5))=true:=beq_iff_eq.mpr c8
  have cd3:((rd l0 b5) != (rd l1 b5))=false:=bne_eq_false_iff_eq.mpr c8
  clear c8
  have H':=A_ H
  clear H
  obtain⟨⟨md2,gy0,md3⟩,cv7,cv8⟩:=rdp_ (Kd.at_int fp.out b5)
  cases gy0
  obtain⟨⟨md4,gy1,md5⟩,cv9,cw0⟩:=rdp_ (Kd.at_int fs.out b5)
  cases gy1
  go_wp2
  repeat(go_quiet (fail);try go_wp2)
  go_roundg k1
  case measure=>have:=HK1.out;omega
  case rel=>exact⟨(wrap64 (b5 + 1)),(g3_),H',⟨g8_⟩,g5_⟩
 rw[if_neg c8] at H
 have xf:((rd l0 b5) == (rd l1 b5))=false:=beq_eq_false_iff_ne.mpr c8
 have cd3:((rd l0 b5) != (rd l1 b5))=true:=bne_iff_ne.mpr c8
 obtain rfl:=Option.some.inj H
 obtain⟨⟨md2,gy0,md3⟩,cv7,cv8⟩:=rdp_ (Kd.at_int fp.out b5)
 cases gy0
 obtain⟨⟨md4,gy1,md5⟩,cv9,cw0⟩:=rdp_ (Kd.at_int fs.out b5)
 cases gy1
 go_wp2
 repeat(go_quiet (fail);try go_wp2)
 go_ret
 exact⟨g3_,g5_⟩
def Gc.el (k:Nat):List (List Int)->List (List Int)->Option Bool
 | x :: r,y :: s=>(Ft.f k x y).bind fun t=>if t=true then Gc.el k r s else some false
 | _,_=>some true
def Gc.f (k:Nat) (l0:List (List Int)) (l1:List (List Int)):Option (Bool):=if (l0.length:Int)=(l1.length:Int) then Gc.el k l0 l1 else some false
theorem Gc.at {w:World} {A:Option Addr} {n:Nat} {xs:List (List Int)} (h:Kd.C (Kd.slice 3 (Kd.int .i64)) w A n xs) (j:Nat) (hj:j < n) :
  ∃ad A0 c0,A=some ad/\w.cell? (ad.add j)=some (.slice A0 (xs.getD j []).length c0)/\(xs.getD j []).length<=c0/\(Kd.int .i64).C w A0 (xs.getD j []).length (xs.getD j []):=by
 obtain⟨ad,c,rfl,hcl,⟨A0,c0,rfl,hl,hC⟩,hcc⟩:=Kd.C_get h [] (j:Int) (by omega) (by omega)
 refine⟨ad,A0,c0,rfl,?_,hl,hC⟩
 have:=hcc 0 _ rfl
 have hs:(Kd.slice 3 (Kd.int .i64)).sz=1:=rfl
 rw[hs] at this
 simpa using this
set_option maxHeartbeats 4000000 in
set_option maxRecDepth 100000 in
theorem Gc.calls (k:Nat) (A0:Option Addr) (c0:Nat) (l0:List (List Int)) (A1:Option Addr) (c1:Nat) (l1:List (List Int)) (r:Bool) (w:World) (fa:Kd.C (Kd.slice 3 (Kd.int .i64)) w A0 l0.length l0) (ec:l0.length<=c0) (iu:Kd.C (Kd.slice 3 (Kd.int .i64)) w A1 l1.length l1) (iz:l1.length<=c1) (h:Gc.f k l0 l1=some r) :
  Calls Try.prog 132 #[.slice A0 l0.length c0, .slice A1 l1.length c1, .func (.func 131) #[] #[]] w fun e w'=>e = .returned (.bool r)/\Drawn0 w w':=by
 have hn:l0.length<=9223372036854775807:=fa.2.1
 have fp:=A_ fa
 have fs:=A_ iu
 clear fa iu
 unfold Gc.f at h
 by_cases hl:(l0.length:Int)=(l1.length:Int)
 case neg=>
  rw[if_neg hl] at h
  obtain rfl:=Option.some.inj h
  have gj:((l0.length:Int) == (l1.length:Int))=false:=beq_eq_false_iff_ne.mpr hl
  have ny:((l0.length:Int) != (l1.length:Int))=true:=bne_iff_ne.mpr hl
  have ul:(l0.length == l1.length)=false:=by first|simpa using hl|(simp at hl |-;omega)
  clear h hl
  go_enter Try.func132,Try.ntmps132
  go_wp2
  repeat(go_quiet (fail);try go_wp2)
  go_ret
  exact⟨rfl,g5_⟩
 rw[if_pos hl] at h
 have H:=A_ h
 have gj:((l0.length:Int) == (l1.length:Int))=true:=beq_iff_eq.mpr hl
 have ny:((l0.length:Int) != (l1.length:Int))=false:=bne_eq_false_iff_eq.mpr hl
 have ul:(l0.length == l1.length)=true:=by first|simpa using hl|(simp at hl |-;omega)
 have HL:Jc (l1.length=l0.length):=⟨by omega⟩
 clear h hl
 go_enter Try.func132,Try.ntmps132
 go_wp2
 repeat(go_quiet (fail);try go_wp2)
 go_loopg [17] (l0.length) (fun kq v17 w'=>∃j:Nat,kq + j=l0.length/\v17 = .int .i64 j/\Jc (Gc.el k (l0.drop j) (l1.drop j)=some r)/\Drawn0 w w')
 case atStart=>exact⟨0,by omega,rfl,⟨H.out⟩,g5_⟩
 clear H
 obtain⟨j,hj,rfl,HA,⟨m1,rfl⟩⟩:=hrel
 by_cases hlt:j < l0.length
 case neg=>
  obtain rfl:j=l0.length:=by omega
  have hr:Jc (true=r):=⟨by
   have:=HA.out
   rw[List.drop_of_length_le (Nat.le_refl _)] at this
   simp only[Gc.el] at this
   exact Option.some.inj this⟩
  have ic:decide ((l0.length:Int) < (l0.length:Int))=false:=decide_eq_false (by omega)
  clear HA
  go_wp2
  repeat(go_quiet (fail);try go_wp2)
  go_ret
  exact⟨by rw[<- hr.out];try rfl,g5_⟩
 obtain⟨k1,rfl⟩:∃k1,gk=k1 + 1:=⟨gk - 1,by omega⟩
 have hd0:l0.drop j=l0.getD j [] :: l0.drop (j + 1):=by
  rw[List.drop_eq_getElem_cons hlt];simp[List.getD_eq_getElem?_getD,List.getElem?_eq_getElem hlt]
 have hlt1:j < l1.length:=by rw[HL.out];exact hlt
 have hd1:l1.drop j=l1.getD j [] :: l1.drop (j + 1):=by
  rw[List.drop_eq_getElem_cons hlt1];simp[List.getD_eq_getElem?_getD,List.getElem?_eq_getElem hlt1]
 have HX:=HA.out
 rw[hd0,hd1] at HX
 simp only[Gc.el] at HX
 clear HA
 obtain⟨ad0,B0,b0,e0,hx0,hm0,hi0⟩:=Gc.at fp.out j hlt
 obtain⟨ad1,B1,b1,e1,hx1,hm1,hi1⟩:=Gc.at fs.out j hlt1
 cases e0
 cases e1
 have HI0:=A_ hi0
 have HI1:=A_ hi1
 have p5:(0<=(j:Int))=True:=eq_true (by omega)
 have q5:((j:Int) < (l0.length:Int))=True:=eq_true (by omega)
 have q6:((j:Int) < (l1.length:Int))=True:=eq_true (by have:=HL.out;omega)
 have ic:decide ((j:Int) < (l0.length:Int))=true:=decide_eq_true (by omega)
 clear hi0 hi1 hd0 hd1
 generalize l0.getD j []=x at hx0 hm0 HI0 HX
 generalize l1.getD j []=y at hx1 hm1 HI1 HX
 obtain⟨t,hT,HX⟩:=Option.bind_eq_some_iff.mp HX
 have HT:=A_ hT
 clear hT
 have hx0':w.cell? (ad0.add j)=some (.slice B0 x.length b0):=hx0
 have hx1':w.cell? (ad1.add j)=some (.slice B1 y.length b1):=hx1
 by_cases ht:t=true
 ·subst ht
  rw[if_pos rfl] at HX
  have HX':=A_ HX
  clear HX
  go_wp2_with (go_at_call 131;refine(Ft.calls k _ _ x _ _ y true _ ?s1 ?s2 ?s3 ?s4 HT.out).mono ?_;(case s1=>repeat(first|exact HI0.out|(with_reducible refine Kd.C_drewN ?_ _)|(with_reducible refine Kd.C_drew ?_)));(case s2=>exact hm0);(case s3=>repeat(first|exact HI1.out|(with_reducible refine Kd.C_drewN ?_ _)|(with_reducible refine Kd.C_drew ?_)));(case s4=>exact hm1);rintro e w9 ⟨rfl,⟨nd,rfl⟩⟩)
  go_roundg k1
  case measure=>omega
  case rel=>exact⟨j + 1,by omega,by go_num,HX',g109_⟩
 obtain rfl:t=false:=by simpa using ht
 rw[if_neg (by decide)] at HX
 obtain rfl:=Option.some.inj HX
 clear HX ht
 go_wp2_with (go_at_call 131;refine(Ft.calls k _ _ x _ _ y false _ ?s1 ?s2 ?s3 ?s4 HT.out).mono ?_;(case s1=>repeat(first|exact HI0.out|(with_reducible refine Kd.C_drewN ?_ _)|(with_reducible refine Kd.C_drew ?_)));(case s2=>exact hm0);(case s3=>repeat(first|exact HI1.out|(with_reducible refine Kd.C_drewN ?_ _)|(with_reducible refine Kd.C_drew ?_)));(case s4=>exact hm1);rintro e w9 ⟨rfl,⟨nd,rfl⟩⟩)
 go_ret
 exact⟨rfl,g109_⟩
def G6.f (k:Nat) (ab:List Int) (aa:List (List Int)) (fj:List Int) (fn:List (List Int)):Option (Bool):=(Ft.f k ab fj).bind fun el0=>(if el0=true then((Gc.f k aa fn).bind fun el1=>(some el1)) else(some false))
theorem bw9 {p:Prop} (h:p:=by repeat(first|(with_reducible first|exact HB.out|apply Jk|apply Jj|apply Ji|refine Jh ?_ ji7.out|refine Jh ?_ ji8.out)|exact HB.out)):p:=h
set_option maxHeartbeats 8000000 in
set_option maxRecDepth 100000 in
theorem G6.calls (k:Nat) (af:Option Addr) (ac:Nat) (ab:List Int) (ah:Option Addr) (ag:Nat) (aa:List (List Int)) (mx:Option Addr) (mm:Nat) (fj:List Int) (nw:Option Addr) (nx:Nat) (fn:List (List Int)) (r:Bool) (w:World) (cb:Kd.C (Kd.int .i64) w af ab.length ab) (cg:ab.length<=ac) (cc:Kd.C (Kd.slice 3 (Kd.int .i64)) w ah aa.length aa) (ch:aa.length<=ag) (ax1:Kd.C (Kd.int .i64) w mx fj.length fj) (ax2:fj.length<=mm) (ax3:Kd.C (Kd.slice 3 (Kd.int .i64)) w nw fn.length fn) (ax4:fn.length<=nx) (h:G6.f k ab aa fj fn=some r) :
  Calls Try.prog 124 #[.agg #[.slice af ab.length ac, .slice ah aa.length ag], .agg #[.slice mx fj.length mm, .slice nw fn.length nx]] w fun e w'=>e = .returned (.bool r)/\Below w.heap.size w w':=by
 have hu25:=Try.underlying25
 have bg:=A_ cb
 have bw:=A_ cg
 clear cb cg
 have bd:=A_ cc
 have b4:=A_ ch
 clear cc ch
 have al0:=A_ ax1
 have ax5:=A_ ax2
 clear ax1 ax2
 have ax6:=A_ ax3
 have bl7:=A_ ax4
 clear ax3 ax4
 have HB:=A_ (Below.refl w.heap.size w)
 have H:=h
 unfold G6.f at H
 clear h
 obtain⟨el0,A3,H⟩:=bind_ H
 by_cases c4:el0=true
 ·subst c4
  replace H:=ifp_ H
  obtain⟨el1,A5,H⟩:=bind_ H
  obtain rfl:=Option.some.inj H
  go_enter Try.func124,Try.ntmps124
  go_wp2_with (first|((with_reducible refine gd_ 2 ?_);refine bx_ (N:=2) #[.slice af ab.length ac, .slice ah aa.length ag] 25 ?_;intro ao3 hg w6 hbox hb;have bd0:=A_ (hbox);have md6:=A_ ((g50_:w.heap.size<=ao3));have ji7:=md6;replace HB:=hs_ (bw9) hb;clear hb hbox hg)|((with_reducible refine gd_ 3 ?_);refine bx_ (N:=3) #[.slice mx fj.length mm, .slice nw fn.length nx] 25 ?_;intro bs8 hg w7 hbox hb;have gy2:=A_ (hbox);have md7:=A_ ((g50_:w.heap.size<=bs8));have ji8:=md7;replace HB:=hs_ (bw9) hb;have gy3:=nl_ bd0 hg;have gy4:=nr_ bd0 hg;replace bd0:=bb_ bd0 hb;clear hb hbox hg;have dc2:=gy3.out;have dc3:=gy4.out;obtain⟨ag5,ag6,ag7,ag8⟩:=blk2_ bd0;obtain⟨yo,yp,yq,yr⟩:=blk2_ gy2)|((with_reducible refine gc_ 131 ?_);refine gl_ 9 Try.func131 #[.slice af ab.length ac, .slice mx fj.length mm] ?_;(refine(Ft.calls k _ _ ab _ _ fj true _ (uC_ bg) bw.out (uC_ al0) ax5.out A3.out).mono ?_);rintro e w' ⟨rfl,⟨nd,rfl⟩⟩;refine⟨_,rfl,?_⟩)|(go_at_call 132;(refine(Gc.calls k _ _ aa _ _ fn el1 _ (cu_ (Kd.C_below bd.out (bw9))) b4.out (cu_ (Kd.C_below ax6.out (bw9))) bl7.out A5.out).mono ?_);rintro e w' ⟨rfl,⟨nd,rfl⟩⟩))
  go_ret
  exact⟨g4_,bw9⟩
 replace c4:=Bool.eq_false_iff.mpr c4
 subst c4
 replace H:=ifn_ H
 obtain rfl:=Option.some.inj H
 go_enter Try.func124,Try.ntmps124
 go_wp2_with (first|((with_reducible refine gd_ 2 ?_);refine bx_ (N:=2) #[.slice af ab.length ac, .slice ah aa.length ag] 25 ?_;intro ao3 hg g8 hbox hb;have bd0:=A_ (hbox);have md6:=A_ ((g50_:w.heap.size<=ao3));have ji7:=md6;replace HB:=hs_ (bw9) hb;clear hb hbox hg)|((with_reducible refine gd_ 3 ?_);refine bx_ (N:=3) #[.slice mx fj.length mm, .slice nw fn.length nx] 25 ?_;intro bs8 hg uf hbox hb;have gy2:=A_ (hbox);have md7:=A_ ((g50_:w.heap.size<=bs8));have ji8:=md7;replace HB:=hs_ (bw9) hb;have gy3:=nl_ bd0 hg;have gy4:=nr_ bd0 hg;replace bd0:=bb_ bd0 hb;clear hb hbox hg;have ga6:=gy3.out;have ga7:=gy4.out;obtain⟨um,un,uo,uq⟩:=blk2_ bd0;obtain⟨ci5,ci6,ci7,ci8⟩:=blk2_ gy2)|((with_reducible refine gc_ 131 ?_);refine gl_ 9 Try.func131 #[.slice af ab.length ac, .slice mx fj.length mm] ?_;(refine(Ft.calls k _ _ ab _ _ fj false _ (uC_ bg) bw.out (uC_ al0) ax5.out A3.out).mono ?_);rintro e w' ⟨rfl,⟨nd,rfl⟩⟩;refine⟨_,rfl,?_⟩))
 go_ret
 exact⟨g4_,bw9⟩
attribute [local go_sem high] eqA69
def Fb.j0:Nat->Bool->List Int->List (List Int)->List (S25)->List Int->List (List Int)->Option (List Int × (List (List Int)) × (List (S25)) × Bool)
 | 0,_,_,_,_,_,_=>none
 | k + 1,x48,ji9,jj0,gy5,jj1,jj2=>if x48=true then(some (ji9,jj0,gy5,false)) else(if gy5.length < 2932031007402 then((some (gy5 ++ [(⟨ji9,jj0⟩:S25)]:List (S25))).bind fun vf=>(if (vf.length:Int) > 8 then(if 1<=(vf.length:Int) then((Ff.f k jj1 jj2 (vf.drop (1:Int).toNat)).bind fun bt573=>(some (bt573.1,bt573.2.1,bt573.2.2,true))) else(none)) else((Ff.f k jj1 jj2 vf).bind fun bt582=>(some (bt582.1,bt582.2.1,bt582.2.2,true))))) else(none))
def Fb.f (k:Nat) (ab:List Int) (aa:List (List Int)) (aj:List (S25)) (aq:Int) (am:Int) (an:Int) (ao:Int):Option (List Int × (List (List Int)) × (List (S25)) × Bool):=(Ff.f k ab aa aj).bind fun bt534=>(if (aq == 4 && (am == 0 && (an == 0 && (ao == 0))))=true then(if (wrap64 ((bt534.2.2.length:Int) - 1)) < 0 then(some (bt534.1,bt534.2.1,bt534.2.2,false)) else(if 0<=(wrap64 ((bt534.2.2.length:Int) - 1)) then(if (wrap64 ((bt534.2.2.length:Int) - 1)) < (bt534.2.2.length:Int) then(if (wrap64 ((bt534.2.2.length:Int) - 1))<=(bt534.2.2.length:Int) then((Ff.f k ((Js bt534.2.2 (wrap64 ((bt534.2.2.length:Int) - 1))).f0) ((Js bt534.2.2 (wrap64 ((bt534.2.2.length:Int) - 1))).f1) (bt534.2.2.take ((wrap64 ((bt534.2.2.length:Int) - 1)):Int).toNat)).bind fun bt549=>(some (bt549.1,bt549.2.1,bt549.2.2,true))) else(none)) else(none)) else(none))) else((Fq.f k ab aa aq am an ao).bind fun bt558=>(if bt558.2.2=true then((G6.f k bt558.1 bt558.2.1 ab aa).bind fun dk5=>(Fb.j0 k dk5 bt534.1 bt534.2.1 bt534.2.2 bt558.1 bt558.2.1)) else(Fb.j0 k true bt534.1 bt534.2.1 bt534.2.2 bt558.1 bt558.2.1))))
def Fb.T6:Bool × List (List Nat × List Nat):=(true,[([],[]),([0],[0]),([],[]),([1,2],[1,2]),([3],[3]),([],[]),([5],[5]),([],[]),([6,7],[6,7]),([4,8],[4,8]),([9],[9]),([10,10,0,1,2,3,4,5,6,7,8,9,10],[10]),([11,0,1,2,3,4,5,6,7,8,9,10,11],[])])
def Fb.B6:List Nat:=[0,1,0,7,15,0,32,0,224,511,1023,2047,4095]
theorem Fb.tab6:rtab .any (opsOf Try.f102 6)=Fb.T6:=by kernel_rfl
theorem Fb.bits6:waitsOk Fb.T6.2 Fb.B6=true:=by kernel_rfl
theorem Fb.calls_s_q0 {p:Prop} (h:p:=by repeat(first|(with_reducible first|exact HB.out|apply Jk|apply Jj|apply Ji|refine Jh ?_ gy6.out|refine Jh ?_ gy7.out|refine Jh ?_ gy8.out|refine Jh ?_ gy9.out|refine Jh ?_ md8.out)|exact HB.out)):p:=h
set_option maxHeartbeats 8000000 in
set_option maxRecDepth 100000 in
theorem Fb.calls_s (k:Nat) (af:Option Addr) (ac:Nat) (ab:List Int) (ah:Option Addr) (ag:Nat) (aa:List (List Int)) (av:Option Addr) (au:Nat) (aj:List (S25)) (aq:Int) (am:Int) (an:Int) (ao:Int) (r1:List Int) (r2:List (List Int)) (r3:List (S25)) (r4:Bool) (w:World) (cb:Kd.C (Kd.int .i64) w af ab.length ab) (cg:ab.length<=ac) (cc:Kd.C (Kd.slice 3 (Kd.int .i64)) w ah aa.length aa) (ch:aa.length<=ag) (h9:Kd.C k25 w av aj.length aj) (ia:aj.length<=au) (h:Fb.f k ab aa aj aq am an ao=some (r1,r2,r3,r4)) :
  Calls Try.prog 102 #[.agg #[.slice af ab.length ac, .slice ah aa.length ag, .slice av aj.length au], .agg #[.int .i64 aq, .int .i64 am, .int .i64 an, .int .i64 ao]] w fun e w'=>∃v0_ v1_ v2_:Value,e = .returned (.tuple #[.agg #[v0_,v1_,v2_], .bool r4])/\DkS w.heap.size w.heap.size w'.heap.size v0_ v1_ v2_ r1 r2 r3 w'/\Below w.heap.size w w':=by
 have hu28:=Try.underlying28
 have hu69:=Try.underlying69
 have hu25:=Try.underlying25
 have bg:=A_ cb
 have bw:=A_ cg
 clear cb cg
 have bd:=A_ cc
 have b4:=A_ ch
 clear cc ch
 have gg:=A_ h9
 have g3:=A_ ia
 clear h9 ia
 have HB:=A_ (Below.refl w.heap.size w)
 have H:=h
 unfold Fb.f at H
 clear h
 replace H:=Option.bind_eq_some_iff.mp H
 obtain⟨⟨gs,il,fo⟩,zg,H⟩:=H
 try dsimp only at H
 have A3:=A_ zg
 clear zg
 by_cases c4:(aq == 4 && (am == 0 && (an == 0 && (ao == 0))))=true
 case neg=>
  rw[if_neg c4] at H
  have ic:(aq == 4 && (am == 0 && (an == 0 && (ao == 0))))=false:=by simpa using c4
  (try(have fm0:decide (aq=4 && (am == 0 && (an == 0 && (ao == 0))))=false:=by simpa using c4))
  (try(have jj3:(aq == 4 && (am == 0 && (an == 0 && (ao == 0))))=false:=by simpa using c4))
  (try(have ou4:¬ (aq=4 && (am == 0 && (an == 0 && (ao == 0)))):=by simpa using c4))
  clear c4
  replace H:=Option.bind_eq_some_iff.mp H
  obtain⟨⟨js,kw,jl3⟩,jl4,H⟩:=H
  try dsimp only at H
  have A57:=A_ jl4
  clear jl4
  have cs7:=A_ H
  clear H
  go_enter Try.func102,Try.ntmps102
  go_upto_region 8 with(first|((with_reducible refine gd_ 2 ?_);refine bx_ (N:=2) #[.slice af ab.length ac, .slice ah aa.length ag, .slice av aj.length au] 28 ?_;intro lk hg w59 hbox hb;have gp:=A_ (hbox);have jj4:=A_ ((g10_:w.heap.size<=lk));have gy6:=jj4;replace HB:=A_ (Jw (Fb.calls_s_q0) hb);clear hb hbox hg)|((with_reducible refine gd_ 3 ?_);refine bx_ (N:=3) #[.int .i64 aq, .int .i64 am, .int .i64 an, .int .i64 ao] 69 ?_;intro ll hg w60 hbox hb;have ib:=A_ (hbox);have jj5:=A_ ((g10_:w.heap.size<=ll));have gy7:=jj5;replace HB:=A_ (Jw (Fb.calls_s_q0) hb);have dk6:=nl_ gp hg;have dk7:=nr_ gp hg;replace gp:=bb_ gp hb;clear hb hbox hg)|((with_reducible refine gd_ 4 ?_);refine bx_ (N:=4) #[.slice none 0 0, .slice none 0 0, .slice none 0 0] 28 ?_;intro i3 hg w61 hbox hb;have f8:=A_ (hbox);have jj6:=A_ ((g10_:w.heap.size<=i3));have gy8:=jj6;replace HB:=A_ (Jw (Fb.calls_s_q0) hb);have au4:=nl_ gp hg;have au5:=nr_ gp hg;replace gp:=bb_ gp hb;have bd1:=nl_ ib hg;have bd2:=nr_ ib hg;replace ib:=bb_ ib hb;clear hb hbox hg;have fl0:=dk6.out;have fl1:=dk7.out;have jl5:=au4.out;have jl6:=au5.out;obtain⟨jl7,jl8,jl9,jm0,jm1,jm2⟩:=blk3_ gp)|((with_reducible refine gc_ 104 ?_);refine gl_ 12 Try.func104 #[.agg #[.slice af ab.length ac, .slice ah aa.length ag, .slice av aj.length au]] ?_;(refine(Ff.calls_s k _ _ ab _ _ aa _ _ aj gs il fo _ (uC_ bg) bw.out (uC_ bd) b4.out (uC_ gg) g3.out A3.out).mono ?_);rintro e w65 ⟨jj7,jj8,jj9,rfl,hds_,hb⟩;obtain⟨LO,HI,HLO,HDS⟩:=hds_.tk (b:=w.heap.size) (Je (Fb.calls_s_q0));obtain⟨ai,ak,aw⟩:=hds_.tellR;clear hds_;refine⟨_,rfl,?_⟩;have np:=A_ (Kd.R_lower ai (Je (Fb.calls_s_q0)));have nr:=A_ (Kd.S_lower ak (Je (Fb.calls_s_q0)));have j6:=A_ (Kd.R_lower aw (Je (Fb.calls_s_q0)));replace gp:=bb_ gp hb;replace ib:=bb_ ib hb;replace f8:=bb_ f8 hb;replace HB:=A_ (Jw (Fb.calls_s_q0) hb))|((with_reducible refine gd_ 6 ?_);refine bx_ (N:=6) #[.slice none 0 0, .slice none 0 0, .slice none 0 0] 28 ?_;intro eh hg w66 hbox hb;have hd_:=DkS.mv HDS hb (g17_);clear HDS;have HDS:=hd_;clear hd_;replace np:=rb_ np hb;replace nr:=sb_ nr hb;replace j6:=rb_ j6 hb;have im:=A_ (hbox);have jk0:=A_ ((g10_:w.heap.size<=eh));have gy9:=jk0;replace HB:=A_ (Jw (Fb.calls_s_q0) hb);have ad7:=nl_ gp hg;have bs9:=nr_ gp hg;replace gp:=bb_ gp hb;have aj8:=nl_ ib hg;have cg3:=nr_ ib hg;replace ib:=bb_ ib hb;have t2:=nl_ f8 hg;have t5:=nr_ f8 hg;replace f8:=bb_ f8 hb;clear hb hbox hg;obtain⟨pq,pr,mg1⟩:=Kd.R_slice np.out;subst mg1;have gx1:=bs9.out;have gx2:=ad7.out;have eh6:=cg3.out;have eh7:=aj8.out;have go6:=t5.out;have go8:=t2.out;obtain⟨el7,el8,el9,em0,em1,em2⟩:=blk3_ im;obtain⟨oz,o0,em3⟩:=Kd.S_slice nr.out;subst em3;obtain⟨wt,wu,mg2⟩:=Kd.R_slice j6.out;subst mg2;have fe0:=bd1.out;have fe1:=bd2.out;obtain⟨iv2,iv3,iv4,iv5,iv6,iv7,iv8,iv9⟩:=blk4_ ib;obtain⟨dj8,dj9,dk0,dk1,dk2,dk3⟩:=blk3_ gp)|((with_reducible refine gc_ 123 ?_);refine gl_ 38 Try.func123 #[.agg #[.slice af ab.length ac, .slice ah aa.length ag], .agg #[.int .i64 aq, .int .i64 am, .int .i64 an, .int .i64 ao]] ?_;(refine(Fq.calls k _ _ ab _ _ aa aq am an ao js kw jl3 _ (Kd.C_below bg.out (Fb.calls_s_q0)) bw.out (Kd.C_below bd.out (Fb.calls_s_q0)) b4.out A57.out).mono ?_);rintro e w77 ⟨ou5,ou6,rfl,ai,ak,hb⟩;refine⟨_,rfl,?_⟩;have hd_:=DkS.mv HDS hb (g17_);clear HDS;have HDS:=hd_;clear hd_;replace j6:=A_ (Kd.R_mono (Kd.R_told (Kd.R_told (Kd.R_old (ra_ j6) hb) (Kd.R_base ai)) (Kd.S_base ak)) (fun _ h_=>h_.1));have bt0:=A_ (Kd.R_lower (Kd.R_new' ai (Kd.R_lt (ra_ np))) (Je (Fb.calls_s_q0)));have bt1:=A_ (Kd.S_lower (Kd.S_new' (Kd.S_new' ak (Kd.R_lt (ra_ np))) (Kd.S_lt (sa_ nr))) (Je (Fb.calls_s_q0)));replace np:=A_ (Kd.R_elder' (ra_ np) (Kd.R_base ai) hb);replace nr:=A_ (Kd.S_mono (Kd.S_told (Kd.S_told (Kd.S_old (sa_ nr) hb) (Kd.R_base ai)) (Kd.S_base ak)) (fun _ h_=>h_.1));replace gp:=A_ (Jp (g:=lk) (o:=.cells #[.slice af ab.length ac, .slice ah aa.length ag, .slice av aj.length au] 28 (0,0)) (ba_ gp) hb);replace ib:=A_ (Jp (g:=ll) (o:=.cells #[.int .i64 aq, .int .i64 am, .int .i64 an, .int .i64 ao] 69 (0,0)) (ba_ ib) hb);replace f8:=A_ (Jp (g:=i3) (o:=.cells #[.slice none 0 0, .slice none 0 0, .slice none 0 0] 28 (0,0)) (ba_ f8) hb);replace im:=A_ (Jp (g:=eh) (o:=.cells #[.slice pq gs.length pr, .slice oz il.length o0, .slice wt fo.length wu] 28 (0,0)) (ba_ im) hb);replace HB:=A_ (Jw (Fb.calls_s_q0) hb))|((with_reducible refine gd_ 8 ?_);refine bx_ (N:=8) #[.slice none 0 0, .slice none 0 0] 25 ?_;intro ix hg w78 hbox hb;have GH565:=DkS.ge HDS hg (g17_);have hd_:=DkS.mv HDS hb (g17_);clear HDS;have HDS:=hd_;clear hd_;replace np:=rb_ np hb;replace nr:=sb_ nr hb;replace j6:=A_ (Kd.R_below (Kd.R_elderB (uR_ j6) ix (Nat.le_of_eq hg.symm)) hb);replace bt0:=rb_ bt0 hb;replace bt1:=sb_ bt1 hb;have lq:=A_ (hbox);have ou7:=A_ ((g10_:w.heap.size<=ix));have md8:=ou7;replace HB:=A_ (Jw (Fb.calls_s_q0) hb);have cg4:=nl_ gp hg;have fm5:=nr_ gp hg;replace gp:=bb_ gp hb;have cg5:=nl_ ib hg;have fm6:=nr_ ib hg;replace ib:=bb_ ib hb;have bt2:=nl_ f8 hg;have em4:=nr_ f8 hg;replace f8:=bb_ f8 hb;have bt3:=nl_ im hg;have em5:=nr_ im hg;replace im:=bb_ im hb;clear hb hbox hg;obtain⟨lr,lm,mg3⟩:=Kd.R_slice bt0.out;subst mg3;have io8:=fm5.out;have io9:=cg4.out;have lg8:=fm6.out;have lg9:=cg5.out;have ip0:=em4.out;have ip1:=bt2.out;have ky4:=em5.out;have ky5:=bt3.out;obtain⟨mg4,mg5,mg6,mg7⟩:=blk2_ lq;obtain⟨ns,nf,mg8⟩:=Kd.S_slice bt1.out;subst mg8))
  (try simp only[Act.put,List.setIfInBounds_toArray,List.set_cons_zero,List.set_cons_succ])
  go_cut [48] (fun v48 wc=>∃(kq:Nat) (fm7:Bool),v48 = .bool fm7/\Jc (Fb.j0 kq fm7 gs il fo js kw=some (r1,r2,r3,r4))/\Jc (kq<=k)/\Jc (Kd.R (Kd.int .i64) 3 wc w.heap.size (fun k_=>some k_≠((.slice lr js.length lm):Value).ownBlock) (.slice pq gs.length pr) gs)/\Jc (Kd.S (Kd.slice 3 (Kd.int .i64)) 22 wc w.heap.size (fun k_=>some k_≠((.slice pq gs.length pr):Value).ownBlock/\some k_≠((.slice lr js.length lm):Value).ownBlock/\some k_≠((.slice ns kw.length nf):Value).ownBlock) (.slice oz il.length o0) il)/\Jc (Kd.R k25 25 wc w.heap.size (fun k_=>some k_≠((.slice pq gs.length pr):Value).ownBlock/\some k_≠((.slice oz il.length o0):Value).ownBlock/\some k_≠((.slice lr js.length lm):Value).ownBlock/\some k_≠((.slice ns kw.length nf):Value).ownBlock/\k_≠ix) (.slice wt fo.length wu) fo)/\Jc (Kd.R (Kd.int .i64) 3 wc w.heap.size (fun k_=>some k_≠((.slice pq gs.length pr):Value).ownBlock) (.slice lr js.length lm) js)/\Jc (Kd.S (Kd.slice 3 (Kd.int .i64)) 22 wc w.heap.size (fun k_=>some k_≠((.slice pq gs.length pr):Value).ownBlock/\some k_≠((.slice oz il.length o0):Value).ownBlock/\some k_≠((.slice lr js.length lm):Value).ownBlock) (.slice ns kw.length nf) kw)/\Jc (hc_ wc lk #[(.slice af ab.length ac),(.slice ah aa.length ag),(.slice av aj.length au)] 28)/\Jc (hc_ wc ll #[.int .i64 aq, .int .i64 am, .int .i64 an, .int .i64 ao] 69)/\Jc (hc_ wc i3 #[(.slice none 0 0),(.slice none 0 0),(.slice none 0 0)] 28)/\Jc (hc_ wc eh #[(.slice pq gs.length pr),(.slice oz il.length o0),(.slice wt fo.length wu)] 28)/\Jc (hc_ wc ix #[(.slice lr js.length lm),(.slice ns kw.length nf)] 25)/\Jc (Below w.heap.size w wc)/\Jc (DkS w.heap.size LO HI (.slice pq gs.length pr) (.slice oz il.length o0) (.slice wt fo.length wu) gs il fo wc))
  case first=>
   have H:=cs7.out
   clear cs7
   by_cases c86:jl3=true
   case neg=>
    replace c86:=Bool.eq_false_iff.mpr c86
    subst c86
    replace H:=ifn_ H
    have H':=A_ H
    clear H
    go_wp2
    go_meet
    case rel=>exact⟨_,(true),(g3_),H',⟨g9_⟩,⟨ra_ np⟩,⟨sa_ nr⟩,⟨ra_ j6⟩,⟨ra_ bt0⟩,⟨sa_ bt1⟩,⟨ba_ gp⟩,⟨ba_ ib⟩,⟨ba_ f8⟩,⟨ba_ im⟩,⟨ba_ lq⟩,⟨Fb.calls_s_q0⟩,⟨DkS.go HDS (g17_)⟩⟩
   subst c86
   replace H:=ifp_ H
   obtain⟨dk5,A87,H⟩:=bind_ H
   have H':=A_ H
   clear H
   have ou8:=fm5.out
   have ou9:=cg4.out
   have ov0:=fm6.out
   have ov1:=cg5.out
   have ov2:=em4.out
   have ov3:=bt2.out
   have lz1:=em5.out
   have lz2:=bt3.out
   obtain⟨iw0,iw1,iw2,iw3⟩:=blk2_ lq
   have iw4:=dk6.out
   have iw5:=dk7.out
   have iw6:=au4.out
   have iw7:=au5.out
   have gq5:=ad7.out
   have gq6:=bs9.out
   obtain⟨iw8,iw9,ix0,ix1,ix2,ix3⟩:=blk3_ gp
   go_wp2_with (first|(go_at_call 124;(with_reducible refine(G6.calls k _ _ js _ _ kw _ _ ab _ _ aa dk5 _ ?side1 ?side2 ?side3 ?side4 ?side5 ?side6 ?side7 ?side8 A87.out).mono ?_);(case side1=>refine(Kd.R_reads' (e:=3) (base:=w.heap.size) (ok:=fun k_=>(True/\some k_≠(.slice pq gs.length pr:Value).ownBlock)) (n:=js.length) (c:=lm) ?_).2.2;exact(ra_ bt0));(case side2=>exact lR_ bt0);(case side3=>refine(Kd.S_reads' (e:=22) (base:=w.heap.size) (ok:=fun k_=>((some k_≠(.slice lr js.length lm:Value).ownBlock/\some k_≠(.slice pq gs.length pr:Value).ownBlock)/\some k_≠(.slice oz il.length o0:Value).ownBlock)) (n:=kw.length) (c:=nf) ?_).2.2;exact(sa_ bt1));(case side4=>exact lS_ bt1);(case side5=>exact Kd.C_below bg.out (Fb.calls_s_q0));(case side6=>exact bw.out);(case side7=>exact Kd.C_below bd.out (Fb.calls_s_q0));(case side8=>exact b4.out);rintro e w97 ⟨rfl,hb⟩;have hd_:=DkS.mv HDS hb (g17_);clear HDS;have HDS:=hd_;clear hd_;replace np:=A_ (Kd.R_below (ra_ np) hb);replace nr:=A_ (Kd.S_below (sa_ nr) hb);replace j6:=A_ (Kd.R_below (ra_ j6) hb);replace bt0:=A_ (Kd.R_below (ra_ bt0) hb);replace bt1:=A_ (Kd.S_below (sa_ bt1) hb);replace gp:=A_ (Jp (g:=lk) (o:=.cells #[.slice af ab.length ac, .slice ah aa.length ag, .slice av aj.length au] 28 (0,0)) (ba_ gp) hb);replace ib:=A_ (Jp (g:=ll) (o:=.cells #[.int .i64 aq, .int .i64 am, .int .i64 an, .int .i64 ao] 69 (0,0)) (ba_ ib) hb);replace f8:=A_ (Jp (g:=i3) (o:=.cells #[.slice none 0 0, .slice none 0 0, .slice none 0 0] 28 (0,0)) (ba_ f8) hb);replace im:=A_ (Jp (g:=eh) (o:=.cells #[.slice pq gs.length pr, .slice oz il.length o0, .slice wt fo.length wu] 28 (0,0)) (ba_ im) hb);replace lq:=A_ (Jp (g:=ix) (o:=.cells #[.slice lr js.length lm, .slice ns kw.length nf] 25 (0,0)) (ba_ lq) hb);replace HB:=A_ (Jw (Fb.calls_s_q0) hb)))
   go_meet
   case rel=>exact⟨_,(dk5),(g3_),H',⟨g9_⟩,⟨by(with_reducible repeat(first|apply Kd.R_alloc|apply Kd.R_drewN|apply Kd.R_drew));exact Kd.R_mono np.out (fun _ hk=>hk.2)⟩,⟨by(with_reducible repeat(first|apply Kd.S_alloc|apply Kd.S_drewN|apply Kd.S_drew));exact Kd.S_mono nr.out (fun _ hk=>⟨hk.1.1,⟨hk.1.2,hk.2⟩⟩)⟩,⟨by(with_reducible repeat(first|apply Kd.R_alloc|apply Kd.R_drewN|apply Kd.R_drew));exact Kd.R_mono j6.out (fun _ hk=>⟨hk.1.1.1.1,⟨hk.1.1.1.2,⟨hk.1.1.2,⟨hk.1.2,hk.2⟩⟩⟩⟩)⟩,⟨by(with_reducible repeat(first|apply Kd.R_alloc|apply Kd.R_drewN|apply Kd.R_drew));exact Kd.R_mono bt0.out (fun _ hk=>hk.2)⟩,⟨by(with_reducible repeat(first|apply Kd.S_alloc|apply Kd.S_drewN|apply Kd.S_drew));exact Kd.S_mono bt1.out (fun _ hk=>⟨hk.1.2,⟨hk.2,hk.1.1⟩⟩)⟩,⟨uB_ gp⟩,⟨uB_ ib⟩,⟨uB_ f8⟩,⟨uB_ im⟩,⟨uB_ lq⟩,⟨Fb.calls_s_q0⟩,⟨DkS.go HDS (g17_)⟩⟩
  clear cs7
  clear HDS;obtain⟨kq,fm7,rfl,HA,HJ57,fm8,fm9,si,t6,t7,gp,ib,f8,im,lq,HB,HDS⟩:=hcut
  cases kq with
  | zero=>exact absurd HA.out (by simp[Fb.j0])
  | succ kj57=>?_
  have H:=HA.out
  clear HA
  simp only[Fb.j0] at H
  by_cases c98:fm7=true
  ·subst c98
   replace H:=ifp_ H
   simp only[Option.some.injEq,Prod.mk.injEq] at H
   obtain⟨rfl,rfl,rfl,rfl⟩:=H
   have ov5:=bs9.out
   have ov6:=ad7.out
   have ov7:=cg3.out
   have ov8:=aj8.out
   have ov9:=t5.out
   have ow0:=t2.out
   have ow1:=bt3.out
   have ow2:=em5.out
   obtain⟨ow3,ow4,ow5,ow6,ow7,ow8⟩:=blk3_ im
   have fe6:=au5.out
   have fe7:=au4.out
   have fe8:=bd2.out
   have fe9:=bd1.out
   have ff0:=bt2.out
   have ff1:=em4.out
   obtain⟨cs8,cs9,dg6,ct0,ct1,dg7⟩:=blk3_ f8
   go_wp2
   refine bodyPost_ret (Jy rfl _ _ i3 28 #[.slice pq gs.length pr, .slice oz il.length o0, .slice wt fo.length wu] (0,0) _ rfl (ba_ f8) Try.underlying28 rfl (g1_)) rfl ?_
   exact⟨_,_,_,g4_,DkS.end_ HDS HLO (g17_),Fb.calls_s_q0⟩
  replace c98:=Bool.eq_false_iff.mpr c98
  subst c98
  replace H:=ifn_ H
  obtain⟨em6,H⟩:=pos_ H
  have jm3:=A_ em6
  clear em6
  obtain⟨vf,hyq⟩:∃y_:List (S25),y_=(fo ++ [(⟨gs,il⟩:S25)]):=⟨_,rfl⟩
  replace H:(if (vf.length:Int) > 8 then(if 1<=(vf.length:Int) then((Ff.f kj57 js kw (vf.drop (1:Int).toNat)).bind fun bt573=>(some (bt573.1,bt573.2.1,bt573.2.2,true))) else(none)) else((Ff.f kj57 js kw vf).bind fun bt582=>(some (bt582.1,bt582.2.1,bt582.2.2,true))))=some (r1,r2,r3,r4):=qh_
  have jm4:=A_ hyq
  clear hyq
  by_cases bt4:(vf.length:Int) > 8
  ·rw[if_pos bt4] at H
   have mg9:=decide_eq_true bt4
   have mh0:decide (8 < vf.length)=true:=decide_eq_true (by omega)
   clear bt4
   obtain⟨fn0,H⟩:=pos_ H
   have ow9:=eq_true fn0
   have ox0:=decide_eq_true fn0
   clear fn0
   obtain⟨cw2,hyq⟩:∃y_:List (S25),y_=(vf.drop (1:Int).toNat):=⟨_,rfl⟩
   replace H:((Ff.f kj57 js kw cw2).bind fun bt573=>(some (bt573.1,bt573.2.1,bt573.2.2,true)))=some (r1,r2,r3,r4):=qh_
   have jm5:=A_ hyq
   clear hyq
   replace H:=Option.bind_eq_some_iff.mp H
   obtain⟨⟨fn1,gz3,jm6⟩,jm7,H⟩:=H
   try dsimp only at H
   have mh1:=A_ jm7
   clear jm7
   simp only[Option.some.injEq,Prod.mk.injEq] at H
   obtain⟨rfl,rfl,rfl,rfl⟩:=H
   have mh2:=bs9.out
   have mh3:=ad7.out
   have gp5:=cg3.out
   have gp6:=aj8.out
   have jm8:=t5.out
   have jm9:=t2.out
   have ix9:=bt3.out
   have iy0:=em5.out
   obtain⟨ox1,ox2,ox3,ox4,ox5,ox6⟩:=blk3_ im
   go_wp2_with (first|((with_reducible refine gate_builtin (b:=.append) (xs:=#[.tmp 51, .tmp 54]) rfl ?_);at_builtin;refine Kd.R_append k25 (w0:=w) w.heap.size rfl (.tmp 51) (.tmp 54) 26 25 (.agg #[(.slice none 0 0),(.slice none 0 0)]) 48 rfl Try.underlying26 info25 rfl (by decide) (by omega) (.slice wt fo.length wu) fo (⟨gs,il⟩:S25) [.slice pq gs.length pr, .slice oz il.length o0] (fun k_=>some k_≠(.slice lr js.length lm:Value).ownBlock/\some k_≠(.slice ns kw.length nf:Value).ownBlock/\k_≠ix) (fun k_=>((fun k_=>some k_≠(.slice lr js.length lm:Value).ownBlock/\some k_≠(.slice ns kw.length nf:Value).ownBlock/\k_≠ix)) k_/\some k_≠(.slice wt fo.length wu:Value).ownBlock) rfl rfl ?aP (fun _ hk=>hk) ?aF ?aO ?aB ?aS ?aL ?_;(case aP=>exact k25_mkM _ _ _ (⟨gs,il⟩:S25) (Kd.R_mono (Kd.R_types (Kd.R_apart' (Kd.R_apart' (fm8.out) (Kd.S_typed t7.out) (by decide)) (Kd.R_typed si.out) (by decide)) lq.out (by decide)) (fun k_ hk=>⟨⟨hk.1.1.1,⟨hk.1.1.2,hk.2⟩⟩,hk.1.2⟩)) (Kd.R_mono (Kd.R_types (Kd.R_apart' ((Kd.S_R fm9.out)) (Kd.R_typed si.out) (by decide)) lq.out (by decide)) (fun k_ hk=>⟨⟨hk.1.1.2.1,⟨hk.1.1.2.2,hk.2⟩⟩,hk.1.2⟩)));(case aB=>exact(Fb.calls_s_q0));(case aF=>exact(fun k_ hk=>⟨Kd.fresh' (Kd.R_lt (uR_ t6)) k_ hk,Kd.fresh' (Kd.S_lt (uS_ t7)) k_ hk,Kd.freshB (g:=ix) (o:=.cells #[.slice lr js.length lm, .slice ns kw.length nf] 25 (0,0)) (uB_ lq) k_ hk⟩));(case aO=>exact(yR_ si (fun _ hk=>⟨hk.2.2.1,⟨hk.2.2.2.1,hk.2.2.2.2⟩⟩)));(case aS=>exact(Je (Fb.calls_s_q0)));(case aL=>have:=jm3.out;omega);intro mh4 ip7 ho hb hg hat;rw[<- jm4.out] at ho;replace t6:=A_ (Kd.R_over' (uR_ t6) (Kd.R_typed (uR_ si)) (by decide) hg);replace t7:=A_ (Kd.S_over' (uS_ t7) (Kd.R_typed (uR_ si)) (by decide) hg);replace gp:=(bg_ gp hg (Kd.R_ne si.out gp.out (by decide)));replace ib:=(bg_ ib hg (Kd.R_ne si.out ib.out (by decide)));replace f8:=(bg_ f8 hg (Kd.R_ne si.out f8.out (by decide)));replace im:=(bg_ im hg (Kd.R_ne si.out im.out (by decide)));replace lq:=(bg_ lq hg (Kd.R_away si.out (fun _ hk=>hk.2.2.2.2)));replace HB:=A_ (hb);have bk2:=A_ (ho);clear si fm8 fm9;clear ho hb hg hat;obtain⟨em7,fn2,mh5⟩:=Kd.R_slice bk2.out;subst mh5;have ax7:(1:Int)<=((vf.length:Int):Int):=od_;obtain⟨i0119,jn0,_,hsz119,_⟩:=info_parts info25;have hcut119:=cut_from (P:=Try.prog) 26 25 .i64 Try.underlying26 jn0 2 hsz119 em7 vf.length fn2 1 (by omega) ax7;have em8:=Kd.Q_drop (k:=(1:Int).toNat) (Kd.Q_of_R bk2.out) (by omega);obtain⟨gz4,hA119⟩:∃A1,A1=(if fn2=(1:Int).toNat then em7 else(em7:Option Addr).map (·.add ((1:Int).toNat * 2))):=⟨_,rfl⟩;obtain⟨fn3,gz5⟩:∃c1,c1=fn2 - (1:Int).toNat:=⟨_,rfl⟩;have hy119:cw2.length=vf.length - (1:Int).toNat:=(by rw[jm5.out,List.length_drop]);rw[<- jm5.out] at em8;rw[<- hy119, <- hA119, <- gz5] at hcut119;replace em8:Kd.Q k25 25 ip7 w.heap.size (fun k_=>some k_≠(.slice lr js.length lm:Value).ownBlock/\some k_≠(.slice ns kw.length nf:Value).ownBlock/\k_≠ix) (.slice gz4 cw2.length fn3) cw2:=(by rw[hA119,gz5,hy119];exact em8);have HE119:Jc ((Value.slice gz4 cw2.length fn3).ownBlock=(.slice em7 vf.length fn2:Value).ownBlock):=⟨by rw[hA119];split <;> (cases(em7:Option Addr) <;> rfl)⟩;clear hy119 jn0 hsz119 bk2 hA119 gz5;have em9:=A_ em8;clear em8;replace ax7:=eq_true ax7;have mh6:=fm5.out;have mh7:=cg4.out;have mb2:=fm6.out;have mb3:=cg5.out;have ox7:=em4.out;have ox8:=bt2.out;obtain⟨ox9,oy0,oy1,oy2⟩:=blk2_ lq)|((with_reducible refine gc_ 104 ?_);refine gl_ 64 Try.func104 #[.agg #[.slice lr js.length lm, .slice ns kw.length nf, .slice gz4 cw2.length fn3]] ?_;(refine(Ff.calls_s kj57 _ _ js _ _ kw _ _ cw2 fn1 gz3 jm6 _ (cR_ t6) (lR_ t6) (cS_ t7) (lS_ t7) (cQ_ em9) (lQ_ em9) mh1.out).mono ?_);rintro e mb4 ⟨oy3,oy4,oy5,rfl,hds_,hb⟩;obtain⟨LO,HI,HLO,HDS⟩:=hds_.tk (b:=w.heap.size) (Je (Fb.calls_s_q0));obtain⟨ai,ak,aw⟩:=hds_.tellR;clear hds_;refine⟨_,rfl,?_⟩;have mh8:=A_ (Kd.R_lower (Kd.R_new' ai (Kd.R_lt (uR_ t6))) (Je (Fb.calls_s_q0)));have mh9:=A_ (Kd.S_lower (Kd.S_new' (Kd.S_new' ak (Kd.R_lt (uR_ t6))) (Kd.S_lt (uS_ t7))) (Je (Fb.calls_s_q0)));have mi0:=A_ (Kd.R_lower (Kd.R_newB (Kd.R_new' (Kd.R_new' (Kd.R_new' aw (Kd.R_lt (uR_ t6))) (Kd.S_lt (uS_ t7))) (Kd.Q_lt (uQ_ em9))) (g:=ix) (o:=.cells #[.slice lr js.length lm, .slice ns kw.length nf] 25 (0,0)) (uB_ lq)) (Je (Fb.calls_s_q0)));replace t6:=A_ (Kd.R_elder' (uR_ t6) (Kd.R_base ai) hb);replace t7:=A_ (Kd.S_mono (Kd.S_told (Kd.S_told (Kd.S_old (uS_ t7) hb) (Kd.R_base ai)) (Kd.S_base ak)) (fun _ h_=>h_.1));replace em9:=A_ (Kd.Q_mono (Kd.Q_told (Kd.Q_told (Kd.Q_told (Kd.Q_old (uQ_ em9) hb) (Kd.R_base ai)) (Kd.S_base ak)) (Kd.R_base aw)) (fun _ h_=>h_.1));replace gp:=bb_ gp hb;replace ib:=bb_ ib hb;replace f8:=bb_ f8 hb;replace im:=bb_ im hb;replace lq:=bb_ lq hb;replace HB:=A_ (Jw (Fb.calls_s_q0) hb);obtain⟨bk0,bk1,gx8⟩:=Kd.R_slice mh8.out;subst gx8;have gp9:=au5.out;have gq0:=au4.out;have ji0:=bd2.out;have ji1:=bd1.out;obtain⟨oy6,oy7,oy8,oy9,oz0,oz1⟩:=blk3_ f8;obtain⟨jn1,jn2,mi1⟩:=Kd.S_slice mh9.out;subst mi1;obtain⟨cv5,cv6,gx9⟩:=Kd.R_slice mi0.out;subst gx9))
   refine bodyPost_ret (Jy rfl _ _ i3 28 #[.slice bk0 fn1.length bk1, .slice jn1 gz3.length jn2, .slice cv5 jm6.length cv6] (0,0) _ rfl (ba_ f8) Try.underlying28 rfl (g1_)) rfl ?_
   exact⟨_,_,_,g4_,DkS.end_ HDS HLO (g17_),Fb.calls_s_q0⟩
  rw[if_neg bt4] at H
  have mg9:=decide_eq_false bt4
  have mh0:decide (8 < vf.length)=false:=decide_eq_false (by omega)
  clear bt4
  replace H:=Option.bind_eq_some_iff.mp H
  obtain⟨⟨fn4,gz6,jn3⟩,jn4,H⟩:=H
  try dsimp only at H
  have mi2:=A_ jn4
  clear jn4
  simp only[Option.some.injEq,Prod.mk.injEq] at H
  obtain⟨rfl,rfl,rfl,rfl⟩:=H
  have mc4:=bs9.out
  have mc5:=ad7.out
  have iq7:=cg3.out
  have iq8:=aj8.out
  have oz2:=t5.out
  have oz3:=t2.out
  have mc6:=bt3.out
  have mc7:=em5.out
  obtain⟨mc8,mc9,oz4,md0,md1,oz5⟩:=blk3_ im
  go_wp2_with (first|((with_reducible refine gate_builtin (b:=.append) (xs:=#[.tmp 51, .tmp 54]) rfl ?_);at_builtin;refine Kd.R_append k25 (w0:=w) w.heap.size rfl (.tmp 51) (.tmp 54) 26 25 (.agg #[(.slice none 0 0),(.slice none 0 0)]) 48 rfl Try.underlying26 info25 rfl (by decide) (by omega) (.slice wt fo.length wu) fo (⟨gs,il⟩:S25) [.slice pq gs.length pr, .slice oz il.length o0] (fun k_=>some k_≠(.slice lr js.length lm:Value).ownBlock/\some k_≠(.slice ns kw.length nf:Value).ownBlock/\k_≠ix) (fun k_=>((fun k_=>some k_≠(.slice lr js.length lm:Value).ownBlock/\some k_≠(.slice ns kw.length nf:Value).ownBlock/\k_≠ix)) k_/\some k_≠(.slice wt fo.length wu:Value).ownBlock) rfl rfl ?aP (fun _ hk=>hk) ?aF ?aO ?aB ?aS ?aL ?_;(case aP=>exact k25_mkM _ _ _ (⟨gs,il⟩:S25) (Kd.R_mono (Kd.R_types (Kd.R_apart' (Kd.R_apart' (fm8.out) (Kd.S_typed t7.out) (by decide)) (Kd.R_typed si.out) (by decide)) lq.out (by decide)) (fun k_ hk=>⟨⟨hk.1.1.1,⟨hk.1.1.2,hk.2⟩⟩,hk.1.2⟩)) (Kd.R_mono (Kd.R_types (Kd.R_apart' ((Kd.S_R fm9.out)) (Kd.R_typed si.out) (by decide)) lq.out (by decide)) (fun k_ hk=>⟨⟨hk.1.1.2.1,⟨hk.1.1.2.2,hk.2⟩⟩,hk.1.2⟩)));(case aB=>exact(Fb.calls_s_q0));(case aF=>exact(fun k_ hk=>⟨Kd.fresh' (Kd.R_lt (uR_ t6)) k_ hk,Kd.fresh' (Kd.S_lt (uS_ t7)) k_ hk,Kd.freshB (g:=ix) (o:=.cells #[.slice lr js.length lm, .slice ns kw.length nf] 25 (0,0)) (uB_ lq) k_ hk⟩));(case aO=>exact(yR_ si (fun _ hk=>⟨hk.2.2.1,⟨hk.2.2.2.1,hk.2.2.2.2⟩⟩)));(case aS=>exact(Je (Fb.calls_s_q0)));(case aL=>have:=jm3.out;omega);intro mh4 lc7 ho hb hg hat;rw[<- jm4.out] at ho;replace t6:=A_ (Kd.R_over' (uR_ t6) (Kd.R_typed (uR_ si)) (by decide) hg);replace t7:=A_ (Kd.S_over' (uS_ t7) (Kd.R_typed (uR_ si)) (by decide) hg);replace gp:=(bg_ gp hg (Kd.R_ne si.out gp.out (by decide)));replace ib:=(bg_ ib hg (Kd.R_ne si.out ib.out (by decide)));replace f8:=(bg_ f8 hg (Kd.R_ne si.out f8.out (by decide)));replace im:=(bg_ im hg (Kd.R_ne si.out im.out (by decide)));replace lq:=(bg_ lq hg (Kd.R_away si.out (fun _ hk=>hk.2.2.2.2)));replace HB:=A_ (hb);have bk2:=A_ (ho);clear si fm8 fm9;clear ho hb hg hat;obtain⟨mi3,mi4,mi5⟩:=Kd.R_slice bk2.out;subst mi5;have oz6:=fm5.out;have oz7:=cg4.out;have mi6:=fm6.out;have mi7:=cg5.out;have ir0:=em4.out;have ir1:=bt2.out;obtain⟨oz8,oz9,pa0,pa1⟩:=blk2_ lq)|((with_reducible refine gc_ 104 ?_);refine gl_ 64 Try.func104 #[.agg #[.slice lr js.length lm, .slice ns kw.length nf, .slice mi3 vf.length mi4]] ?_;(refine(Ff.calls_s kj57 _ _ js _ _ kw _ _ vf fn4 gz6 jn3 _ (cR_ t6) (lR_ t6) (cS_ t7) (lS_ t7) (cR_ bk2) (lR_ bk2) mi2.out).mono ?_);rintro e pa2 ⟨pa3,pa4,pa5,rfl,hds_,hb⟩;obtain⟨LO,HI,HLO,HDS⟩:=hds_.tk (b:=w.heap.size) (Je (Fb.calls_s_q0));obtain⟨ai,ak,aw⟩:=hds_.tellR;clear hds_;refine⟨_,rfl,?_⟩;have mi8:=A_ (Kd.R_lower (Kd.R_new' ai (Kd.R_lt (uR_ t6))) (Je (Fb.calls_s_q0)));have mi9:=A_ (Kd.S_lower (Kd.S_new' (Kd.S_new' ak (Kd.R_lt (uR_ t6))) (Kd.S_lt (uS_ t7))) (Je (Fb.calls_s_q0)));have mj0:=A_ (Kd.R_lower (Kd.R_newB (Kd.R_new' (Kd.R_new' (Kd.R_new' aw (Kd.R_lt (uR_ t6))) (Kd.S_lt (uS_ t7))) (Kd.R_lt (uR_ bk2))) (g:=ix) (o:=.cells #[.slice lr js.length lm, .slice ns kw.length nf] 25 (0,0)) (uB_ lq)) (Je (Fb.calls_s_q0)));replace t6:=A_ (Kd.R_elder' (uR_ t6) (Kd.R_base ai) hb);replace t7:=A_ (Kd.S_mono (Kd.S_told (Kd.S_told (Kd.S_old (uS_ t7) hb) (Kd.R_base ai)) (Kd.S_base ak)) (fun _ h_=>h_.1));replace bk2:=A_ (Kd.R_mono (Kd.R_told (Kd.R_told (Kd.R_told (Kd.R_old (uR_ bk2) hb) (Kd.R_base ai)) (Kd.S_base ak)) (Kd.R_base aw)) (fun _ h_=>h_.1));replace gp:=bb_ gp hb;replace ib:=bb_ ib hb;replace f8:=bb_ f8 hb;replace im:=bb_ im hb;replace lq:=bb_ lq hb;replace HB:=A_ (Jw (Fb.calls_s_q0) hb);obtain⟨gz7,gz8,mj1⟩:=Kd.R_slice mi8.out;subst mj1;have ld6:=au5.out;have ld7:=au4.out;have ld8:=bd2.out;have ld9:=bd1.out;obtain⟨le0,le1,pa6,le2,le3,pa7⟩:=blk3_ f8;obtain⟨zu,zv,gz9⟩:=Kd.S_slice mi9.out;subst gz9;obtain⟨bd3,bd4,ha0⟩:=Kd.R_slice mj0.out;subst ha0))
  refine bodyPost_ret (Jy rfl _ _ i3 28 #[.slice gz7 fn4.length gz8, .slice zu gz6.length zv, .slice bd3 jn3.length bd4] (0,0) _ rfl (ba_ f8) Try.underlying28 rfl (g1_)) rfl ?_
  exact⟨_,_,_,g4_,DkS.end_ HDS HLO (g17_),Fb.calls_s_q0⟩
 rw[if_pos c4] at H
 have ic:(aq == 4 && (am == 0 && (an == 0 && (ao == 0))))=true:=c4
 (try(have fm0:decide (aq=4 && (am == 0 && (an == 0 && (ao == 0))))=true:=by simpa using c4))
 (try(have jj3:(aq == 4 && (am == 0 && (an == 0 && (ao == 0))))=true:=by simpa using c4))
 clear c4
 by_cases c5:(wrap64 ((fo.length:Int) - 1)) < 0
 ·rw[if_pos c5] at H
  have kn:=decide_eq_true c5
  clear c5
  simp only[Option.some.injEq,Prod.mk.injEq] at H
  obtain⟨rfl,rfl,rfl,rfl⟩:=H
  go_enter Try.func102,Try.ntmps102
  go_wp2_with (first|((with_reducible refine gd_ 2 ?_);refine bx_ (N:=2) #[.slice af ab.length ac, .slice ah aa.length ag, .slice av aj.length au] 28 ?_;intro lk hg w6 hbox hb;have gp:=A_ (hbox);have jj4:=A_ ((g10_:w.heap.size<=lk));have gy6:=jj4;replace HB:=A_ (Jw (Fb.calls_s_q0) hb);clear hb hbox hg)|((with_reducible refine gd_ 3 ?_);refine bx_ (N:=3) #[.int .i64 aq, .int .i64 am, .int .i64 an, .int .i64 ao] 69 ?_;intro ll hg w7 hbox hb;have ib:=A_ (hbox);have jj5:=A_ ((g10_:w.heap.size<=ll));have gy7:=jj5;replace HB:=A_ (Jw (Fb.calls_s_q0) hb);have dk6:=nl_ gp hg;have dk7:=nr_ gp hg;replace gp:=bb_ gp hb;clear hb hbox hg)|((with_reducible refine gd_ 4 ?_);refine bx_ (N:=4) #[.slice none 0 0, .slice none 0 0, .slice none 0 0] 28 ?_;intro i3 hg w8 hbox hb;have f8:=A_ (hbox);have jj6:=A_ ((g10_:w.heap.size<=i3));have gy8:=jj6;replace HB:=A_ (Jw (Fb.calls_s_q0) hb);have au4:=nl_ gp hg;have au5:=nr_ gp hg;replace gp:=bb_ gp hb;have bd1:=nl_ ib hg;have bd2:=nr_ ib hg;replace ib:=bb_ ib hb;clear hb hbox hg;have da4:=dk6.out;have da5:=dk7.out;have ct3:=au4.out;have ct4:=au5.out;obtain⟨sr,ss,ax8,st,su,ax9⟩:=blk3_ gp)|((with_reducible refine gc_ 104 ?_);refine gl_ 12 Try.func104 #[.agg #[.slice af ab.length ac, .slice ah aa.length ag, .slice av aj.length au]] ?_;(refine(Ff.calls_s k _ _ ab _ _ aa _ _ aj gs il fo _ (uC_ bg) bw.out (uC_ bd) b4.out (uC_ gg) g3.out A3.out).mono ?_);rintro e uf ⟨jj7,jj8,jj9,rfl,hds_,hb⟩;obtain⟨LO,HI,HLO,HDS⟩:=hds_.tk (b:=w.heap.size) (Je (Fb.calls_s_q0));obtain⟨ai,ak,aw⟩:=hds_.tellR;clear hds_;refine⟨_,rfl,?_⟩;have np:=A_ (Kd.R_lower ai (Je (Fb.calls_s_q0)));have nr:=A_ (Kd.S_lower ak (Je (Fb.calls_s_q0)));have j6:=A_ (Kd.R_lower aw (Je (Fb.calls_s_q0)));replace gp:=bb_ gp hb;replace ib:=bb_ ib hb;replace f8:=bb_ f8 hb;replace HB:=A_ (Jw (Fb.calls_s_q0) hb))|((with_reducible refine gd_ 6 ?_);refine bx_ (N:=6) #[.slice none 0 0, .slice none 0 0, .slice none 0 0] 28 ?_;intro eh hg km hbox hb;have hd_:=DkS.mv HDS hb (g17_);clear HDS;have HDS:=hd_;clear hd_;replace np:=rb_ np hb;replace nr:=sb_ nr hb;replace j6:=rb_ j6 hb;have im:=A_ (hbox);have jk0:=A_ ((g10_:w.heap.size<=eh));have gy9:=jk0;replace HB:=A_ (Jw (Fb.calls_s_q0) hb);have ad7:=nl_ gp hg;have bs9:=nr_ gp hg;replace gp:=bb_ gp hb;have aj8:=nl_ ib hg;have cg3:=nr_ ib hg;replace ib:=bb_ ib hb;have t2:=nl_ f8 hg;have t5:=nr_ f8 hg;replace f8:=bb_ f8 hb;clear hb hbox hg;obtain⟨nz,k8,bn4⟩:=Kd.R_slice np.out;subst bn4;have dd9:=bs9.out;have de0:=ad7.out;have fd0:=cg3.out;have fd1:=aj8.out;have jf6:=t5.out;have jf7:=t2.out;obtain⟨ap7,ap8,cl0,ap9,aq0,cl1⟩:=blk3_ im;obtain⟨zd,ze,ba6⟩:=Kd.S_slice nr.out;subst ba6;obtain⟨bj7,bj8,ek2⟩:=Kd.R_slice j6.out;subst ek2;have ij2:=bd1.out;have ij3:=bd2.out;obtain⟨af6,af7,ds9,md9,af8,af9,dt0,me0⟩:=blk4_ ib;obtain⟨bx4,bx5,db4,bx6,bx7,db5⟩:=blk3_ f8))
  refine bodyPost_ret (Jy rfl _ _ i3 28 #[.slice nz gs.length k8, .slice zd il.length ze, .slice bj7 fo.length bj8] (0,0) _ rfl (ba_ f8) Try.underlying28 rfl (g1_)) rfl ?_
  exact⟨_,_,_,g4_,DkS.end_ HDS HLO (g17_),Fb.calls_s_q0⟩
 rw[if_neg c5] at H
 have kn:=decide_eq_false c5
 clear c5
 obtain⟨ji24,hji24⟩:∃j_:Int,(wrap64 ((fo.length:Int) - 1))=j_:=⟨_,rfl⟩
 first|rw[hji24] at H|simp only[hji24] at H
 (try rw[hji24] at kn)
 (try rw[hji24] at A3)
 have hji24w:(IntKind.i64.wrap ((fo.length:Int) - 1))=ji24:=(i64_w _).trans hji24
 obtain⟨bg1,H⟩:=pd_ H
 obtain⟨co0,H⟩:=pd_ H
 have cb0:=eq_true (od_:0<=(ji24))
 obtain⟨lo,H⟩:=pos_ H
 have bp0:=eq_true lo
 have me1:=decide_eq_true lo
 clear lo
 obtain⟨el3,hyq⟩:∃y_:List (S25),y_=(fo.take ((ji24):Int).toNat):=⟨_,rfl⟩
 replace H:((Ff.f k ((Js fo (ji24)).f0) ((Js fo (ji24)).f1) el3).bind fun bt549=>(some (bt549.1,bt549.2.1,bt549.2.2,true)))=some (r1,r2,r3,r4):=qh_
 have jk1:=A_ hyq
 clear hyq
 replace H:=Option.bind_eq_some_iff.mp H
 obtain⟨⟨fm1,gz0,jk2⟩,jk3,H⟩:=H
 try dsimp only at H
 have A29:=A_ jk3
 clear jk3
 simp only[Option.some.injEq,Prod.mk.injEq] at H
 obtain⟨rfl,rfl,rfl,rfl⟩:=H
 go_enter Try.func102,Try.ntmps102
 try go_wp2_with (first|((with_reducible refine gd_ 2 ?_);refine bx_ (N:=2) #[.slice af ab.length ac, .slice ah aa.length ag, .slice av aj.length au] 28 ?_;intro lk hg px hbox hb;have gp:=A_ (hbox);have jj4:=A_ ((g10_:w.heap.size<=lk));have gy6:=jj4;replace HB:=A_ (Jw (Fb.calls_s_q0) hb);clear hb hbox hg)|((with_reducible refine gd_ 3 ?_);refine bx_ (N:=3) #[.int .i64 aq, .int .i64 am, .int .i64 an, .int .i64 ao] 69 ?_;intro ll hg w31 hbox hb;have ib:=A_ (hbox);have jj5:=A_ ((g10_:w.heap.size<=ll));have gy7:=jj5;replace HB:=A_ (Jw (Fb.calls_s_q0) hb);have dk6:=nl_ gp hg;have dk7:=nr_ gp hg;replace gp:=bb_ gp hb;clear hb hbox hg)|((with_reducible refine gd_ 4 ?_);refine bx_ (N:=4) #[.slice none 0 0, .slice none 0 0, .slice none 0 0] 28 ?_;intro i3 hg w32 hbox hb;have f8:=A_ (hbox);have jj6:=A_ ((g10_:w.heap.size<=i3));have gy8:=jj6;replace HB:=A_ (Jw (Fb.calls_s_q0) hb);have au4:=nl_ gp hg;have au5:=nr_ gp hg;replace gp:=bb_ gp hb;have bd1:=nl_ ib hg;have bd2:=nr_ ib hg;replace ib:=bb_ ib hb;clear hb hbox hg;have ca5:=dk6.out;have ca6:=dk7.out;have eg5:=au4.out;have eg6:=au5.out;obtain⟨bo1,bo2,cd8,bo3,bo4,cd9⟩:=blk3_ gp)|((with_reducible refine gc_ 104 ?_);refine gl_ 12 Try.func104 #[.agg #[.slice af ab.length ac, .slice ah aa.length ag, .slice av aj.length au]] ?_;(refine(Ff.calls_s k _ _ ab _ _ aa _ _ aj gs il fo _ (uC_ bg) bw.out (uC_ bd) b4.out (uC_ gg) g3.out A3.out).mono ?_);rintro e kt ⟨jj7,jj8,jj9,rfl,hds_,hb⟩;obtain⟨LO,HI,HLO,HDS⟩:=hds_.tk (b:=w.heap.size) (Je (Fb.calls_s_q0));obtain⟨ai,ak,aw⟩:=hds_.tellR;clear hds_;refine⟨_,rfl,?_⟩;have np:=A_ (Kd.R_lower ai (Je (Fb.calls_s_q0)));have nr:=A_ (Kd.S_lower ak (Je (Fb.calls_s_q0)));have j6:=A_ (Kd.R_lower aw (Je (Fb.calls_s_q0)));replace gp:=bb_ gp hb;replace ib:=bb_ ib hb;replace f8:=bb_ f8 hb;replace HB:=A_ (Jw (Fb.calls_s_q0) hb))|((with_reducible refine gd_ 6 ?_);refine bx_ (N:=6) #[.slice none 0 0, .slice none 0 0, .slice none 0 0] 28 ?_;intro eh hg tb hbox hb;have hd_:=DkS.mv HDS hb (g17_);clear HDS;have HDS:=hd_;clear hd_;replace np:=rb_ np hb;replace nr:=sb_ nr hb;replace j6:=rb_ j6 hb;have im:=A_ (hbox);have jk0:=A_ ((g10_:w.heap.size<=eh));have gy9:=jk0;replace HB:=A_ (Jw (Fb.calls_s_q0) hb);have ad7:=nl_ gp hg;have bs9:=nr_ gp hg;replace gp:=bb_ gp hb;have aj8:=nl_ ib hg;have cg3:=nr_ ib hg;replace ib:=bb_ ib hb;have t2:=nl_ f8 hg;have t5:=nr_ f8 hg;replace f8:=bb_ f8 hb;clear hb hbox hg;obtain⟨k5,jr,aq9⟩:=Kd.R_slice np.out;subst aq9;have os1:=bs9.out;have os2:=ad7.out;have os3:=cg3.out;have os4:=aj8.out;have me2:=t5.out;have me3:=t2.out;obtain⟨me4,me5,me6,me7,me8,me9⟩:=blk3_ im;obtain⟨n9,nj,bi4⟩:=Kd.S_slice nr.out;subst bi4;obtain⟨ea,dz,gz1⟩:=Kd.R_slice j6.out;subst gz1;have ea3:=bd1.out;have ea4:=bd2.out;obtain⟨gj8,gj9,mf0,mf1,gk0,gk1,mf2,mf3⟩:=blk4_ ib))
 generalize hw_:(((tb.setCell ⟨eh,0,none⟩ (.slice k5 gs.length jr)).setCell ⟨eh,1,none⟩ (.slice n9 il.length nj)).setCell ⟨eh,2,none⟩ (.slice ea fo.length dz))=w47
 have n0_:Jc (Kd.R (Kd.int .i64) 3 w47 w.heap.size (fun _=>True) (.slice k5 gs.length jr) gs):=A_ (by rw[<- hw_];exact ra_ np)
 have n1_:Jc (Kd.S (Kd.slice 3 (Kd.int .i64)) 22 w47 w.heap.size (fun k_=>some k_≠(.slice k5 gs.length jr:Value).ownBlock) (.slice n9 il.length nj) il):=A_ (by rw[<- hw_];exact sa_ nr)
 have n2_:Jc (Kd.R k25 25 w47 w.heap.size (fun k_=>some k_≠(.slice k5 gs.length jr:Value).ownBlock/\some k_≠(.slice n9 il.length nj:Value).ownBlock) (.slice ea fo.length dz) fo):=A_ (by rw[<- hw_];exact ra_ j6)
 have n3_:Jc (hc_ w47 lk #[.slice af ab.length ac, .slice ah aa.length ag, .slice av aj.length au] 28):=A_ (by rw[<- hw_];exact ba_ gp)
 have n4_:Jc (hc_ w47 ll #[.int .i64 aq, .int .i64 am, .int .i64 an, .int .i64 ao] 69):=A_ (by rw[<- hw_];exact ba_ ib)
 have n5_:Jc (hc_ w47 i3 #[.slice none 0 0, .slice none 0 0, .slice none 0 0] 28):=A_ (by rw[<- hw_];exact ba_ f8)
 have n6_:Jc (hc_ w47 eh #[.slice k5 gs.length jr, .slice n9 il.length nj, .slice ea fo.length dz] 28):=A_ (by rw[<- hw_];exact ba_ im)
 have n7_:Jc (Below w.heap.size w w47):=A_ (by rw[<- hw_];exact Fb.calls_s_q0)
 clear hw_
 have np:=n0_
 have nr:=n1_
 have j6:=n2_
 have gp:=n3_
 have ib:=n4_
 have f8:=n5_
 have im:=n6_
 have HB:=n7_
 clear n0_ n1_ n2_ n3_ n4_ n5_ n6_ n7_
 replace np:=rd_ np
 replace nr:=sd_ nr
 replace j6:=rd_ j6
 replace gp:=bd_ gp
 replace ib:=bd_ ib
 replace f8:=bd_ f8
 replace im:=bd_ im
 replace HB:=A_ (Ji HB.out)
 have el4:0<=((ji24):Int):=od_
 have el5:(ji24) < (fo.length:Int):=od_
 obtain⟨cw1,jk4,jk5,jk6,jk7,mf4,fm2,fm3,jk8,jk9,jl0,jl1⟩:=at_T25 (Kd.R_reads' j6.out).2.2 (ji24) el4 el5
 cases mf4
 obtain⟨ce544,hce544,hMe544,hcc544⟩:=Kd.R_get j6.out z25 (ji24) el4 (by first|exact el5|exact od_|(have e_:=(Kd.R_reads' j6.out).1;omega))
 obtain⟨ve544_0,ve544_1,rfl,ge544_0,ge544_1⟩:=k25_openM hMe544
 have hv544_0:=hcc544 0 _ rfl
 rw[Nat.add_zero] at hv544_0
 replace hv544_0:=Option.some.inj (hv544_0.symm.trans fm2)
 rw[hv544_0] at ge544_0
 have dk8:=A_ (show Kd.R (Kd.int .i64) 3 _ _ _ _ ((Js fo (ji24)).f0) from ge544_0)
 clear hv544_0 ge544_0
 have hv544_1:=hcc544 1 _ rfl
 rw[add_field _ _ 1 (by omega)] at hv544_1
 replace hv544_1:=Option.some.inj (hv544_1.symm.trans fm3)
 rw[hv544_1] at ge544_1
 have el6:=A_ (show Kd.R (Kd.slice 3 (Kd.int .i64)) 22 _ _ _ _ ((Js fo (ji24)).f1) from ge544_1)
 clear hv544_1 ge544_1
 clear hcc544 hce544
 have dk9:=A_ jk9
 have mf5:=A_ jk8
 clear jk9 jk8
 have dl0:=A_ jl1
 have mf6:=A_ jl0
 clear jl1 jl0
 replace el4:=eq_true el4
 replace el5:=eq_true el5
 have q49:((ji24):Int)<=((fo.length:Int):Int):=od_
 obtain⟨i049,jl2,_,hsz49,_⟩:=info_parts info25
 have hroom49:fo.length<=dz:=(Kd.R_reads' j6.out).2.1
 have hC49:Kd.C k25 _ (some cw1) fo.length fo:=(Kd.R_reads' j6.out).2.2
 have hcut49:=cut_to (P:=Try.prog) 26 25 .i64 Try.underlying26 jl2 (some cw1) fo.length dz (ji24) (od_) q49 hroom49
 have gz2:=Kd.C_take (m:=((ji24):Int).toNat) hC49 (by omega)
 have hy49:el3.length=((ji24):Int).toNat:=(by rw[jk1.out,List.length_take];omega)
 rw[<- jk1.out] at gz2
 rw[<- hy49] at hcut49
 have dl1:=A_ gz2
 have mf7:=A_ (show el3.length<=dz from by omega)
 clear gz2 hC49 hroom49 jl2 hsz49
 have KY49:=A_ hy49
 clear hy49
 have KL49:=A_ (show((ji24):Int).toNat<=fo.length from by omega)
 replace q49:=eq_true q49
 refine start_ (n:=13) (S:=fun w'=>w'.cell? ⟨eh,0,none⟩=some (.slice k5 gs.length jr)/\w'.cell? ⟨eh,1,none⟩=some (.slice n9 il.length nj)/\w'.cell? ⟨eh,2,none⟩=some (.slice (some cw1) fo.length dz)/\w'.cell? (cw1.add (((ji24)).toNat * 2))=some (.slice jk4 ((Js fo (ji24)).f0).length jk5)/\w'.cell? ⟨(cw1.add (((ji24)).toNat * 2)).block,(cw1.add (((ji24)).toNat * 2)).off + 1,none⟩=some (.slice jk6 ((Js fo (ji24)).f1).length jk7)) (ds:=[]) (tl_ 13 0) (g1_) rfl (g1_) ⟨(Jd im.out 0).trans rfl,(Jd im.out 1).trans rfl,(Jd im.out 2).trans rfl,fm2,fm3⟩ (fun hHeld=>?_);refine Jx Fb.tab6 Fb.bits6 (fun HT_ HW_=>?_)
 generalize w47.drew=w48 at np nr j6 gp ib f8 im HB dk8 el6 dk9 dl0 dl1 fm2 fm3 hHeld |-
 refine pw_ 0 23 (tl_ 13 1) ?_
 refine pw_ 2 25 (tl_ 13 5) ?_
 refine pw_ 5 28 (tl_ 13 37) ?_
 refine pw_ 7 30 (tl_ 13 165) ?_
 refine tk4_ 1 24 (tl_ 13 167) hHeld ?_
 refine pw_ 3 26 (tl_ 13 175) ?_
 refine tk4_ 4 27 (tl_ 13 191) hHeld ?_
 refine tk4_ 6 29 (tl_ 13 255) hHeld ?_
 refine pw_ 8 31 (tl_ 13 511) ?_
 refine pw_ 9 32 (tl_ 13 1023) ?_
 refine one_ (i:=10) (N:=some 33) (tl_ 13 2047) rfl rfl (Jz HT_.out (g1_)) (by decide) (fun K hK=>?_)
 refine goes_ Try.func104 (g1_) rfl #[.agg #[.slice jk4 ((Js fo (ji24)).f0).length jk5, .slice jk6 ((Js fo (ji24)).f1).length jk7, .slice (some cw1) el3.length dz]] (by rfl) rfl rfl (by(try simp only[List.map_toArray,List.map_cons,List.map_nil]);first|done|(simp only[hji24];rfl)|rfl|(simp only[List.length_drop,List.length_take];rfl)) ?_
 with_reducible refine(Ff.calls_s k _ _ ((Js fo (ji24)).f0) _ _ ((Js fo (ji24)).f1) _ _ el3 fm1 gz0 jk2 _ ?side1 ?side2 ?side3 ?side4 ?side5 ?side6 A29.out).mono ?_
 (case side1=>repeat(first|exact(by repeat(first|(with_reducible exact dk9.out)|(with_reducible refine Kd.C_alloc ?_ _)|(with_reducible refine Kd.C_drewN ?_ _)|(with_reducible refine Kd.C_drew ?_)|exact dk9.out))|(with_reducible refine Kd.C_alloc ?_ _)|(with_reducible refine Kd.C_drewN ?_ _)|(with_reducible refine Kd.C_drew ?_)))
 (case side2=>exact mf5.out)
 (case side3=>repeat(first|exact(by repeat(first|(with_reducible exact dl0.out)|(with_reducible refine Kd.C_alloc ?_ _)|(with_reducible refine Kd.C_drewN ?_ _)|(with_reducible refine Kd.C_drew ?_)|exact dl0.out))|(with_reducible refine Kd.C_alloc ?_ _)|(with_reducible refine Kd.C_drewN ?_ _)|(with_reducible refine Kd.C_drew ?_)))
 (case side4=>exact mf6.out)
 (case side5=>repeat(first|exact(by repeat(first|(with_reducible exact dl1.out)|(with_reducible refine Kd.C_alloc ?_ _)|(with_reducible refine Kd.C_drewN ?_ _)|(with_reducible refine Kd.C_drew ?_)|exact dl1.out))|(with_reducible refine Kd.C_alloc ?_ _)|(with_reducible refine Kd.C_drewN ?_ _)|(with_reducible refine Kd.C_drew ?_)))
 (case side6=>exact mf7.out)
 rintro e w50 ⟨os5,os6,os7,rfl,hds_,hb⟩
 obtain⟨LO,HI,HLO,HDS⟩:=hds_.tk (b:=w.heap.size) (Je (Fb.calls_s_q0))
 obtain⟨ai,ak,aw⟩:=hds_.tellR
 clear hds_
 have HS3_:=(hb.cell (World.block_lt_of_cell? _ _ (hHeld.2.2.2.1))).trans (hHeld.2.2.2.1)
 have HS4_:=(hb.cell (World.block_lt_of_cell? _ _ (hHeld.2.2.2.2))).trans (hHeld.2.2.2.2)
 refine⟨_,rfl,?_⟩
 have mf8:=A_ (Kd.R_lower (Kd.R_new' (Kd.R_new' ai (Kd.R_lt (uR_ np))) (Kd.R_lt (uR_ dk8))) (Je (Fb.calls_s_q0)))
 have mf9:=A_ (Kd.S_lower (Kd.S_new' (Kd.S_new' (Kd.S_new' (Kd.S_new' ak (Kd.R_lt (uR_ np))) (Kd.S_lt (uS_ nr))) (Kd.R_lt (uR_ dk8))) (Kd.R_lt (uR_ el6))) (Je (Fb.calls_s_q0)))
 have mg0:=A_ (Kd.R_lower (Kd.R_new' (Kd.R_new' (Kd.R_new' (Kd.R_new' (Kd.R_new' aw (Kd.R_lt (uR_ np))) (Kd.S_lt (uS_ nr))) (Kd.R_lt (uR_ j6))) (Kd.R_lt (uR_ dk8))) (Kd.R_lt (uR_ el6))) (Je (Fb.calls_s_q0)))
 replace np:=A_ (Kd.R_elder' (uR_ np) (Kd.R_base ai) hb)
 replace nr:=A_ (Kd.S_mono (Kd.S_told (Kd.S_told (Kd.S_old (uS_ nr) hb) (Kd.R_base ai)) (Kd.S_base ak)) (fun _ h_=>h_.1))
 replace j6:=A_ (Kd.R_mono (Kd.R_told (Kd.R_told (Kd.R_told (Kd.R_old (uR_ j6) hb) (Kd.R_base ai)) (Kd.S_base ak)) (Kd.R_base aw)) (fun _ h_=>h_.1))
 replace dk8:=A_ (Kd.R_elder' (uR_ dk8) (Kd.R_base ai) hb)
 replace el6:=A_ (Kd.R_mono (Kd.R_told (Kd.R_told (Kd.R_old (uR_ el6) hb) (Kd.R_base ai)) (Kd.S_base ak)) (fun _ h_=>h_.1))
 replace gp:=bb_ gp hb
 replace ib:=bb_ ib hb
 replace f8:=bb_ f8 hb
 replace im:=bb_ im hb
 replace dk9:=A_ (Kd.C_below (by repeat(first|(with_reducible exact dk9.out)|(with_reducible refine Kd.C_alloc ?_ _)|(with_reducible refine Kd.C_drewN ?_ _)|(with_reducible refine Kd.C_drew ?_)|exact dk9.out)) hb)
 replace dl0:=A_ (Kd.C_below (by repeat(first|(with_reducible exact dl0.out)|(with_reducible refine Kd.C_alloc ?_ _)|(with_reducible refine Kd.C_drewN ?_ _)|(with_reducible refine Kd.C_drew ?_)|exact dl0.out)) hb)
 replace dl1:=A_ (Kd.C_below (by repeat(first|(with_reducible exact dl1.out)|(with_reducible refine Kd.C_alloc ?_ _)|(with_reducible refine Kd.C_drewN ?_ _)|(with_reducible refine Kd.C_drew ?_)|exact dl1.out)) hb)
 replace HB:=A_ (Jw (Fb.calls_s_q0) hb)
 obtain⟨bp,bn,dh0⟩:=Kd.R_slice mf8.out
 (first|subst dh0|(injection dh0 with f1_ f2_ f3_;have f4_:=f1_.symm;have f5_:=f3_.symm;clear f1_ f2_ f3_;subst f4_;subst f5_))
 obtain⟨rk,rl,fm4⟩:=Kd.S_slice mf9.out
 (first|subst fm4|(injection fm4 with f1_ f2_ f3_;have f4_:=f1_.symm;have f5_:=f3_.symm;clear f1_ f2_ f3_;subst f4_;subst f5_))
 obtain⟨xo,wi,cq4⟩:=Kd.R_slice mg0.out
 (first|subst cq4|(injection cq4 with f1_ f2_ f3_;have f4_:=f1_.symm;have f5_:=f3_.symm;clear f1_ f2_ f3_;subst f4_;subst f5_))
 refine hK.out _ _ ⟨(Jd im.out 0).trans rfl,(Jd im.out 1).trans rfl,(Jd im.out 2).trans rfl,HS3_,HS4_⟩ (fun hHeld=>?_)
 clear hK K
 refine nm_ ?_
 refine one_ (i:=11) (N:=none) (tl_ 13 4095) rfl rfl (Jz HT_.out (g1_)) (by decide) (fun K hK=>?_)
 have os8:w50.cell? ⟨i3,0,none⟩=some (.slice none 0 0):=(Jd f8.out 0).trans rfl
 have os9:=Jo f8.out 0
 have ot0:=au4.out
 have ot1:=bd1.out
 have ot2:=t5.out
 have ot3:=au5.out
 have ot4:=bd2.out
 have ot5:=t2.out
 have ot6:w50.cell? ⟨i3,1,none⟩=some (.slice none 0 0):=(Jd f8.out 1).trans rfl
 have ot7:=Jo f8.out 1
 have kt8:w50.cell? ⟨i3,2,none⟩=some (.slice none 0 0):=(Jd f8.out 2).trans rfl
 have kt9:=Jo f8.out 2
 refine skip_ (w1:=?_) (by rfl) rfl ?_ ?_
 rotate_left
 ·go_simp
  rfl
 refine hK.out _ _ ⟨(cf_ t5 ((cf_ t5 ((cf_ t5 (hHeld.1)))))),(cf_ t5 ((cf_ t5 ((cf_ t5 (hHeld.2.1)))))),(cf_ t5 ((cf_ t5 ((cf_ t5 (hHeld.2.2.1)))))),((cell_far (p:=⟨i3,_,none⟩) (g86_) _).trans (((cell_far (p:=⟨i3,_,none⟩) (g86_) _).trans (((cell_far (p:=⟨i3,_,none⟩) (g86_) _).trans (hHeld.2.2.2.1)))))),((cell_far (p:=⟨i3,_,none⟩) (g86_) _).trans (((cell_far (p:=⟨i3,_,none⟩) (g86_) _).trans (((cell_far (p:=⟨i3,_,none⟩) (g86_) _).trans (hHeld.2.2.2.2))))))⟩ (fun hHeld=>?_)
 clear hK K
 refine pw_ 12 5 (tl_ 13 8191) ?_
 refine done_ (done_of HT_.out (g1_)) ?_
 try go_wp2
 refine bodyPost_ret (Jy rfl _ _ i3 28 #[.slice bp fm1.length bn, .slice rk gz0.length rl, .slice xo jk2.length wi] (0,0) _ rfl (ba_ f8) Try.underlying28 rfl (g1_)) rfl ?_
 exact⟨_,_,_,by first|rfl|(simp[errW_none,errW_some] <;> rfl)|(simp only[<- hji24];first|rfl|(simp[errW_none,errW_some] <;> rfl))|(simp[*,errW_none,errW_some] <;> rfl),DkS.end_ HDS HLO (g17_),Fb.calls_s_q0⟩
end Go.Proofs.Ytfooakkhkehpiaa.PE
namespace Go.Proofs.Ytfooakkhkehpiaa.PE
open Go.RowKit Go.Proofs.YtfooakkhkehpiaaW.PrintWords Go.Proofs.YtfooakkhkehpiaaW.PrintLast Go.Proofs.YtfooakkhkehpiaaW.PrintMore Go.Proofs.Ytfooakkhkehpiaa.Qe
attribute [local go_sem] max2_int min2_int max_two min_two max_three min_three max_four min_four
set_option linter.unusedVariables false
set_option linter.unusedSimpArgs false
def F8.f (a0:Int) (a1:Int) (a2:Int):Option (Bool):=if a0 ≥ a1 then(some (decide (a0<=a2))) else(some false)
set_option maxHeartbeats 8000000 in
set_option maxRecDepth 100000 in
theorem F8.calls (a0:Int) (a1:Int) (a2:Int) (r:Bool) (w:World) (h:F8.f a0 a1 a2=some r) :
  Calls Try.prog 65 #[.int .i64 a0, .int .i64 a1, .int .i64 a2] w fun e w'=>e = .returned (.bool r)/\Drawn0 w w':=by
 have H:=h
 unfold F8.f at H
 clear h
 by_cases c4:a0 ≥ a1
 ·rw[if_pos c4] at H
  have ic:=decide_eq_true c4
  clear c4
  obtain rfl:=Option.some.inj H
  go_enter Try.func65,Try.ntmps65
  go_wp2
  go_ret
  exact⟨g3_,g5_⟩
 rw[if_neg c4] at H
 have ic:=decide_eq_false c4
 clear c4
 obtain rfl:=Option.some.inj H
 go_enter Try.func65,Try.ntmps65
 go_wp2
 go_ret
 exact⟨g3_,g5_⟩
mutual
def Fh.j0:Nat->Bool->List Int->List (List Int)->Option (Bool)
 | 0,_,_,_=>none
 | k + 1,x18,al3,xi=>if x18=true then(some false) else(Fh.l0 k 0 al3 xi)
def Fh.l0:Nat->Int->List Int->List (List Int)->Option (Bool)
 | 0,_,_,_=>none
 | k + 1,x3,al3,xi=>if x3 < (al3.length:Int) then(if 0<=x3 then((F8.f (rd al3 x3) 0 20).bind fun fx4=>(if fx4=true then(if x3 < (xi.length:Int) then(if ((Jr xi x3).length:Int)=(al3.length:Int) then(if x3 < ((Jr xi x3).length:Int) then(Fh.j2 k x3 ((rd (Jr xi x3) x3) != 0) al3 xi) else(none)) else(Fh.j2 k x3 true al3 xi)) else(none)) else(Fh.j2 k x3 true al3 xi))) else(none)) else(some true)
def Fh.j2:Nat->Int->Bool->List Int->List (List Int)->Option (Bool)
 | 0,_,_,_,_=>none
 | k + 1,x3,x55,al3,xi=>if x55=true then(some false) else(Fh.l1 k x3 0 al3 xi)
def Fh.l1:Nat->Int->Int->List Int->List (List Int)->Option (Bool)
 | 0,_,_,_,_=>none
 | k + 1,x3,x4,al3,xi=>if 0<=x3 then(if x3 < (xi.length:Int) then(if x4 < ((Jr xi x3).length:Int) then(if 0<=x4 then((F8.f (rd (Jr xi x3) x4) 0 9).bind fun fx5=>(if fx5=true then(Fh.l1 k x3 (wrap64 (x4 + 1)) al3 xi) else(some false))) else(none)) else(Fh.l0 k (wrap64 (x3 + 1)) al3 xi)) else(none)) else(none)
end
def Fh.f (k:Nat) (ab:List Int) (aa:List (List Int)):Option (Bool):=(F8.f (ab.length:Int) 1 4).bind fun dw5=>(if dw5=true then(Fh.j0 k ((aa.length:Int) != (ab.length:Int)) ab aa) else(Fh.j0 k true ab aa))
def Fh.T6:Bool × List (List Nat × List Nat):=(true,[([],[]),([0],[0]),([],[]),([1,2],[1,2]),([3],[3]),([4],[4]),([5],[5]),([6,5],[6]),([7],[7]),([8,7],[7,8]),([7],[7]),([9,10,7],[7,9,10]),([11,7],[7,11]),([12,7],[7,12]),([7],[7]),([14,7],[7,14]),([15,7],[7,15]),([13,16,7],[7,13,16]),([7,17],[7,17]),([18,7],[18]),([19],[19]),([20,19],[19,20]),([19],[19]),([21,22,19],[19,21,22]),([23,19],[19,23]),([19],[19]),([24,25,19],[19,24,25]),([26,19],[19,26]),([27,19],[19,27]),([19,28],[19,28])])
def Fh.B6:List Nat:=[0,1,0,7,15,31,63,127,255,511,255,2047,4095,8191,255,16639,49407,131071,262143,524287,1048575,2097151,1048575,8388607,16777215,1048575,67108863,134217727,268435455,536870911]
theorem Fh.tab6:rtab .any (opsOf Try.f42 6)=Fh.T6:=by kernel_rfl
theorem Fh.bits6:waitsOk Fh.T6.2 Fh.B6=true:=by kernel_rfl
theorem aa3 {p:Prop} (h:p:=by repeat(first|(with_reducible first|exact HB.out|apply Jk|apply Jj|apply Ji|refine Jh ?_ kc1.out)|exact HB.out)):p:=h
set_option maxHeartbeats 8000000 in
set_option maxRecDepth 100000 in
theorem Fh.calls (k:Nat) (af:Option Addr) (ac:Nat) (ab:List Int) (ah:Option Addr) (ag:Nat) (aa:List (List Int)) (r:Bool) (w:World) (cb:Kd.C (Kd.int .i64) w af ab.length ab) (cg:ab.length<=ac) (cc:Kd.C (Kd.slice 3 (Kd.int .i64)) w ah aa.length aa) (ch:aa.length<=ag) (h:Fh.f k ab aa=some r) :
  Calls Try.prog 42 #[.agg #[.slice af ab.length ac, .slice ah aa.length ag]] w fun e w'=>e = .returned (.bool r)/\Below w.heap.size w w':=by
 have hu25:=Try.underlying25
 have bg:=A_ cb
 have bw:=A_ cg
 clear cb cg
 have bd:=A_ cc
 have b4:=A_ ch
 clear cc ch
 have HB:=A_ (Below.refl w.heap.size w)
 have H:=h
 unfold Fh.f at H
 clear h
 have HC2:=A_ H
 clear H
 go_enter Try.func42,Try.ntmps42
 go_upto_region 1 with(first|((with_reducible refine gd_ 1 ?_);(try(refine gate_guard (by rfl) ?_;dsimp only));refine bx_ (N:=1) #[.slice af ab.length ac, .slice ah aa.length ag] 25 ?_;intro aq3 hg w3 hbox hb;have ki:=A_ (hbox);have ni7:=A_ ((by rw[hg];exact(Je (aa3)):w.heap.size<=aq3));have kc1:=ni7;replace HB:=hs_ (aa3) hb;clear hb hbox hg))
 (try simp only[Act.put,List.setIfInBounds_toArray,List.set_cons_zero,List.set_cons_succ])
 go_cut [18] (fun v18 wc=>∃(kq:Nat) (et6:Bool),v18 = .bool et6/\Jc (Fh.j0 kq et6 ab aa=some r)/\Jc (kq<=k)/\Jc (hc_ wc aq3 #[(.slice af ab.length ac),(.slice ah aa.length ag)] 25)/\Jc (Below w.heap.size w wc))
 case first=>
  have H:=HC2.out
  clear HC2
  obtain⟨dw5,A4,H⟩:=bind_ H
  by_cases c5:dw5=true
  ·subst c5
   replace H:=ifp_ H
   have H':=A_ H
   clear H
   obtain⟨ur,us,ut,uu⟩:=blk2_ ki
   go_wp2_with (first|((with_reducible refine gc_ 65 ?_);refine gl_ 8 Try.func65 #[.int .i64 (ab.length:Int), .int .i64 1, .int .i64 4] ?_;(with_reducible refine(F8.calls (ab.length:Int) 1 4 true _ A4.out).mono ?_);rintro e w' ⟨rfl,⟨nd,rfl⟩⟩;refine⟨_,rfl,?_⟩))
   go_meet
   case rel=>exact⟨_,(((aa.length:Int) != (ab.length:Int))),(g3_),H',⟨g9_⟩,⟨uB_ ki⟩,⟨aa3⟩⟩
  replace c5:=Bool.eq_false_iff.mpr c5
  subst c5
  replace H:=ifn_ H
  have H':=A_ H
  clear H
  obtain⟨aa9,ab0,ab1,ab2⟩:=blk2_ ki
  go_wp2_with (first|((with_reducible refine gc_ 65 ?_);refine gl_ 8 Try.func65 #[.int .i64 (ab.length:Int), .int .i64 1, .int .i64 4] ?_;(with_reducible refine(F8.calls (ab.length:Int) 1 4 false _ A4.out).mono ?_);rintro e w' ⟨rfl,⟨nd,rfl⟩⟩;refine⟨_,rfl,?_⟩))
  go_meet
  case rel=>exact⟨_,(true),(g3_),H',⟨g9_⟩,⟨uB_ ki⟩,⟨aa3⟩⟩
 clear HC2
 obtain⟨kq,et6,rfl,HA,HJ1,ki,HB⟩:=hcut
 cases kq with
 | zero=>exact absurd HA.out (by simp[Fh.j0])
 | succ kj1=>?_
 have H:=HA.out
 clear HA
 simp only[Fh.j0] at H
 by_cases c8:et6=true
 ·subst c8
  replace H:=ifp_ H
  obtain rfl:=Option.some.inj H
  go_wp2
  go_ret
  exact⟨g4_,aa3⟩
 replace c8:=Bool.eq_false_iff.mpr c8
 subst c8
 replace H:=ifn_ H
 have H':=A_ H
 clear H
 go_wp2
 go_loopg [3] kj1 (fun kq v3 w'=>∃(ed:Int),v3 = .int .i64 ed/\Jc (Fh.l0 kq ed ab aa=some r)/\Jc (kq<=kj1)/\Jc (hc_ w' aq3 #[(.slice af ab.length ac),(.slice ah aa.length ag)] 25)/\Jc (Below w.heap.size w w'))
 case atStart=>exact⟨(0),(g3_),H',⟨Nat.le_refl _⟩,⟨uB_ ki⟩,⟨aa3⟩⟩
 clear H'
 obtain⟨ed,rfl,HA,HK2,ki,HB⟩:=hrel
 cases gk with
 | zero=>exact absurd HA.out (by simp[Fh.l0])
 | succ k2=>?_
 have H:=HA.out
 clear HA
 simp only[Fh.l0] at H
 by_cases c9:ed < (ab.length:Int)
 case neg=>
  rw[if_neg c9] at H
  have xg:=decide_eq_false c9
  clear c9
  obtain rfl:=Option.some.inj H
  obtain⟨cm7,cm8,cm9,cn0⟩:=blk2_ ki
  go_wp2
  go_ret
  exact⟨g4_,aa3⟩
 rw[if_pos c9] at H
 have xg:=decide_eq_true c9
 clear c9
 have fx6:=A_ H
 clear H
 obtain⟨sr,ss,st,su⟩:=blk2_ ki
 go_upto_region 6 with(fail)
 go_cut [55] (fun v55 wc=>∃(kq:Nat) (et7:Bool),v55 = .bool et7/\Jc (Fh.j2 kq ed et7 ab aa=some r)/\Jc (kq<=k2)/\Jc (hc_ wc aq3 #[(.slice af ab.length ac),(.slice ah aa.length ag)] 25)/\Jc (Below w.heap.size w wc))
 case first=>
  have H:=fx6.out
  clear fx6
  obtain⟨aq4,H⟩:=pd_ H
  (first|rw[aq4]|(simp only[i64_w,i32_w];rw[aq4])|skip)
  obtain⟨fx4,A13,H⟩:=bind_ H
  by_cases jl:fx4=true
  case neg=>
   replace jl:=Bool.eq_false_iff.mpr jl
   subst jl
   replace H:=ifn_ H
   have H':=A_ H
   clear H
   try go_wp2
   replace ki:=bd_ ki
   replace HB:=A_ (Ji HB.out)
   obtain⟨⟨by9,dw6,yv⟩,al5,al6⟩:=rdp_ (Kd.at_int bg.out ed)
   have bz0:=yv
   cases dw6
   replace yv:=cl_ HB yv
   refine start_ (n:=30) (S:=fun w'=>w'.cell? ⟨aq3,0,none⟩=some (.slice (some by9) ab.length ac)/\w'.cell? ⟨aq3,1,none⟩=some (.slice ah aa.length ag)/\w'.cell? (by9.add (ed).toNat)=some (.int .i64 (rd ab ed))) (ds:=[]) (tl_ 30 0) (g1_) rfl (g1_) ⟨(Jd ki.out 0).trans rfl,(Jd ki.out 1).trans rfl,((cl_ HB bz0).trans rfl)⟩ (fun hHeld=>?_);refine Jx Fh.tab6 Fh.bits6 (fun HT_ HW_=>?_)
   generalize wr.drew=w20 at ki HB yv hHeld |-
   refine pw_ 0 26 (tl_ 30 1) ?_
   refine pw_ 2 28 (tl_ 30 5) ?_
   refine tk2_ 1 27 (tl_ 30 7) hHeld ?_
   refine pw_ 3 29 (tl_ 30 15) ?_
   refine tk2_ 4 30 (tl_ 30 31) hHeld ?_
   refine one_ (i:=5) (N:=some 31) (tl_ 30 63) rfl rfl (Jz HT_.out (g1_)) (by decide) (fun K hK=>?_)
   refine goes_ Try.func65 (g1_) rfl #[.int .i64 (rd ab ed), .int .i64 0, .int .i64 20] (by rfl) rfl rfl (gM_) ?_
   with_reducible refine(F8.calls (rd ab ed) 0 20 false _ A13.out).mono ?_
   rintro e w' ⟨rfl,⟨nd,rfl⟩⟩
   refine⟨_,rfl,?_⟩
   refine hK.out _ _ ⟨(Jd ki.out 0).trans rfl,(Jd ki.out 1).trans rfl,((cl_ HB bz0).trans rfl)⟩ (fun hHeld=>?_)
   clear hK K
   refine nm_ ?_
   refine pw_ 6 32 (tl_ 30 127) ?_
   refine pw_ 7 33 (tl_ 30 255) ?_
   refine pu_ 8 34 (tl_ 30 511) ?_
   refine pu_ 9 35 (tl_ 30 1023) ?_
   refine pu_ 10 36 (tl_ 30 2047) ?_
   refine pu_ 11 37 (tl_ 30 4095) ?_
   refine pu_ 12 38 (tl_ 30 8191) ?_
   refine pu_ 13 39 (tl_ 30 16383) ?_
   refine pu_ 14 40 (tl_ 30 32767) ?_
   refine pu_ 15 41 (tl_ 30 65535) ?_
   refine pu_ 16 42 (tl_ 30 131071) ?_
   refine pu_ 17 43 (tl_ 30 262143) ?_
   refine pw_ 18 44 (tl_ 30 524287) ?_
   refine pw_ 19 45 (tl_ 30 1048575) ?_
   refine pu_ 20 46 (tl_ 30 2097151) ?_
   refine pu_ 21 47 (tl_ 30 4194303) ?_
   refine pu_ 22 48 (tl_ 30 8388607) ?_
   refine pu_ 23 49 (tl_ 30 16777215) ?_
   refine pu_ 24 50 (tl_ 30 33554431) ?_
   refine pu_ 25 51 (tl_ 30 67108863) ?_
   refine pu_ 26 52 (tl_ 30 134217727) ?_
   refine pu_ 27 53 (tl_ 30 268435455) ?_
   refine pu_ 28 54 (tl_ 30 536870911) ?_
   refine pw_ 29 55 (tl_ 30 1073741823) ?_
   refine done_ (done_of HT_.out (g1_)) ?_
   try go_wp2
   go_meet
   case rel=>exact⟨_,(true),(g3_),H',⟨g54_⟩,⟨uB_ ki⟩,⟨aa3⟩⟩
  subst jl
  replace H:=ifp_ H
  obtain⟨pf,H⟩:=pd_ H
  by_cases jb:((Jr aa ed).length:Int)=(ab.length:Int)
  case neg=>
   rw[if_neg jb] at H
   have ag9:(((Jr aa ed).length:Int) == (ab.length:Int))=false:=beq_eq_false_iff_ne.mpr jb
   have fx7:(((Jr aa ed).length:Int) != (ab.length:Int))=true:=bne_iff_ne.mpr jb
   have fx8:((Jr aa ed).length == ab.length)=false:=by first|simpa using jb|(simp at jb |-;omega)
   have H':=A_ H
   clear H
   try go_wp2
   replace ki:=bd_ ki
   replace HB:=A_ (Ji HB.out)
   obtain⟨⟨by9,dw6,yv⟩,al5,al6⟩:=rdp_ (Kd.at_int bg.out ed)
   have bz0:=yv
   cases dw6
   replace yv:=cl_ HB yv
   obtain⟨⟨cm1,ht1,et8,fx9,aq5,dw7,dw8⟩,bn5,bn6⟩:=rdp_ (at_L1 bd.out ed)
   have dw9:=aq5
   cases fx9
   replace aq5:=cl_ HB aq5
   have fy0:=A_ dw8
   have kc2:=A_ dw7
   clear dw8 dw7
   refine start_ (n:=30) (S:=fun w'=>w'.cell? ⟨aq3,0,none⟩=some (.slice (some by9) ab.length ac)/\w'.cell? ⟨aq3,1,none⟩=some (.slice (some cm1) aa.length ag)/\w'.cell? (by9.add (ed).toNat)=some (.int .i64 (rd ab ed))/\w'.cell? (cm1.add (ed).toNat)=some (.slice ht1 (Jr aa ed).length et8)) (ds:=[]) (tl_ 30 0) (g1_) rfl (g1_) ⟨(Jd ki.out 0).trans rfl,(Jd ki.out 1).trans rfl,((cl_ HB bz0).trans rfl),((cl_ HB dw9).trans rfl)⟩ (fun hHeld=>?_);refine Jx Fh.tab6 Fh.bits6 (fun HT_ HW_=>?_)
   generalize wr.drew=w19 at ki HB fy0 yv aq5 hHeld |-
   refine pw_ 0 26 (tl_ 30 1) ?_
   refine pw_ 2 28 (tl_ 30 5) ?_
   refine tk0_ 1 27 (tl_ 30 7) hHeld ?_
   refine pw_ 3 29 (tl_ 30 15) ?_
   refine tk0_ 4 30 (tl_ 30 31) hHeld ?_
   refine one_ (i:=5) (N:=some 31) (tl_ 30 63) rfl rfl (Jz HT_.out (g1_)) (by decide) (fun K hK=>?_)
   refine goes_ Try.func65 (g1_) rfl #[.int .i64 (rd ab ed), .int .i64 0, .int .i64 20] (by rfl) rfl rfl (gM_) ?_
   with_reducible refine(F8.calls (rd ab ed) 0 20 true _ A13.out).mono ?_
   rintro e w' ⟨rfl,⟨nd,rfl⟩⟩
   refine⟨_,rfl,?_⟩
   refine hK.out _ _ ⟨(Jd ki.out 0).trans rfl,(Jd ki.out 1).trans rfl,((cl_ HB bz0).trans rfl),((cl_ HB dw9).trans rfl)⟩ (fun hHeld=>?_)
   clear hK K
   refine nm_ ?_
   refine pw_ 6 32 (tl_ 30 127) ?_
   refine pw_ 7 33 (tl_ 30 255) ?_
   refine pw_ 8 34 (tl_ 30 511) ?_
   refine pw_ 10 36 (tl_ 30 1535) ?_
   refine pw_ 14 40 (tl_ 30 17919) ?_
   refine tk0_ 9 35 (tl_ 30 18431) hHeld ?_
   refine pw_ 11 37 (tl_ 30 20479) ?_
   refine tk0_ 12 38 (tl_ 30 24575) hHeld ?_
   refine pw_ 13 39 (tl_ 30 32767) ?_
   refine tk0_ 15 41 (tl_ 30 65535) hHeld ?_
   refine pw_ 16 42 (tl_ 30 131071) ?_
   refine pw_ 17 43 (tl_ 30 262143) ?_
   refine pw_ 18 44 (tl_ 30 524287) ?_
   refine pw_ 19 45 (tl_ 30 1048575) ?_
   refine pu_ 20 46 (tl_ 30 2097151) ?_
   refine pu_ 21 47 (tl_ 30 4194303) ?_
   refine pu_ 22 48 (tl_ 30 8388607) ?_
   refine pu_ 23 49 (tl_ 30 16777215) ?_
   refine pu_ 24 50 (tl_ 30 33554431) ?_
   refine pu_ 25 51 (tl_ 30 67108863) ?_
   refine pu_ 26 52 (tl_ 30 134217727) ?_
   refine pu_ 27 53 (tl_ 30 268435455) ?_
   refine pu_ 28 54 (tl_ 30 536870911) ?_
   refine pw_ 29 55 (tl_ 30 1073741823) ?_
   refine done_ (done_of HT_.out (g1_)) ?_
   try go_wp2
   go_meet
   case rel=>exact⟨_,(true),(g3_),H',⟨g54_⟩,⟨uB_ ki⟩,⟨aa3⟩⟩
  rw[if_pos jb] at H
  have ag9:(((Jr aa ed).length:Int) == (ab.length:Int))=true:=beq_iff_eq.mpr jb
  have fx7:(((Jr aa ed).length:Int) != (ab.length:Int))=false:=bne_eq_false_iff_eq.mpr jb
  have fx8:((Jr aa ed).length == ab.length)=true:=by first|simpa using jb|(simp at jb |-;omega)
  clear jb
  obtain⟨al4,H⟩:=pd_ H
  have H':=A_ H
  clear H
  try go_wp2
  replace ki:=bd_ ki
  replace HB:=A_ (Ji HB.out)
  obtain⟨⟨by9,dw6,yv⟩,al5,al6⟩:=rdp_ (Kd.at_int bg.out ed)
  have bz0:=yv
  cases dw6
  replace yv:=cl_ HB yv
  obtain⟨⟨cm1,ht1,et8,fx9,aq5,dw7,dw8⟩,bn5,bn6⟩:=rdp_ (at_L1 bd.out ed)
  have dw9:=aq5
  cases fx9
  replace aq5:=cl_ HB aq5
  have fy0:=A_ dw8
  have kc2:=A_ dw7
  clear dw8 dw7
  obtain⟨⟨kc3,ni8,ni9,kc4,dx0,ht2,ht3⟩,fy1,fy2⟩:=rdp_ (at_L1 bd.out ed)
  have ht4:=dx0
  obtain rfl:cm1=kc3:=(by injection kc4)
  replace dx0:=cl_ HB dx0
  have ht5:=A_ ht3
  have nj0:=A_ ht2
  clear ht3 ht2
  have ea_:=Option.some.inj (aq5.symm.trans dx0)
  injection ea_ with ea_ en_ ec_
  subst ea_
  subst ec_
  clear en_
  obtain⟨⟨fy5,kc5,et9⟩,fy3,fy4⟩:=rdp_ (Kd.at_int ht5.out ed)
  have ht6:=et9
  cases kc5
  replace et9:=cl_ HB et9
  refine start_ (n:=30) (S:=fun w'=>w'.cell? ⟨aq3,0,none⟩=some (.slice (some by9) ab.length ac)/\w'.cell? ⟨aq3,1,none⟩=some (.slice (some cm1) aa.length ag)/\w'.cell? (by9.add (ed).toNat)=some (.int .i64 (rd ab ed))/\w'.cell? (cm1.add (ed).toNat)=some (.slice (some fy5) (Jr aa ed).length et8)/\w'.cell? (cm1.add (ed).toNat)=some (.slice (some fy5) (Jr aa ed).length et8)/\w'.cell? (fy5.add (ed).toNat)=some (.int .i64 (rd (Jr aa ed) ed))) (ds:=[]) (tl_ 30 0) (g1_) rfl (g1_) ⟨(Jd ki.out 0).trans rfl,(Jd ki.out 1).trans rfl,((cl_ HB bz0).trans rfl),((cl_ HB dw9).trans rfl),((cl_ HB ht4).trans rfl),((cl_ HB ht6).trans rfl)⟩ (fun hHeld=>?_);refine Jx Fh.tab6 Fh.bits6 (fun HT_ HW_=>?_)
  generalize wr.drew=w18 at ki HB fy0 ht5 yv aq5 dx0 et9 hHeld |-
  refine pw_ 0 26 (tl_ 30 1) ?_
  refine pw_ 2 28 (tl_ 30 5) ?_
  refine tk1_ 1 27 (tl_ 30 7) hHeld ?_
  refine pw_ 3 29 (tl_ 30 15) ?_
  refine tk1_ 4 30 (tl_ 30 31) hHeld ?_
  refine one_ (i:=5) (N:=some 31) (tl_ 30 63) rfl rfl (Jz HT_.out (g1_)) (by decide) (fun K hK=>?_)
  refine goes_ Try.func65 (g1_) rfl #[.int .i64 (rd ab ed), .int .i64 0, .int .i64 20] (by rfl) rfl rfl (gM_) ?_
  with_reducible refine(F8.calls (rd ab ed) 0 20 true _ A13.out).mono ?_
  rintro e w' ⟨rfl,⟨nd,rfl⟩⟩
  refine⟨_,rfl,?_⟩
  refine hK.out _ _ ⟨(Jd ki.out 0).trans rfl,(Jd ki.out 1).trans rfl,((cl_ HB bz0).trans rfl),((cl_ HB dw9).trans rfl),((cl_ HB ht4).trans rfl),((cl_ HB ht6).trans rfl)⟩ (fun hHeld=>?_)
  clear hK K
  refine nm_ ?_
  refine pw_ 6 32 (tl_ 30 127) ?_
  refine pw_ 7 33 (tl_ 30 255) ?_
  refine pw_ 8 34 (tl_ 30 511) ?_
  refine pw_ 10 36 (tl_ 30 1535) ?_
  refine pw_ 14 40 (tl_ 30 17919) ?_
  refine tk1_ 9 35 (tl_ 30 18431) hHeld ?_
  refine pw_ 11 37 (tl_ 30 20479) ?_
  refine tk1_ 12 38 (tl_ 30 24575) hHeld ?_
  refine pw_ 13 39 (tl_ 30 32767) ?_
  refine tk1_ 15 41 (tl_ 30 65535) hHeld ?_
  refine pw_ 16 42 (tl_ 30 131071) ?_
  refine pw_ 17 43 (tl_ 30 262143) ?_
  refine pw_ 18 44 (tl_ 30 524287) ?_
  refine pw_ 19 45 (tl_ 30 1048575) ?_
  refine pw_ 20 46 (tl_ 30 2097151) ?_
  refine pw_ 22 48 (tl_ 30 6291455) ?_
  refine pw_ 25 51 (tl_ 30 39845887) ?_
  refine tk1_ 21 47 (tl_ 30 41943039) hHeld ?_
  refine pw_ 23 49 (tl_ 30 50331647) ?_
  refine tk1_ 24 50 (tl_ 30 67108863) hHeld ?_
  refine pw_ 26 52 (tl_ 30 134217727) ?_
  refine tk1_ 27 53 (tl_ 30 268435455) hHeld ?_
  refine pw_ 28 54 (tl_ 30 536870911) ?_
  refine pw_ 29 55 (tl_ 30 1073741823) ?_
  refine done_ (done_of HT_.out (g1_)) ?_
  try go_wp2
  go_meet
  case rel=>exact⟨_,(((rd (Jr aa ed) ed) != 0)),(g3_),H',⟨g54_⟩,⟨uB_ ki⟩,⟨aa3⟩⟩
 clear fx6
 obtain⟨kq,et7,rfl,HA,HJ9,ki,HB⟩:=hcut
 cases kq with
 | zero=>exact absurd HA.out (by simp[Fh.j2])
 | succ kj9=>?_
 have H:=HA.out
 clear HA
 simp only[Fh.j2] at H
 by_cases pg:et7=true
 ·subst pg
  replace H:=ifp_ H
  obtain rfl:=Option.some.inj H
  go_wp2
  go_ret
  exact⟨g4_,aa3⟩
 replace pg:=Bool.eq_false_iff.mpr pg
 subst pg
 replace H:=ifn_ H
 have H':=A_ H
 clear H
 go_wp2
 go_loopg [4] kj9 (fun kq v4 w'=>∃(ab3:Int),v4 = .int .i64 ab3/\Jc (Fh.l1 kq ed ab3 ab aa=some r)/\Jc (kq<=kj9)/\Jc (hc_ w' aq3 #[(.slice af ab.length ac),(.slice ah aa.length ag)] 25)/\Jc (Below w.heap.size w w'))
 case atStart=>exact⟨(0),(g3_),H',⟨Nat.le_refl _⟩,⟨uB_ ki⟩,⟨aa3⟩⟩
 clear H'
 obtain⟨ab3,rfl,HA,HK4,ki,HB⟩:=hrel
 cases gk with
 | zero=>exact absurd HA.out (by simp[Fh.l1])
 | succ k4=>?_
 have H:=HA.out
 clear HA
 simp only[Fh.l1] at H
 obtain⟨ay9,H⟩:=pd_ H
 obtain⟨bn7,H⟩:=pd_ H
 by_cases jy:ab3 < ((Jr aa ed).length:Int)
 case neg=>
  rw[if_neg jy] at H
  have yw:=decide_eq_false jy
  clear jy
  have H':=A_ H
  clear H
  obtain⟨eu3,eu4,eu5,eu6⟩:=blk2_ ki
  obtain⟨⟨eu2,ht7,ht8,dx1,bg2,bz1,bz2⟩,az0,az1⟩:=rdp_ (at_L1 bd.out ed)
  cases dx1
  replace bg2:=cl_ HB bg2
  have ht9:=A_ bz2
  have hu3:=A_ bz1
  clear bz2 bz1
  go_wp2
  go_roundg k4
  case measure=>have:=HJ1.out;have:=HK2.out;have:=HJ9.out;have:=HK4.out;omega
  case rel=>exact⟨(wrap64 (ed + 1)),(g3_),H',⟨by have:=HJ1.out;have:=HK2.out;have:=HJ9.out;have:=HK4.out;omega⟩,⟨uB_ ki⟩,⟨aa3⟩⟩
 rw[if_pos jy] at H
 have yw:=decide_eq_true jy
 clear jy
 obtain⟨bg1,H⟩:=pd_ H
 obtain⟨fx5,A26,H⟩:=bind_ H
 by_cases mb:fx5=true
 ·subst mb
  replace H:=ifp_ H
  have H':=A_ H
  clear H
  obtain⟨fr7,fr8,fr9,fs0⟩:=blk2_ ki
  obtain⟨⟨eu2,ht7,ht8,dx1,bg2,bz1,bz2⟩,az0,az1⟩:=rdp_ (at_L1 bd.out ed)
  cases dx1
  replace bg2:=cl_ HB bg2
  have ht9:=A_ bz2
  have hu3:=A_ bz1
  clear bz2 bz1
  obtain⟨⟨fy6,kc7,kc8,fy7,cm4,dx2,dx3⟩,cm2,cm3⟩:=rdp_ (at_L1 bd.out ed)
  obtain rfl:eu2=fy6:=(by injection fy7)
  replace cm4:=cl_ HB cm4
  have fy8:=A_ dx3
  have kc9:=A_ dx2
  clear dx3 dx2
  have ea_:=Option.some.inj (bg2.symm.trans cm4)
  injection ea_ with ea_ en_ ec_
  subst ea_
  subst ec_
  clear en_
  obtain⟨⟨kd0,fy9,dx4⟩,cm5,cm6⟩:=rdp_ (Kd.at_int fy8.out ab3)
  cases fy9
  replace dx4:=cl_ HB dx4
  go_wp2_with (first|((with_reducible refine gc_ 65 ?_);refine gl_ 74 Try.func65 #[.int .i64 (rd (Jr aa ed) ab3), .int .i64 0, .int .i64 9] ?_;(with_reducible refine(F8.calls (rd (Jr aa ed) ab3) 0 9 true _ A26.out).mono ?_);rintro e w' ⟨rfl,⟨nd,rfl⟩⟩;refine⟨_,rfl,?_⟩))
  go_roundg k4
  case measure=>have:=HJ1.out;have:=HK2.out;have:=HJ9.out;have:=HK4.out;omega
  case rel=>exact⟨(wrap64 (ab3 + 1)),(g3_),H',⟨by have:=HJ1.out;have:=HK2.out;have:=HJ9.out;have:=HK4.out;omega⟩,⟨uB_ ki⟩,⟨aa3⟩⟩
 replace mb:=Bool.eq_false_iff.mpr mb
 subst mb
 replace H:=ifn_ H
 obtain rfl:=Option.some.inj H
 obtain⟨db6,db7,db8,db9⟩:=blk2_ ki
 obtain⟨⟨eu2,ht7,ht8,dx1,bg2,bz1,bz2⟩,az0,az1⟩:=rdp_ (at_L1 bd.out ed)
 cases dx1
 replace bg2:=cl_ HB bg2
 have ht9:=A_ bz2
 have hu3:=A_ bz1
 clear bz2 bz1
 obtain⟨⟨fy6,kc7,kc8,fy7,cm4,dx2,dx3⟩,cm2,cm3⟩:=rdp_ (at_L1 bd.out ed)
 obtain rfl:eu2=fy6:=(by injection fy7)
 replace cm4:=cl_ HB cm4
 have fy8:=A_ dx3
 have kc9:=A_ dx2
 clear dx3 dx2
 have ea_:=Option.some.inj (bg2.symm.trans cm4)
 injection ea_ with ea_ en_ ec_
 subst ea_
 subst ec_
 clear en_
 obtain⟨⟨kd0,fy9,dx4⟩,cm5,cm6⟩:=rdp_ (Kd.at_int fy8.out ab3)
 cases fy9
 replace dx4:=cl_ HB dx4
 go_wp2_with (first|((with_reducible refine gc_ 65 ?_);refine gl_ 74 Try.func65 #[.int .i64 (rd (Jr aa ed) ab3), .int .i64 0, .int .i64 9] ?_;(with_reducible refine(F8.calls (rd (Jr aa ed) ab3) 0 9 false _ A26.out).mono ?_);rintro e w' ⟨rfl,⟨nd,rfl⟩⟩;refine⟨_,rfl,?_⟩))
 go_ret
 exact⟨g4_,aa3⟩
def Fv.l0:Nat->Int->List Int->List (List Int)->List (S25)->Option (Bool)
 | 0,_,_,_,_=>none
 | k + 1,x3,fz0,hu4,dc6=>if x3 < (dc6.length:Int) then(if 0<=x3 then((Fh.f k ((Js dc6 x3).f0) ((Js dc6 x3).f1)).bind fun fz1=>(if fz1=true then(if (((Js dc6 x3).f0).length:Int)=(fz0.length:Int) then(Fv.l0 k (wrap64 (x3 + 1)) fz0 hu4 dc6) else(some false)) else(some false))) else(none)) else((Fh.f k fz0 hu4).bind fun fz2=>(if fz2=true then(some (decide ((dc6.length:Int)<=8))) else(some false)))
def Fv.f (k:Nat) (ab:List Int) (aa:List (List Int)) (aj:List (S25)):Option (Bool):=Fv.l0 k 0 ab aa aj
def Fv.T4:Bool × List (List Nat × List Nat):=(true,[([],[]),([0],[0]),([],[]),([1,2],[1,2]),([3],[3]),([4],[4]),([5],[5]),([6,5],[6]),([7],[7]),([8,7],[7,8]),([7],[7]),([9,10,7],[7,9,10]),([11,7],[7,11]),([12,7],[7,12]),([13,7],[7,13]),([7],[7]),([15,7],[7,15]),([16,7],[7,16]),([17,7],[7,17]),([14,18,7],[7,14,18]),([7,19],[7,19])])
def Fv.B4:List Nat:=[0,1,0,7,15,31,63,127,255,511,255,2047,4095,8191,16383,255,33023,98559,229631,524287,1048575]
theorem Fv.tab4:rtab .any (opsOf Try.f28 4)=Fv.T4:=by kernel_rfl
theorem Fv.bits4:waitsOk Fv.T4.2 Fv.B4=true:=by kernel_rfl
theorem ak8 {p:Prop} (h:p:=by repeat(first|(with_reducible first|exact HB.out|apply Jk|apply Jj|apply Ji|refine Jh ?_ kd1.out)|exact HB.out)):p:=h
set_option maxHeartbeats 8000000 in
set_option maxRecDepth 100000 in
theorem Fv.calls (k:Nat) (af:Option Addr) (ac:Nat) (ab:List Int) (ah:Option Addr) (ag:Nat) (aa:List (List Int)) (av:Option Addr) (au:Nat) (aj:List (S25)) (r:Bool) (w:World) (cb:Kd.C (Kd.int .i64) w af ab.length ab) (cg:ab.length<=ac) (cc:Kd.C (Kd.slice 3 (Kd.int .i64)) w ah aa.length aa) (ch:aa.length<=ag) (h9:Kd.C k25 w av aj.length aj) (ia:aj.length<=au) (h:Fv.f k ab aa aj=some r) :
  Calls Try.prog 28 #[.agg #[.slice af ab.length ac, .slice ah aa.length ag, .slice av aj.length au]] w fun e w'=>e = .returned (.bool r)/\Below w.heap.size w w':=by
 have hu28:=Try.underlying28
 have hu25:=Try.underlying25
 have bg:=A_ cb
 have bw:=A_ cg
 clear cb cg
 have bd:=A_ cc
 have b4:=A_ ch
 clear cc ch
 have gg:=A_ h9
 have g3:=A_ ia
 clear h9 ia
 have HB:=A_ (Below.refl w.heap.size w)
 have H:(Fv.l0 k 0 ab aa aj)=some r:=h
 clear h
 have H':=A_ H
 clear H
 go_enter Try.func28,Try.ntmps28
 go_wp2_with (first|((with_reducible refine gd_ 1 ?_);(try(refine gate_guard (by rfl) ?_;dsimp only));refine bx_ (N:=1) #[.slice af ab.length ac, .slice ah aa.length ag, .slice av aj.length au] 28 ?_;intro aq6 hg w2 hbox hb;have jm:=A_ (hbox);have nj1:=A_ ((by rw[hg];exact(Je (ak8)):w.heap.size<=aq6));have kd1:=nj1;replace HB:=hs_ (ak8) hb;clear hb hbox hg))
 go_loopg [3] k (fun kq v3 w'=>∃(ci:Int),v3 = .int .i64 ci/\Jc (Fv.l0 kq ci ab aa aj=some r)/\Jc (kq<=k)/\Jc (hc_ w' aq6 #[(.slice af ab.length ac),(.slice ah aa.length ag),(.slice av aj.length au)] 28)/\Jc (Below w.heap.size w w'))
 case atStart=>exact⟨(0),(g3_),H',⟨Nat.le_refl _⟩,⟨uB_ jm⟩,⟨ak8⟩⟩
 clear H'
 obtain⟨ci,rfl,HA,HK1,jm,HB⟩:=hrel
 cases gk with
 | zero=>exact absurd HA.out (by simp[Fv.l0])
 | succ k1=>?_
 have H:=HA.out
 clear HA
 simp only[Fv.l0] at H
 by_cases c3:ci < (aj.length:Int)
 case neg=>
  rw[if_neg c3] at H
  have gj:=decide_eq_false c3
  clear c3
  obtain⟨fz2,A17,H⟩:=bind_ H
  by_cases jz:fz2=true
  ·subst jz
   replace H:=ifp_ H
   obtain rfl:=Option.some.inj H
   obtain⟨da8,da9,db0,db1,db2,db3⟩:=blk3_ jm
   go_wp2_with (first|((with_reducible refine gc_ 42 ?_);refine gl_ 34 Try.func42 #[.agg #[.slice af ab.length ac, .slice ah aa.length ag]] ?_;(refine(Fh.calls k1 _ _ ab _ _ aa true _ (uC_ bg) bw.out (uC_ bd) b4.out A17.out).mono ?_);rintro e w20 ⟨rfl,hb⟩;refine⟨_,rfl,?_⟩;replace jm:=bb_ jm hb;replace HB:=hs_ (ak8) hb;obtain⟨uh,ui,az4,uj,uk,az5⟩:=blk3_ jm))
   go_ret
   exact⟨g4_,ak8⟩
  replace jz:=Bool.eq_false_iff.mpr jz
  subst jz
  replace H:=ifn_ H
  obtain rfl:=Option.some.inj H
  obtain⟨af6,af7,ds9,af8,af9,dt0⟩:=blk3_ jm
  go_wp2_with (first|((with_reducible refine gc_ 42 ?_);refine gl_ 34 Try.func42 #[.agg #[.slice af ab.length ac, .slice ah aa.length ag]] ?_;(refine(Fh.calls k1 _ _ ab _ _ aa false _ (uC_ bg) bw.out (uC_ bd) b4.out A17.out).mono ?_);rintro e w23 ⟨rfl,hb⟩;refine⟨_,rfl,?_⟩;replace jm:=bb_ jm hb;replace HB:=hs_ (ak8) hb))
  go_ret
  exact⟨g4_,ak8⟩
 rw[if_pos c3] at H
 have gj:=decide_eq_true c3
 clear c3
 obtain⟨ic,H⟩:=pd_ H
 obtain⟨fz1,A5,H⟩:=bind_ H
 by_cases c6:fz1=true
 case neg=>
  replace c6:=Bool.eq_false_iff.mpr c6
  subst c6
  replace H:=ifn_ H
  obtain rfl:=Option.some.inj H
  obtain⟨um,un,da6,uo,uq,da7⟩:=blk3_ jm
  try go_wp2
  replace jm:=bd_ jm
  replace HB:=A_ (Ji HB.out)
  have az2:0<=(ci:Int):=od_
  have az3:ci < (aj.length:Int):=od_
  obtain⟨rr,bz3,bz4,bz5,bz6,dx5,ah0,ah1,bz7,bz8,bz9,ca0⟩:=at_T25 gg.out ci az2 az3
  have ca1:=ah1
  have ca2:=ah0
  cases dx5
  replace ah0:=cl_ HB ah0
  replace ah1:=cl_ HB ah1
  have ca3:=A_ bz8
  have dx6:=A_ bz7
  clear bz8 bz7
  have ca4:=A_ ca0
  have dx7:=A_ bz9
  clear ca0 bz9
  replace az2:=eq_true az2
  replace az3:=eq_true az3
  refine start_ (n:=21) (S:=fun w'=>w'.cell? ⟨aq6,0,none⟩=some (.slice af ab.length ac)/\w'.cell? ⟨aq6,1,none⟩=some (.slice ah aa.length ag)/\w'.cell? ⟨aq6,2,none⟩=some (.slice (some rr) aj.length au)/\w'.cell? (rr.add ((ci).toNat * 2))=some (.slice bz3 ((Js aj ci).f0).length bz4)/\w'.cell? ⟨(rr.add ((ci).toNat * 2)).block,(rr.add ((ci).toNat * 2)).off + 1,none⟩=some (.slice bz5 ((Js aj ci).f1).length bz6)) (ds:=[]) (tl_ 21 0) (g1_) rfl (g1_) ⟨(Jd jm.out 0).trans rfl,(Jd jm.out 1).trans rfl,(Jd jm.out 2).trans rfl,((cl_ HB ca2).trans rfl),((cl_ HB ca1).trans rfl)⟩ (fun hHeld=>?_);refine Jx Fv.tab4 Fv.bits4 (fun HT_ HW_=>?_)
  generalize wr.drew=rq at jm HB ca3 ca4 ah0 ah1 hHeld |-
  refine pw_ 0 11 (tl_ 21 1) ?_
  refine pw_ 2 13 (tl_ 21 5) ?_
  refine tk4_ 1 12 (tl_ 21 7) hHeld ?_
  refine pw_ 3 14 (tl_ 21 15) ?_
  refine tk4_ 4 15 (tl_ 21 31) hHeld ?_
  refine one_ (i:=5) (N:=some 16) (tl_ 21 63) rfl rfl (Jz HT_.out (g1_)) (by decide) (fun K hK=>?_)
  refine goes_ Try.func42 (g1_) rfl #[.agg #[.slice bz3 ((Js aj ci).f0).length bz4, .slice bz5 ((Js aj ci).f1).length bz6]] (by rfl) rfl rfl (gM_) ?_
  refine(Fh.calls k1 _ _ ((Js aj ci).f0) _ _ ((Js aj ci).f1) false _ (uC_ ca3) dx6.out (uC_ ca4) dx7.out A5.out).mono ?_
  rintro e pw ⟨rfl,hb⟩
  refine⟨_,rfl,?_⟩
  replace jm:=bb_ jm hb
  replace HB:=hs_ (ak8) hb
  refine hK.out _ _ ⟨(Jd jm.out 0).trans rfl,(Jd jm.out 1).trans rfl,(Jd jm.out 2).trans rfl,((cl_ HB ca2).trans rfl),((cl_ HB ca1).trans rfl)⟩ (fun hHeld=>?_)
  clear hK K
  refine nm_ ?_
  refine pw_ 6 17 (tl_ 21 127) ?_
  refine pw_ 7 18 (tl_ 21 255) ?_
  refine pu_ 8 19 (tl_ 21 511) ?_
  refine pu_ 9 20 (tl_ 21 1023) ?_
  refine pu_ 10 21 (tl_ 21 2047) ?_
  refine pu_ 11 22 (tl_ 21 4095) ?_
  refine pu_ 12 23 (tl_ 21 8191) ?_
  refine pu_ 13 24 (tl_ 21 16383) ?_
  refine pu_ 14 25 (tl_ 21 32767) ?_
  refine pu_ 15 26 (tl_ 21 65535) ?_
  refine pu_ 16 27 (tl_ 21 131071) ?_
  refine pu_ 17 28 (tl_ 21 262143) ?_
  refine pu_ 18 29 (tl_ 21 524287) ?_
  refine pu_ 19 30 (tl_ 21 1048575) ?_
  refine pw_ 20 31 (tl_ 21 2097151) ?_
  refine done_ (done_of HT_.out (g1_)) ?_
  try go_wp2
  go_ret
  exact⟨g4_,ak8⟩
 subst c6
 replace H:=ifp_ H
 by_cases c7:(((Js aj ci).f0).length:Int)=(ab.length:Int)
 ·rw[if_pos c7] at H
  have pz:((((Js aj ci).f0).length:Int) == (ab.length:Int))=true:=beq_iff_eq.mpr c7
  have bn8:((((Js aj ci).f0).length:Int) != (ab.length:Int))=false:=bne_eq_false_iff_eq.mpr c7
  have kd2:(((Js aj ci).f0).length == ab.length)=true:=by first|simpa using c7|(simp at c7 |-;omega)
  clear c7
  have H':=A_ H
  clear H
  obtain⟨bg3,bg4,kd3,bg5,bg6,kd4⟩:=blk3_ jm
  try go_wp2
  replace jm:=bd_ jm
  replace HB:=A_ (Ji HB.out)
  have az2:0<=(ci:Int):=od_
  have az3:ci < (aj.length:Int):=od_
  obtain⟨rr,bz3,bz4,bz5,bz6,dx5,ah0,ah1,bz7,bz8,bz9,ca0⟩:=at_T25 gg.out ci az2 az3
  have ca1:=ah1
  have ca2:=ah0
  cases dx5
  replace ah0:=cl_ HB ah0
  replace ah1:=cl_ HB ah1
  have ca3:=A_ bz8
  have dx6:=A_ bz7
  clear bz8 bz7
  have ca4:=A_ ca0
  have dx7:=A_ bz9
  clear ca0 bz9
  replace az2:=eq_true az2
  replace az3:=eq_true az3
  have cn1:0<=(ci:Int):=od_
  have cn2:ci < (aj.length:Int):=od_
  obtain⟨fz3,fz4,fz5,fz6,fz7,fz8,bn9,bo0,dx8,dx9,dy0,dy1⟩:=at_T25 gg.out ci cn1 cn2
  have dy2:=bo0
  have dy3:=bn9
  obtain rfl:rr=fz3:=(by injection fz8)
  replace bn9:=cl_ HB bn9
  replace bo0:=cl_ HB bo0
  have fz9:=A_ dx9
  have kd5:=A_ dx8
  clear dx9 dx8
  have ga0:=A_ dy1
  have kd6:=A_ dy0
  clear dy1 dy0
  replace cn1:=eq_true cn1
  replace cn2:=eq_true cn2
  refine start_ (n:=21) (S:=fun w'=>w'.cell? ⟨aq6,0,none⟩=some (.slice af ab.length ac)/\w'.cell? ⟨aq6,1,none⟩=some (.slice ah aa.length ag)/\w'.cell? ⟨aq6,2,none⟩=some (.slice (some rr) aj.length au)/\w'.cell? (rr.add ((ci).toNat * 2))=some (.slice bz3 ((Js aj ci).f0).length bz4)/\w'.cell? ⟨(rr.add ((ci).toNat * 2)).block,(rr.add ((ci).toNat * 2)).off + 1,none⟩=some (.slice bz5 ((Js aj ci).f1).length bz6)/\w'.cell? (rr.add ((ci).toNat * 2))=some (.slice fz4 ((Js aj ci).f0).length fz5)/\w'.cell? ⟨(rr.add ((ci).toNat * 2)).block,(rr.add ((ci).toNat * 2)).off + 1,none⟩=some (.slice fz6 ((Js aj ci).f1).length fz7)) (ds:=[]) (tl_ 21 0) (g1_) rfl (g1_) ⟨(Jd jm.out 0).trans rfl,(Jd jm.out 1).trans rfl,(Jd jm.out 2).trans rfl,((cl_ HB ca2).trans rfl),((cl_ HB ca1).trans rfl),((cl_ HB dy3).trans rfl),((cl_ HB dy2).trans rfl)⟩ (fun hHeld=>?_);refine Jx Fv.tab4 Fv.bits4 (fun HT_ HW_=>?_)
  generalize wr.drew=w9 at jm HB ca3 ca4 fz9 ga0 ah0 ah1 bn9 bo0 hHeld |-
  refine pw_ 0 11 (tl_ 21 1) ?_
  refine pw_ 2 13 (tl_ 21 5) ?_
  refine tk3_ 1 12 (tl_ 21 7) hHeld ?_
  refine pw_ 3 14 (tl_ 21 15) ?_
  refine tk3_ 4 15 (tl_ 21 31) hHeld ?_
  refine one_ (i:=5) (N:=some 16) (tl_ 21 63) rfl rfl (Jz HT_.out (g1_)) (by decide) (fun K hK=>?_)
  refine goes_ Try.func42 (g1_) rfl #[.agg #[.slice bz3 ((Js aj ci).f0).length bz4, .slice bz5 ((Js aj ci).f1).length bz6]] (by rfl) rfl rfl (gM_) ?_
  refine(Fh.calls k1 _ _ ((Js aj ci).f0) _ _ ((Js aj ci).f1) true _ (uC_ ca3) dx6.out (uC_ ca4) dx7.out A5.out).mono ?_
  rintro e w10 ⟨rfl,hb⟩
  refine⟨_,rfl,?_⟩
  replace jm:=bb_ jm hb
  replace HB:=hs_ (ak8) hb
  refine hK.out _ _ ⟨(Jd jm.out 0).trans rfl,(Jd jm.out 1).trans rfl,(Jd jm.out 2).trans rfl,((cl_ HB ca2).trans rfl),((cl_ HB ca1).trans rfl),((cl_ HB dy3).trans rfl),((cl_ HB dy2).trans rfl)⟩ (fun hHeld=>?_)
  clear hK K
  refine nm_ ?_
  refine pw_ 6 17 (tl_ 21 127) ?_
  refine pw_ 7 18 (tl_ 21 255) ?_
  refine pw_ 8 19 (tl_ 21 511) ?_
  refine pw_ 10 21 (tl_ 21 1535) ?_
  refine pw_ 15 26 (tl_ 21 34303) ?_
  refine pw_ 16 27 (tl_ 21 99839) ?_
  refine tk3_ 9 20 (tl_ 21 100351) hHeld ?_
  refine pw_ 11 22 (tl_ 21 102399) ?_
  refine pw_ 12 23 (tl_ 21 106495) ?_
  refine tk3_ 13 24 (tl_ 21 114687) hHeld ?_
  refine pw_ 14 25 (tl_ 21 131071) ?_
  refine tk3_ 17 28 (tl_ 21 262143) hHeld ?_
  refine pw_ 18 29 (tl_ 21 524287) ?_
  refine pw_ 19 30 (tl_ 21 1048575) ?_
  refine pw_ 20 31 (tl_ 21 2097151) ?_
  refine done_ (done_of HT_.out (g1_)) ?_
  try go_wp2
  go_roundg k1
  case measure=>have:=HK1.out;omega
  case rel=>exact⟨(wrap64 (ci + 1)),(g3_),H',⟨g8_⟩,⟨uB_ jm⟩,⟨ak8⟩⟩
 rw[if_neg c7] at H
 have pz:((((Js aj ci).f0).length:Int) == (ab.length:Int))=false:=beq_eq_false_iff_ne.mpr c7
 have bn8:((((Js aj ci).f0).length:Int) != (ab.length:Int))=true:=bne_iff_ne.mpr c7
 have kd2:(((Js aj ci).f0).length == ab.length)=false:=by first|simpa using c7|(simp at c7 |-;omega)
 obtain rfl:=Option.some.inj H
 obtain⟨sr,ss,ax8,st,su,ax9⟩:=blk3_ jm
 try go_wp2
 replace jm:=bd_ jm
 replace HB:=A_ (Ji HB.out)
 have az2:0<=(ci:Int):=od_
 have az3:ci < (aj.length:Int):=od_
 obtain⟨rr,bz3,bz4,bz5,bz6,dx5,ah0,ah1,bz7,bz8,bz9,ca0⟩:=at_T25 gg.out ci az2 az3
 have ca1:=ah1
 have ca2:=ah0
 cases dx5
 replace ah0:=cl_ HB ah0
 replace ah1:=cl_ HB ah1
 have ca3:=A_ bz8
 have dx6:=A_ bz7
 clear bz8 bz7
 have ca4:=A_ ca0
 have dx7:=A_ bz9
 clear ca0 bz9
 replace az2:=eq_true az2
 replace az3:=eq_true az3
 have cn1:0<=(ci:Int):=od_
 have cn2:ci < (aj.length:Int):=od_
 obtain⟨fz3,fz4,fz5,fz6,fz7,fz8,bn9,bo0,dx8,dx9,dy0,dy1⟩:=at_T25 gg.out ci cn1 cn2
 have dy2:=bo0
 have dy3:=bn9
 obtain rfl:rr=fz3:=(by injection fz8)
 replace bn9:=cl_ HB bn9
 replace bo0:=cl_ HB bo0
 have fz9:=A_ dx9
 have kd5:=A_ dx8
 clear dx9 dx8
 have ga0:=A_ dy1
 have kd6:=A_ dy0
 clear dy1 dy0
 replace cn1:=eq_true cn1
 replace cn2:=eq_true cn2
 refine start_ (n:=21) (S:=fun w'=>w'.cell? ⟨aq6,0,none⟩=some (.slice af ab.length ac)/\w'.cell? ⟨aq6,1,none⟩=some (.slice ah aa.length ag)/\w'.cell? ⟨aq6,2,none⟩=some (.slice (some rr) aj.length au)/\w'.cell? (rr.add ((ci).toNat * 2))=some (.slice bz3 ((Js aj ci).f0).length bz4)/\w'.cell? ⟨(rr.add ((ci).toNat * 2)).block,(rr.add ((ci).toNat * 2)).off + 1,none⟩=some (.slice bz5 ((Js aj ci).f1).length bz6)/\w'.cell? (rr.add ((ci).toNat * 2))=some (.slice fz4 ((Js aj ci).f0).length fz5)/\w'.cell? ⟨(rr.add ((ci).toNat * 2)).block,(rr.add ((ci).toNat * 2)).off + 1,none⟩=some (.slice fz6 ((Js aj ci).f1).length fz7)) (ds:=[]) (tl_ 21 0) (g1_) rfl (g1_) ⟨(Jd jm.out 0).trans rfl,(Jd jm.out 1).trans rfl,(Jd jm.out 2).trans rfl,((cl_ HB ca2).trans rfl),((cl_ HB ca1).trans rfl),((cl_ HB dy3).trans rfl),((cl_ HB dy2).trans rfl)⟩ (fun hHeld=>?_);refine Jx Fv.tab4 Fv.bits4 (fun HT_ HW_=>?_)
 generalize wr.drew=uf at jm HB ca3 ca4 fz9 ga0 ah0 ah1 bn9 bo0 hHeld |-
 refine pw_ 0 11 (tl_ 21 1) ?_
 refine pw_ 2 13 (tl_ 21 5) ?_
 refine tk3_ 1 12 (tl_ 21 7) hHeld ?_
 refine pw_ 3 14 (tl_ 21 15) ?_
 refine tk3_ 4 15 (tl_ 21 31) hHeld ?_
 refine one_ (i:=5) (N:=some 16) (tl_ 21 63) rfl rfl (Jz HT_.out (g1_)) (by decide) (fun K hK=>?_)
 refine goes_ Try.func42 (g1_) rfl #[.agg #[.slice bz3 ((Js aj ci).f0).length bz4, .slice bz5 ((Js aj ci).f1).length bz6]] (by rfl) rfl rfl (gM_) ?_
 refine(Fh.calls k1 _ _ ((Js aj ci).f0) _ _ ((Js aj ci).f1) true _ (uC_ ca3) dx6.out (uC_ ca4) dx7.out A5.out).mono ?_
 rintro e km ⟨rfl,hb⟩
 refine⟨_,rfl,?_⟩
 replace jm:=bb_ jm hb
 replace HB:=hs_ (ak8) hb
 refine hK.out _ _ ⟨(Jd jm.out 0).trans rfl,(Jd jm.out 1).trans rfl,(Jd jm.out 2).trans rfl,((cl_ HB ca2).trans rfl),((cl_ HB ca1).trans rfl),((cl_ HB dy3).trans rfl),((cl_ HB dy2).trans rfl)⟩ (fun hHeld=>?_)
 clear hK K
 refine nm_ ?_
 refine pw_ 6 17 (tl_ 21 127) ?_
 refine pw_ 7 18 (tl_ 21 255) ?_
 refine pw_ 8 19 (tl_ 21 511) ?_
 refine pw_ 10 21 (tl_ 21 1535) ?_
 refine pw_ 15 26 (tl_ 21 34303) ?_
 refine pw_ 16 27 (tl_ 21 99839) ?_
 refine tk3_ 9 20 (tl_ 21 100351) hHeld ?_
 refine pw_ 11 22 (tl_ 21 102399) ?_
 refine pw_ 12 23 (tl_ 21 106495) ?_
 refine tk3_ 13 24 (tl_ 21 114687) hHeld ?_
 refine pw_ 14 25 (tl_ 21 131071) ?_
 refine tk3_ 17 28 (tl_ 21 262143) hHeld ?_
 refine pw_ 18 29 (tl_ 21 524287) ?_
 refine pw_ 19 30 (tl_ 21 1048575) ?_
 refine pw_ 20 31 (tl_ 21 2097151) ?_
 refine done_ (done_of HT_.out (g1_)) ?_
 try go_wp2
 go_ret
 exact⟨g4_,ak8⟩
end Go.Proofs.Ytfooakkhkehpiaa.PE
