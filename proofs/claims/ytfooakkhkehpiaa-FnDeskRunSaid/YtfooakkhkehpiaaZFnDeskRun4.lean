/- FnDeskRun: for every input the law holds. No condition. -/
import Derived.Test.YtfooakkhkehpiaaZFnDeskRun1
import Derived.Test.YtfooakkhkehpiaaZFnDeskRun2
import Derived.Test.YtfooakkhkehpiaaZFnDeskRun3
namespace Go.Proofs.Ytfooakkhkehpiaa.PU
open Go.RowKit Go.Proofs.YtfooakkhkehpiaaW.PrintWords Go.Proofs.YtfooakkhkehpiaaW.PrintLast Go.Proofs.YtfooakkhkehpiaaW.PrintMore
attribute [local go_sem] max2_int min2_int max_two min_two max_three min_three max_four min_four-- for this text's walks alone
set_option linter.unusedVariables false
set_option linter.unusedSimpArgs false
section
open Go.Shelf Go.Lib
namespace Circ
theorem two_ints (w:World) (a b:Int):Kd.C (Kd.int .i64) (w.alloc (.cells #[.int .i64 a, .int .i64 b] 3)) (some ⟨w.heap.size,0,none⟩) 2 [a,b]:=by
  have hh:(w.alloc (.cells #[.int .i64 a, .int .i64 b] 3)).heap[w.heap.size]? = some (.cells #[.int .i64 a, .int .i64 b] 3 (0,0)):=by rw[show(w.alloc (.cells #[.int .i64 a, .int .i64 b] 3)).heap=w.heap.push (.cells #[.int .i64 a, .int .i64 b] 3) from rfl];simp
  refine⟨rfl,by decide,fun _=>⟨⟨w.heap.size,0,none⟩,rfl,fun j p hj=>⟨[.int .i64 p],rfl,rfl,fun i u hu=>?_⟩⟩⟩
  have hi:i=0:=by
    have:=(List.getElem?_eq_some_iff.1 hu).1
    simp at this;exact this
  subst hi
  have hu':u = .int .i64 p:=by simpa using hu.symm
  subst hu'
  have hs:(Kd.int .i64).sz=1:=rfl
  rw[hs,add_at,Nat.mul_one,Nat.add_zero,Nat.zero_add,Gy hh j]
  have hj2:j < 2:=(List.getElem?_eq_some_iff.1 hj).1
  rcases(by omega:j=0 ∨ j=1) with rfl|rfl
  · have:a=p:=by simpa using hj
    subst this;rfl
  · have:b=p:=by simpa using hj
    subst this;rfl
def cmpv (k:Nat) (l0 l1:List Int):Option Int:=(Gk.f (l0.length:Int) (l1.length:Int)).bind fun a=>(F1.f k l0 l1).bind fun b=>F4.f k [a,b]
set_option maxHeartbeats 4000000 in
set_option maxRecDepth 100000 in
theorem circles2 (k:Nat) (A0:Option Addr) (c0:Nat) (l0:List Int) (A1:Option Addr) (c1:Nat) (l1:List Int) (r:Int) (w:World) (hr0:Kd.C (Kd.int .i64) w A0 l0.length l0) (hc0:l0.length<=c0) (hr1:Kd.C (Kd.int .i64) w A1 l1.length l1) (hc1:l1.length<=c1) (h:cmpv k l0 l1=some r) :
    Calls Try.prog 118 #[.slice A0 l0.length c0, .slice A1 l1.length c1] w fun e w'=>e = .returned (.int .i64 r)/\∃n1 o n2,w'=((w.drewN n1).alloc o).drewN n2:=by
  have HR0:=Gx.mk hr0
  have HR1:=Gx.mk hr1
  obtain⟨a,ha,h⟩:=Option.bind_eq_some_iff.mp h
  obtain⟨b,hb,h⟩:=Option.bind_eq_some_iff.mp h
  have HA:=Gx.mk ha
  have HB:=Gx.mk hb
  have HO:=Gx.mk h
  clear hr0 hr1 ha hb h
  go_enter Try.func118,Try.ntmps118
  go_wp2_with (first|(go_at_call 120;refine(Gk.calls _ _ a _ HA.out).mono ?_;rintro e w1 ⟨rfl,⟨n1,rfl⟩⟩)|(go_at_call 121;refine(F1.calls k _ _ l0 _ _ l1 b _ ?s1 ?s2 ?s3 ?s4 HB.out).mono ?_;(case s1=>repeat(first|exact HR0.out|(with_reducible refine Kd.C_drewN ?_ _)|(with_reducible refine Kd.C_drew ?_)));(case s2=>exact hc0);(case s3=>repeat(first|exact HR1.out|(with_reducible refine Kd.C_drewN ?_ _)|(with_reducible refine Kd.C_drew ?_)));(case s4=>exact hc1);rintro e w2 ⟨rfl,⟨n2,rfl⟩⟩)|(go_at_call 119;refine(F4.calls k _ 2 [a,b] r _ ?s1 ?s2 HO.out).mono ?_;(case s1=>exact two_ints _ a b);(case s2=>exact Nat.le_refl _);rintro e w3 ⟨rfl,⟨n3,rfl⟩⟩))
  go_ret
  exact⟨rfl,_,_,_,rfl⟩
section
open Go.Sort
def rn:Ren:=⟨fun _=>133,fun n=>if n=22 then 23 else if n=24 then 22 else if n=25 then 120 else n,fun n=>n⟩
set_option maxRecDepth 100000 in
theorem laid:SlLaysF.n20 Try.prog rn := {
  mixed:=by kernel_rfl
  f20:=⟨"slices.insertionSortCmpFunc[[]int]",by kernel_rfl,by kernel_rfl⟩
  t0:=by kernel_rfl
  a0:=fun _=>rfl
  z0:=fun _=>rfl
  v0:=fun _=>rfl
  t3:=by kernel_rfl
  a3:=fun _=>rfl
  z3:=fun _=>rfl
  v3:=fun _=>rfl
  t4:=by kernel_rfl
  a4:=fun _=>rfl
  z4:=fun _=>rfl
  v4:=fun _=>rfl
  t22:=by kernel_rfl
  a22:=fun _=>rfl
  z22:=fun _=>rfl
  v22:=fun _=>rfl
  a24:=fun _=>rfl
  z24:=fun _=>rfl
  t25:=by kernel_rfl
  a25:=fun _=>rfl
  z25:=fun _=>rfl
  v25:=fun _=>rfl }
end
def cmpI (a b:Int):Int:=if a < b then -1 else if a > b then 1 else 0
def lexc:List Int->List Int->Int
  | [],b=>if 0 < b.length then -1 else 0
  | _ :: _,[]=>1
  | a :: r,b :: s=>if cmpI a b=0 then lexc r s else cmpI a b
def cmpl (a b:List Int):Int:=if cmpI (a.length:Int) (b.length:Int)=0 then lexc a b else cmpI (a.length:Int) (b.length:Int)
theorem compI (a b:Int):Gk.f a b=some (cmpI a b):=by
  unfold Gk.f Gc.f cmpI
  by_cases h:a < b
  · simp[h]
  · by_cases h2:a > b
    · simp[h,h2]
    · simp[h,h2]
theorem c_drop (xs:List Int) (i:Nat) (h:i < xs.length):xs.drop i=rd xs (i:Int) :: xs.drop (i + 1):=by
  rw[List.drop_eq_getElem_cons h];simp[rd,List.getD_eq_getElem?_getD,List.getElem?_eq_getElem h]
theorem lex_l (a b:List Int) (ha:a.length<=9223372036854775807):∀(e i k:Nat),a.length - i=e->i<=a.length->e < k->F1.l0 k a b a (a.length:Int) (i:Int)=some (lexc (a.drop i) (b.drop i)):=by
  intro e
  induction e with
  | zero=>
    intro i k he hi hk
    obtain⟨k,rfl⟩:∃m,k=m + 1:=⟨k - 1,by omega⟩
    obtain rfl:i=a.length:=by omega
    simp only[F1.l0]
    rw[if_neg (by omega),List.drop_length,lexc]
    by_cases h:a.length < b.length
    · rw[if_pos (by omega),if_pos (by rw[List.length_drop];omega)]
    · rw[if_neg (by omega),if_neg (by rw[List.length_drop];omega)]
  | succ e ih=>
    intro i k he hi hk
    obtain⟨k,rfl⟩:∃m,k=m + 1:=⟨k - 1,by omega⟩
    have hw:wrap64 ((i:Int) + 1)=((i + 1:Nat):Int):=by unfold wrap64;omega
    simp only[F1.l0]
    rw[if_pos (by omega),if_pos (by omega),if_pos (by omega),hw,c_drop a i (by omega)]
    by_cases h:i < b.length
    · rw[if_neg (by omega),if_pos (by omega),compI,Option.bind_some,c_drop b i h,lexc]
      by_cases hc:cmpI (rd a (i:Int)) (rd b (i:Int))=0
      · rw[if_pos hc,if_pos hc]
        exact ih (i + 1) k (by omega) (by omega) (by omega)
      · rw[if_neg hc,if_neg hc]
    · rw[if_pos (by omega),List.drop_of_length_le (show b.length<=i by omega),lexc]
theorem orI (a b:Int):F4.f 3 [a,b]=some (if a=0 then b else a):=by
  unfold F4.f
  have w1:wrap64 (1:Int)=1:=by unfold wrap64;omega
  have w2:wrap64 (2:Int)=2:=by unfold wrap64;omega
  have e0:∀x y:Int,rd [x,y] 0=x:=fun _ _=>rfl
  have e1:∀x y:Int,rd [x,y] 1=y:=fun _ _=>rfl
  by_cases h:a=0
  · by_cases h2:b=0
    · simp[F4.l0,w1,w2,e0,e1,h,h2]
    · simp[F4.l0,w1,w2,e0,e1,h,h2]
  · simp[F4.l0,e0,h]
theorem cmpv_ev (a b:List Int) (ha:a.length<=9223372036854775807):∃k,cmpv k a b=some (cmpl a b):=by
  refine⟨a.length + 3,?_⟩
  unfold cmpv cmpl
  rw[compI,Option.bind_some]
  unfold F1.f
  have:=lex_l a b ha a.length 0 (a.length + 3) (by omega) (by omega) (by omega)
  rw[List.drop_zero,List.drop_zero] at this
  rw[show((0:Nat):Int)=0 from rfl] at this
  rw[this,Option.bind_some]
  have hm:∀n,F4.f (n + 3) [cmpI (a.length:Int) (b.length:Int),lexc a b]=some (if cmpI (a.length:Int) (b.length:Int)=0 then lexc a b else cmpI (a.length:Int) (b.length:Int)):=by
    intro n
    induction n with
    | zero=>exact orI _ _
    | succ n ih=>exact F4.mono _ _ _ ih
  exact hm _
def El (w0:World) (okk:Nat->Prop):Type := { x:Option Addr × Nat × List Int // x.2.2.length<=x.2.1/\Kd.F (Kd.int .i64) w0 okk x.1 x.2.2.length x.2.2 }
instance {w0:World} {okk:Nat->Prop}:Inhabited (El w0 okk):=⟨⟨(none,0,[]),Nat.le_refl _,Kd.F_nil _ _ _⟩⟩
def El.enc {w0:World} {okk:Nat->Prop} (x:El w0 okk):Value:=.slice x.1.1 x.1.2.2.length x.1.2.1
def El.l {w0:World} {okk:Nat->Prop} (x:El w0 okk):List Int:=x.1.2.2
def El.cf {w0:World} {okk:Nat->Prop} (x y:El w0 okk):Int:=cmpl x.l y.l
section
variable {w0 W:World} {okk ok:Nat->Prop} {blk n cap base:Nat} {xs:List (List Int)}
theorem El.one:OneCell (El.enc:El w0 okk->Value):=fun _=>rfl
theorem el_of {x:List Int} {c:List Value} (h:Kd.FK (Kd.slice 3 (Kd.int .i64)) w0 okk x c):∃e:El w0 okk,e.l=x/\[e.enc]=c:=by
  obtain⟨A,cp,rfl,hl,hC⟩:=Kd.FK_now h
  refine⟨⟨(A,cp,x),hl,fun W' hW=>?_⟩,rfl,rfl⟩
  obtain⟨A',cp',he,_,hC'⟩:=h W' hW
  have h1:=congrArg (fun l=>l[0]?) he
  have h2:=Option.some.inj (show some (Value.slice A x.length cp)=some (Value.slice A' x.length cp') from h1)
  injection h2 with h3 _ _
  show Kd.C (Kd.int .i64) W' A x.length x
  rw[h3];exact hC'
theorem els_of:∀(ys:List (List Int)) (cs:List (List Value)),ys.length=cs.length->(∀(j:Nat) (x:List Int) (c:List Value),ys[j]? = some x->cs[j]? = some c->Kd.FK (Kd.slice 3 (Kd.int .i64)) w0 okk x c)->∃ds:List (El w0 okk),ds.map El.l=ys/\ds.map (fun x=>[x.enc])=cs
  | [],cs,hl,_=>⟨[],rfl,by cases cs with
    | nil=>rfl
    | cons a r=>simp at hl⟩
  | y :: ys,[],hl,_=>by simp at hl
  | y :: ys,c :: cs,hl,h=>by
    obtain⟨e,h1,h2⟩:=el_of (h 0 y c rfl rfl)
    obtain⟨ds,h3,h4⟩:=els_of ys cs (by simpa using hl) (fun j x c hx hc=>h (j + 1) x c (by simpa using hx) (by simpa using hc))
    exact⟨e :: ds,by simp[h1,h3],by simp[h2,h4]⟩
theorem blk_holds (d:Array (El w0 okk)) {cur:Array Value} (hh:w0.heap[blk]? = some (.cells cur 22 (0,0))) (hc:∀j,j < d.size->cur[j]? = some (d[j]!).enc):Go.Sort.Holds El.enc w0 blk 0 d:=fun j hj=>by
  rw[Nat.zero_add]
  exact⟨(Gy hh j).trans (hc j hj),G7 hh j⟩
theorem sw_heap {d':Array (El w0 okk)} (S:SW El.enc w0 blk 0 d' W) (hblk:blk < w0.heap.size):Kept w0 W (fun k=>k=blk)/\W.os=w0.os/\W.tape=w0.tape/\W.output=w0.output/\∀ {cur:Array Value},w0.heap[blk]? = some (.cells cur 22 (0,0))->W.heap[blk]? = some (.cells (Go.Sort.putCells El.enc 0 d' cur) 22 (0,0)):=by
  obtain⟨m,os,rfl⟩:=S
  have hs:(Go.Sort.putRow El.enc (Go.Sort.ahead w0 m) blk 0 d').heap.size=w0.heap.size:=by rw[size_putRow];rfl
  refine⟨⟨?_,fun k hk hn=>?_⟩,rfl,rfl,rfl,fun {cur} hh=>?_⟩
  · unfold sortWorld;rw[Go.Sort.size_grow,hs];omega
  · show((Go.Sort.putRow El.enc (Go.Sort.ahead w0 m) blk 0 d').heap ++ os)[k]? = _
    rw[Array.getElem?_append_left (by rw[hs];exact hk)]
    show(w0.heap.modify blk _)[k]? = _
    rw[Array.getElem?_modify,if_neg (fun e=>hn e.symm)]
  · show((Go.Sort.putRow El.enc (Go.Sort.ahead w0 m) blk 0 d').heap ++ os)[blk]? = _
    rw[Array.getElem?_append_left (by rw[hs];exact hblk)]
    show(w0.heap.modify blk _)[blk]? = _
    rw[Array.getElem?_modify,if_pos rfl,hh]
    rfl
end
section
variable {w0 W:World} {ok:Nat->Prop} {blk n cap base:Nat} {xs:List (List Int)}
structure RowOf (w0:World) (base:Nat) (ok:Nat->Prop) (blk n cap:Nat) (cur:Array Value) (d:Array (El w0 (fun k=>ok k/\k≠blk))):Prop where
  hh:w0.heap[blk]? = some (.cells cur 22 (0,0))
  hd:d.size=n
  hc:∀j,j < d.size->cur[j]? = some (d[j]!).enc
  hb:base<=blk
  hn:n<=cap
  hm:cap<=maxLen
  hs:cur.size=cap
  hok:ok blk
theorem N_els (h:Kd.N (Kd.slice 3 (Kd.int .i64)) 22 w0 base ok (.slice (some ⟨blk,0,none⟩) n cap) xs) :
    ∃cur d,RowOf w0 base ok blk n cap cur d/\d.toList.map El.l=xs:=by
  obtain⟨h0,rows,hl,hR,hF⟩:=h
  have hbl:(Value.slice (some ⟨blk,0,none⟩) n cap).ownBlock=some blk:=by simp[Value.ownBlock]
  obtain⟨ds,h1,h2⟩:=els_of (w0:=w0) (okk:=fun k=>ok k/\k≠blk) xs rows hl.symm (fun j x c hx hc=>Foot.mono (hF j x c hx hc) (fun k hk=>⟨hk.1,fun e=>hk.2 (by rw[hbl,e])⟩))
  obtain⟨_,inner,ho,hr⟩:=hR
  rcases ho.2 with⟨hv,_⟩ | ⟨g,cap',cur,hv,hg,hh,hn,hm,hs,ht⟩
  · cases hv
  injection hv with hA hN hC
  injection hA with hA
  injection hA with hA
  subst hA;subst hC
  have hsz:(Kd.raw (Kd.slice 3 (Kd.int .i64)).sz).sz=1:=rfl
  rw[hsz] at hs ht hr
  rw[Nat.mul_one] at hs ht
  have hdl:ds.length=rows.length:=by rw[<- h2,List.length_map]
  refine⟨cur,ds.toArray,⟨hh,by simp[hdl,hN],fun j hj=>?_,hg,by omega,hm,hs,h0 blk hbl⟩,by simpa using h1⟩
  have hj':j < ds.length:=by simpa using hj
  have hjr:rows[j]? = some [(ds[j]).enc]:=by rw[<- h2,List.getElem?_map,List.getElem?_eq_getElem hj'];rfl
  have hM:=hr.2 j _ hjr
  have e1:(inner.drop (j * 1)).take 1=[(ds[j]).enc]:=hM.1
  rw[Nat.mul_one] at e1
  have hil:inner.length=rows.length:=by have:=hr.1;omega
  have e2:inner[j]? = some (ds[j]).enc:=by
    have hji:j < inner.length:=by omega
    rw[List.drop_eq_getElem_cons hji,List.take_succ_cons,List.take_zero] at e1
    injection e1 with e5 _
    rw[List.getElem?_eq_getElem hji,e5]
  have e3:cur.toList[j]? = some (ds[j]).enc:=by
    rw[<- e2, <- ht,List.getElem?_take,if_pos (by omega)]
  have e4:(ds.toArray)[j]! = ds[j]:=by simp[hj']
  rw[e4, <- Array.getElem?_toList]
  exact e3
theorem put_take {okk:Nat->Prop} (cur:Array Value) (d':Array (El w0 okk)) (h:d'.size<=cur.size):(Go.Sort.putCells El.enc 0 d' cur).toList.take d'.size=d'.toList.map El.enc:=by
  apply List.ext_getElem?
  intro j
  rw[List.getElem?_take,List.getElem?_map,Array.getElem?_toList,Array.getElem?_toList]
  unfold Go.Sort.putCells
  rw[Array.getElem?_mapIdx]
  by_cases hj:j < d'.size
  · rw[if_pos hj,Array.getElem?_eq_getElem (show j < cur.size by omega),Array.getElem?_eq_getElem hj]
    simp only[Option.map_some]
    rw[if_pos ⟨Nat.zero_le _,by omega⟩,Nat.sub_zero,getElem!_pos d' j hj]
  · rw[if_neg hj,Array.getElem?_eq_none (by omega)];rfl
theorem N_back {cur:Array Value} {d d':Array (El w0 (fun k=>ok k/\k≠blk))} (R:RowOf w0 base ok blk n cap cur d) (hs:d'.size=n) (S:SW El.enc w0 blk 0 d' W) :
    Kd.N (Kd.slice 3 (Kd.int .i64)) 22 W base ok (.slice (some ⟨blk,0,none⟩) n cap) (d'.toList.map El.l):=by
  have hblk:blk < w0.heap.size:=(Array.getElem?_eq_some_iff.1 R.hh).1
  obtain⟨hk,_,_,_,hcur⟩:=sw_heap S hblk
  have hbl:(Value.slice (some ⟨blk,0,none⟩) n cap).ownBlock=some blk:=by simp[Value.ownBlock]
  have hsz:(Kd.raw (Kd.slice 3 (Kd.int .i64)).sz).sz=1:=rfl
  refine⟨fun k hk=>?_,d'.toList.map (fun x=>[x.enc]),by simp,⟨fun k hk=>hk.symm,d'.toList.map El.enc,?_,?_,?_⟩,fun j x c hx hc=>?_⟩
  · rw[hbl] at hk;injection hk with hk;subst hk;exact R.hok
  · rw[hsz]
    refine⟨by simp, .inr ⟨blk,cap,_,?_,R.hb,hcur R.hh,?_,R.hm,?_,?_⟩⟩
    · simp[hs]
    · simp[hs];exact R.hn
    · rw[Nat.mul_one];unfold Go.Sort.putCells;rw[Array.size_mapIdx];exact R.hs
    · rw[Nat.mul_one]
      have:=put_take cur d' (by rw[hs,R.hs];exact R.hn)
      simpa using this
  · rw[hsz];simp
  · intro j p hj
    have hj':j < d'.toList.length:=by have:=(List.getElem?_eq_some_iff.1 hj).1;simpa using this
    rw[List.getElem?_map,List.getElem?_eq_getElem hj'] at hj
    have hp:p=[(d'.toList[j]).enc]:=(Option.some.inj hj).symm
    subst hp
    have ecs:((d'.toList.map El.enc).drop (j * 1)).take 1=[(d'.toList[j]).enc]:=by
      rw[Nat.mul_one,List.drop_eq_getElem_cons (by simpa using hj'),List.take_succ_cons,List.take_zero];simp
    rw[hsz,ecs]
    exact⟨rfl,rfl,fun u hu=>by rw[List.mem_singleton.1 hu];rfl⟩
  · have hj':j < d'.toList.length:=by have:=(List.getElem?_eq_some_iff.1 hx).1;simpa using this
    rw[List.getElem?_map,List.getElem?_eq_getElem hj'] at hx hc
    obtain rfl:=Option.some.inj hx
    obtain rfl:=Option.some.inj hc
    have hF:=(d'.toList[j]).2.2
    have hF2:Kd.F (Kd.int .i64) W (fun k=>ok k/\k≠blk) _ _ _:=Kd.F_kept hF hk (fun k hk=>hk.2)
    intro W' hW
    exact⟨(d'.toList[j]).1.1,(d'.toList[j]).1.2.1,rfl,(d'.toList[j]).2.1,hF2 W' (fun k hk hlt=>hW k ⟨hk.1,fun e=>hk.2 (by rw[hbl] at e;injection e)⟩ hlt)⟩
end
def insL:Nat->List (List Int)->List (List Int)
  | 0,xs=>xs
  | j + 1,xs=>if cmpl (xs.getD (j + 1) []) (xs.getD j []) < 0 then insL j ((xs.set (j + 1) (xs.getD j [])).set j (xs.getD (j + 1) [])) else xs
def srtL:Nat->Nat->List (List Int)->List (List Int)
  | 0,_,xs=>xs
  | e + 1,i,xs=>srtL e (i + 1) (insL i xs)
section
variable {w0 W:World} {okk ok:Nat->Prop} {blk n cap base:Nat} {xs:List (List Int)}
theorem mp_get (d:Array (El w0 okk)) {j:Nat} (hj:j < d.size):(d.toList.map El.l).getD j []=(d[j]!).l:=by
  rw[List.getD_eq_getElem?_getD,List.getElem?_map,Array.getElem?_toList,Array.getElem?_eq_getElem hj,getElem!_pos d j hj];rfl
theorem mp_set (d:Array (El w0 okk)) (j:Nat) (x:El w0 okk):(d.setIfInBounds j x).toList.map El.l=(d.toList.map El.l).set j x.l:=by
  rw[Array.toList_setIfInBounds,List.map_set]
theorem ins_eq:∀(j:Nat) (d:Array (El w0 okk)),j < d.size->(Go.Sort.insInner (ltOf El.cf) 0 j d).toList.map El.l=insL j (d.toList.map El.l)/\(Go.Sort.insInner (ltOf El.cf) 0 j d).size=d.size
  | 0,d,_=>⟨rfl,rfl⟩
  | j + 1,d,hj=>by
    rw[Go.Sort.insInner,insL,mp_get d hj,mp_get d (show j < d.size by omega)]
    by_cases h:cmpl (d[j + 1]!).l (d[j]!).l < 0
    · have hl:(decide (j + 1 > 0) && ltOf El.cf d[j + 1]! d[j]!)=true:=by
        rw[Bool.and_eq_true];exact⟨decide_eq_true (by omega),decide_eq_true h⟩
      rw[if_pos hl,if_pos h]
      have hs:(Go.Sort.swp d (j + 1) j).size=d.size:=by unfold Go.Sort.swp;simp
      obtain⟨h1,h2⟩:=ins_eq j (Go.Sort.swp d (j + 1) j) (by omega)
      refine⟨?_,by rw[h2,hs]⟩
      rw[h1]
      congr 1
      unfold Go.Sort.swp
      rw[mp_set,mp_set]
    · have hl:¬ (decide (j + 1 > 0) && ltOf El.cf d[j + 1]! d[j]!)=true:=by
        rw[Bool.and_eq_true];rintro⟨_,z⟩;exact h (of_decide_eq_true z)
      rw[if_neg hl,if_neg h]
      exact⟨rfl,rfl⟩
theorem srt_eq:∀(e i b:Nat) (d:Array (El w0 okk)),b - i=e->b<=d.size->(Go.Sort.insOuter (ltOf El.cf) 0 b i d).toList.map El.l=srtL e i (d.toList.map El.l)/\(Go.Sort.insOuter (ltOf El.cf) 0 b i d).size=d.size
  | 0,i,b,d,he,hb=>by
    rw[Go.Sort.insOuter,if_neg (by omega)]
    exact⟨rfl,rfl⟩
  | e + 1,i,b,d,he,hb=>by
    rw[Go.Sort.insOuter,if_pos (by omega),srtL]
    obtain⟨h1,h2⟩:=ins_eq i d (by omega)
    obtain⟨h3,h4⟩:=srt_eq e (i + 1) b (Go.Sort.insInner (ltOf El.cf) 0 i d) (by omega) (by omega)
    exact⟨by rw[h3,h1],by rw[h4,h2]⟩
theorem cmp_lays (hblk:blk < w0.heap.size) (size:Nat):CmpLays1 Try.prog 118 #[] (El.enc:El w0 (fun k=>ok k/\k≠blk)->Value) El.cf blk 0 size w0:=by
  intro m os dk hs x y
  have S:SW El.enc w0 blk 0 dk (sortWorld El.enc w0 blk 0 m dk os):=⟨m,os,rfl⟩
  have hk:=(sw_heap S hblk).1
  have hx:=x.2.2 (sortWorld El.enc w0 blk 0 m dk os) (fun k hk' hlt=>hk.2 k hlt hk'.2)
  have hy:=y.2.2 (sortWorld El.enc w0 blk 0 m dk os) (fun k hk' hlt=>hk.2 k hlt hk'.2)
  obtain⟨k,hkv⟩:=cmpv_ev x.l y.l hx.2.1
  refine(circles2 k _ _ x.l _ _ y.l _ _ hx x.2.1 hy y.2.1 hkv).mono ?_
  rintro e w' ⟨rfl,n1,o,n2,rfl⟩
  exact⟨rfl,n1 + n2,#[o],by rw[Go.Sort.alloc_eq_grow];simp[World.drewN,Go.Sort.grow,Nat.add_assoc]⟩
def Sorted (w0:World) (base:Nat) (ok:Nat->Prop) (blk n cap:Nat) (ys:List (List Int)) (w':World):Prop:=
  Kd.N (Kd.slice 3 (Kd.int .i64)) 22 w' base ok (.slice (some ⟨blk,0,none⟩) n cap) ys/\Kept w0 w' (fun k=>k=blk)/\w'.os=w0.os/\w'.tape=w0.tape/\w'.output=w0.output
theorem ins133 (h:Kd.N (Kd.slice 3 (Kd.int .i64)) 22 w0 base ok (.slice (some ⟨blk,0,none⟩) n cap) xs) (hn:n<=1000) (a:Nat) (ha:a=0 ∨ a=n) :
    Calls Try.prog 133 #[.slice (some ⟨blk,0,none⟩) n cap, .int .i64 (a:Int), .int .i64 (n:Int), .func (.func 118) #[] #[]] w0 fun e w'=>e = .returned (.tuple #[])/\Sorted w0 base ok blk n cap (if a=0 then srtL (n - 1) 1 xs else xs) w':=by
  obtain⟨cur,d,R,hx⟩:=N_els h
  have hblk:blk < w0.heap.size:=(Array.getElem?_eq_some_iff.1 R.hh).1
  have hH:=blk_holds d R.hh R.hc
  have hmain:=Any.insertionSortCmpFunc_s laid El.enc El.cf 118 #[] blk 0 cap a n d d w0 w0 (enters_of Try.func118 (by kernel_rfl) rfl) (cmp_lays hblk d.size) ⟨El.one,hH,hblk⟩ rfl (SW.start hH) (by omega) (by rw[R.hd];exact Nat.le_refl _) (by rw[R.hd];omega)
  rw[R.hd] at hmain
  refine hmain.mono ?_
  rintro e w' ⟨rfl,S⟩
  unfold Go.Sort.insertionSort at S
  have hb2:n<=d.size:=by rw[R.hd];exact Nat.le_refl _
  obtain⟨hk,ho,ht,hu,_⟩:=sw_heap S hblk
  have fin:(Go.Sort.insOuter (ltOf El.cf) a n (a + 1) d).size=n/\(Go.Sort.insOuter (ltOf El.cf) a n (a + 1) d).toList.map El.l=if a=0 then srtL (n - 1) 1 xs else xs:=by
    rcases ha with rfl|rfl
    · obtain⟨h1,h2⟩:=srt_eq (n - 1) 1 n d (by omega) hb2
      exact⟨by rw[h2,R.hd],by rw[if_pos rfl,h1,hx]⟩
    · rw[Go.Sort.insOuter,if_neg (by omega)]
      refine⟨R.hd,?_⟩
      by_cases h0:a=0
      · subst h0
        have:xs=[]:=by
          rw[<- hx]
          have:d.toList=[]:=List.eq_nil_of_length_eq_zero (by simpa using R.hd)
          rw[this];rfl
        rw[if_pos rfl,this]
        have:d.toList=[]:=List.eq_nil_of_length_eq_zero (by simpa using R.hd)
        rw[this];rfl
      · rw[if_neg h0,hx]
  refine⟨rfl,?_,hk,ho,ht,hu⟩
  rw[<- fin.2]
  exact N_back R fin.1 S
end
section
variable {w0 w1 w2:World} {ok:Nat->Prop} {blk n cap base:Nat} {xs ys:List (List Int)}
theorem Sorted.refl (h:Kd.N (Kd.slice 3 (Kd.int .i64)) 22 w0 base ok (.slice (some ⟨blk,0,none⟩) n cap) xs):Sorted w0 base ok blk n cap xs w0:=⟨h,Kept.refl _ _,rfl,rfl,rfl⟩
theorem Sorted.trans (h:Sorted w0 base ok blk n cap xs w1) (k:Sorted w1 base ok blk n cap ys w2):Sorted w0 base ok blk n cap ys w2:=
  ⟨k.1,⟨Nat.le_trans h.2.1.1 k.2.1.1,fun i hi hn=>(k.2.1.2 i (Nat.lt_of_lt_of_le hi h.2.1.1) hn).trans (h.2.1.2 i hi hn)⟩,k.2.2.1.trans h.2.2.1,k.2.2.2.1.trans h.2.2.2.1,k.2.2.2.2.trans h.2.2.2.2⟩
theorem ins133b (h:Kd.N (Kd.slice 3 (Kd.int .i64)) 22 w0 base ok (.slice (some ⟨blk,0,none⟩) n cap) xs) (hn:n<=1000) (a:Nat) (ha:a=0 ∨ a=n) (x y:Int) (hx:x=(a:Int)) (hy:y=(n:Int)) :
    Calls Try.prog 133 #[.slice (some ⟨blk,0,none⟩) n cap, .int .i64 x, .int .i64 y, .func (.func 118) #[] #[]] w0 fun e w'=>e = .returned (.tuple #[])/\Sorted w0 base ok blk n cap (if a=0 then srtL (n - 1) 1 xs else xs) w':=by
  subst hx;subst hy;exact ins133 h hn a ha
set_option maxHeartbeats 4000000 in
set_option maxRecDepth 100000 in
theorem ins133_0 (A:Option Addr) (c:Nat) (w:World):Calls Try.prog 133 #[.slice A 0 c, .int .i64 0, .int .i64 0, .func (.func 118) #[] #[]] w fun e w'=>e = .returned (.tuple #[])/\Drawn0 w w':=by
  go_enter Try.func133,Try.ntmps133
  go_wp2
  repeat(go_quiet (fail);try go_wp2)
  go_loopg [8] 0 (fun kq v8 w'=>v8 = .int .i64 1/\Drawn0 w w')
  case atStart=>exact⟨rfl,by repeat(first|exact Drawn0.refl _|apply Drawn0.step)⟩
  case round=>
    obtain⟨rfl,⟨m1,rfl⟩⟩:=hrel
    go_wp2
    repeat(go_quiet (fail);try go_wp2)
    go_end0
    exact⟨rfl,by repeat(first|exact Drawn0.refl _|apply Drawn0.step)⟩
set_option maxHeartbeats 4000000 in
set_option maxRecDepth 100000 in
theorem stable129_lt (h:Kd.N (Kd.slice 3 (Kd.int .i64)) 22 w0 base ok (.slice (some ⟨blk,0,none⟩) n cap) xs) (hn:n < 20) :
    Calls Try.prog 129 #[.slice (some ⟨blk,0,none⟩) n cap, .int .i64 (n:Int), .func (.func 118) #[] #[]] w0 fun e w'=>e = .returned (.tuple #[])/\Sorted w0 base ok blk n cap (srtL (n - 1) 1 xs) w':=by
  have HS:=Gx.mk (Sorted.refl h)
  have hc1:decide ((20:Int)<=(n:Int))=false:=decide_eq_false (by omega)
  have hc2:decide ((20:Int) < (n:Int))=false:=decide_eq_false (by omega)
  go_enter Try.func129,Try.ntmps129
  go_wp2
  go_loopg [7,8] 0 (fun kq v7 v8 w'=>v7 = .int .i64 0/\v8 = .int .i64 20/\Gx (Sorted w0 base ok blk n cap xs w'))
  case atStart=>exact⟨rfl,rfl,⟨HS.out⟩⟩
  case round=>
    clear HS
    obtain⟨rfl,rfl,HS⟩:=hrel
    go_wp2_with (go_at_call 133;refine(ins133 (show Kd.N (Kd.slice 3 (Kd.int .i64)) 22 _ base ok (.slice (some ⟨blk,0,none⟩) n cap) _ by(repeat(first|with_reducible refine Kd.N_drewN ?_ _|with_reducible refine Kd.N_drew ?_));exact HS.out.1) (by omega) 0 (Or.inl rfl)).mono ?_;rintro e w9 ⟨rfl,hs⟩;have n0_:=Gx.mk (Sorted.trans (show Sorted w0 base ok blk n cap _ _ by(repeat(first|with_reducible refine Sorted.drewN ?_ _|with_reducible refine Sorted.drew ?_));exact HS.out) hs);clear HS hs;have HS:=n0_;clear n0_)
    go_loopg [6] 0 (fun kq v6 w'=>v6 = .int .i64 20/\Gx (Sorted w0 base ok blk n cap (srtL (n - 1) 1 xs) w'))
    case atStart=>exact⟨rfl,⟨by(repeat(first|with_reducible refine Sorted.drewN ?_ _|with_reducible refine Sorted.drew ?_));exact HS.out⟩⟩
    case round=>
      clear HS
      obtain⟨rfl,HS⟩:=hrel
      go_wp2
      go_end0
      exact⟨rfl,by(repeat(first|with_reducible refine Sorted.drewN ?_ _|with_reducible refine Sorted.drew ?_));exact HS.out⟩
set_option maxHeartbeats 4000000 in
set_option maxRecDepth 100000 in
theorem stable129_20 (h:Kd.N (Kd.slice 3 (Kd.int .i64)) 22 w0 base ok (.slice (some ⟨blk,0,none⟩) n cap) xs) (hn:n=20) :
    Calls Try.prog 129 #[.slice (some ⟨blk,0,none⟩) n cap, .int .i64 (n:Int), .func (.func 118) #[] #[]] w0 fun e w'=>e = .returned (.tuple #[])/\Sorted w0 base ok blk n cap (srtL (n - 1) 1 xs) w':=by
  have HS:=Gx.mk (Sorted.refl h)
  have hc1:decide ((20:Int)<=(n:Int))=true:=decide_eq_true (by omega)
  have hc2:decide ((20:Int) < (n:Int))=false:=decide_eq_false (by omega)
  have hc3:decide ((40:Int)<=(n:Int))=false:=decide_eq_false (by omega)
  have w40:wrap64 ((20:Int) + 20)=40:=by unfold wrap64;omega
  have HN:=Gx.mk hn
  clear hn
  go_enter Try.func129,Try.ntmps129
  go_wp2
  go_loopg [7,8] 1 (fun kq v7 v8 w'=>(kq=1/\v7 = .int .i64 0/\v8 = .int .i64 20/\Gx (Sorted w0 base ok blk n cap xs w')) ∨ (v7 = .int .i64 (n:Int)/\v8 = .int .i64 40/\Gx (Sorted w0 base ok blk n cap (srtL (n - 1) 1 xs) w')))
  case atStart=>exact .inl ⟨rfl,rfl,rfl,⟨HS.out⟩⟩
  case round=>
    clear HS
    rcases hrel with⟨rfl,rfl,rfl,HS⟩ | ⟨rfl,rfl,HS⟩
    · go_wp2_with (go_at_call 133;refine(ins133b (show Kd.N (Kd.slice 3 (Kd.int .i64)) 22 _ base ok (.slice (some ⟨blk,0,none⟩) n cap) _ by(repeat(first|with_reducible refine Kd.N_drewN ?_ _|with_reducible refine Kd.N_drew ?_));exact HS.out.1) (by have:=HN.out;omega) 0 (Or.inl rfl) _ _ ?hx ?hy).mono ?_;(case hx=>rfl);(case hy=>have:=HN.out;omega);rintro e w9 ⟨rfl,hs⟩;rw[if_pos rfl] at hs;have n0_:=Gx.mk (Sorted.trans (show Sorted w0 base ok blk n cap _ _ by(repeat(first|with_reducible refine Sorted.drewN ?_ _|with_reducible refine Sorted.drew ?_));exact HS.out) hs);clear HS hs;have HS:=n0_;clear n0_)
      go_roundg 0
      case measure=>omega
      case rel=>exact .inr ⟨by first|rfl|(rw[HN.out];rfl),by first|rfl|(rw[w40])|(simp only[i64_w];rw[w40]),⟨by(repeat(first|with_reducible refine Sorted.drewN ?_ _|with_reducible refine Sorted.drew ?_));exact HS.out⟩⟩
    · go_wp2_with (go_at_call 133;refine(ins133b (show Kd.N (Kd.slice 3 (Kd.int .i64)) 22 _ base ok (.slice (some ⟨blk,0,none⟩) n cap) _ by(repeat(first|with_reducible refine Kd.N_drewN ?_ _|with_reducible refine Kd.N_drew ?_));exact HS.out.1) (by have:=HN.out;omega) n (Or.inr rfl) _ _ ?hx ?hy).mono ?_;(case hx=>first|rfl|(have:=HN.out;omega));(case hy=>first|rfl|(have:=HN.out;omega));rintro e w9 ⟨rfl,hs⟩;rw[if_neg (by have:=HN.out;omega)] at hs;have n0_:=Gx.mk (Sorted.trans (show Sorted w0 base ok blk n cap _ _ by(repeat(first|with_reducible refine Sorted.drewN ?_ _|with_reducible refine Sorted.drew ?_));exact HS.out) hs);clear HS hs;have HS:=n0_;clear n0_)
      go_loopg [6] 0 (fun kq v6 w'=>v6 = .int .i64 20/\Gx (Sorted w0 base ok blk n cap (srtL (n - 1) 1 xs) w'))
      case atStart=>exact⟨rfl,⟨by(repeat(first|with_reducible refine Sorted.drewN ?_ _|with_reducible refine Sorted.drew ?_));exact HS.out⟩⟩
      case round=>
        clear HS
        obtain⟨rfl,HS⟩:=hrel
        go_wp2
        go_end0
        exact⟨rfl,by(repeat(first|with_reducible refine Sorted.drewN ?_ _|with_reducible refine Sorted.drew ?_));exact HS.out⟩
set_option maxHeartbeats 4000000 in
set_option maxRecDepth 100000 in
theorem stable129_0 (A:Option Addr) (c:Nat) (w:World):Calls Try.prog 129 #[.slice A 0 c, .int .i64 0, .func (.func 118) #[] #[]] w fun e w'=>e = .returned (.tuple #[])/\Drawn0 w w':=by
  go_enter Try.func129,Try.ntmps129
  go_wp2
  go_loopg [7,8] 0 (fun kq v7 v8 w'=>v7 = .int .i64 0/\v8 = .int .i64 20/\Drawn0 w w')
  case atStart=>exact⟨rfl,rfl,by repeat(first|exact Drawn0.refl _|apply Drawn0.step)⟩
  case round=>
    obtain⟨rfl,rfl,⟨m1,rfl⟩⟩:=hrel
    go_wp2_with (go_at_call 133;refine(ins133_0 A c _).mono ?_;rintro e w9 ⟨rfl,⟨nd,rfl⟩⟩)
    go_loopg [6] 0 (fun kq v6 w'=>v6 = .int .i64 20/\Drawn0 w w')
    case atStart=>exact⟨rfl,by repeat(first|exact Drawn0.refl _|exact⟨_,rfl⟩|exact⟨_,World.drewN_drewN _ _ _⟩|apply Drawn0.step)⟩
    case round=>
      obtain⟨rfl,⟨m2,rfl⟩⟩:=hrel
      go_wp2
      go_end0
      exact⟨rfl,by repeat(first|exact Drawn0.refl _|exact⟨_,rfl⟩|apply Drawn0.step)⟩
set_option maxHeartbeats 4000000 in
set_option maxRecDepth 100000 in
theorem sort117 (h:Kd.N (Kd.slice 3 (Kd.int .i64)) 22 w0 base ok (.slice (some ⟨blk,0,none⟩) n cap) xs) (hn:n<=20) :
    Calls Try.prog 117 #[.slice (some ⟨blk,0,none⟩) n cap, .func (.func 118) #[] #[]] w0 fun e w'=>e = .returned (.tuple #[])/\Sorted w0 base ok blk n cap (srtL (n - 1) 1 xs) w':=by
  have hS:Calls Try.prog 129 #[.slice (some ⟨blk,0,none⟩) n cap, .int .i64 (n:Int), .func (.func 118) #[] #[]] w0 fun e w'=>e = .returned (.tuple #[])/\Sorted w0 base ok blk n cap (srtL (n - 1) 1 xs) w':=by
    by_cases h20:n < 20
    · exact stable129_lt h h20
    · exact stable129_20 h (by omega)
  have HS:=Gx.mk hS
  clear hS
  go_enter Try.func117,Try.ntmps117
  go_wp2_with (go_at_call 129;refine HS.out.mono ?_;rintro e w9 ⟨rfl,hs⟩)
  go_end0
  exact⟨rfl,hs⟩
set_option maxHeartbeats 4000000 in
set_option maxRecDepth 100000 in
theorem sort117_0 (A:Option Addr) (c:Nat) (w:World):Calls Try.prog 117 #[.slice A 0 c, .func (.func 118) #[] #[]] w fun e w'=>e = .returned (.tuple #[])/\Drawn0 w w':=by
  go_enter Try.func117,Try.ntmps117
  go_wp2_with (go_at_call 129;refine(stable129_0 A c _).mono ?_;rintro e w9 ⟨rfl,⟨nd,rfl⟩⟩)
  go_end0
  exact⟨rfl,by repeat(first|exact Drawn0.refl _|exact⟨_,rfl⟩|apply Drawn0.step)⟩
end
def stepI (F:List Int->List (List Int)) (p row:List Int) (j:Nat):List (List Int):=
  if rd row (j:Int)=0 ∨ (j:Int) < rd p 0 then[] else if (j:Int)=rd p 0 then[p] else if (j:Int) ∈ p then[] else F (p ++ [(j:Int)])
def rowI (F:List Int->List (List Int)) (p row:List Int):Nat->Nat->List (List Int)
  | 0,_=>[]
  | e + 1,j=>stepI F p row j ++ rowI F p row e (j + 1)
def lastI (p:List Int):Int:=rd p ((p.length - 1:Nat):Int)
def walkI (d:List (List Int)):Nat->List Int->List (List Int)
  | 0,_=>[]
  | m + 1,p=>rowI (walkI d m) p (d.getD (lastI p).toNat []) (d.getD (lastI p).toNat []).length 0
structure St (w0:World) (gB gO gW:Nat) (AC:Option Addr) (nC cC:Nat) (AD:Option Addr) (nD cD:Nat) (vo:Value) (xs:List (List Int)) (w:World):Prop where
  hB:Below w0.heap.size w0 w
  bB:w.heap[gB]? = some (.cells #[.slice AC nC cC, .slice AD nD cD] 25 (0,0))
  bO:w.heap[gO]? = some (.cells #[vo] 23 (0,0))
  bW:w.heap[gW]? = some (.cells #[.func (.func 115) #[] #[.pointer (some ⟨gB,0,none⟩), .pointer (some ⟨gO,0,none⟩), .pointer (some ⟨gW,0,none⟩)]] 115 (0,0))
  hN:Kd.N (Kd.slice 3 (Kd.int .i64)) 22 w w0.heap.size (fun k=>w0.heap.size<=k/\k≠gO) vo xs
def Kp (gO:Nat) (w:World) (vo:Value) (w':World) (vo':Value):Prop:=
  w.heap.size<=w'.heap.size/\(∀k,k < w.heap.size->k≠gO->some k≠vo.ownBlock->w'.heap[k]? = w.heap[k]?)/\(vo'.ownBlock=vo.ownBlock ∨ ∃b,vo'.ownBlock=some b/\w.heap.size<=b)
section
variable {w0 w w1 w2:World} {gB gO gW:Nat} {AC AD:Option Addr} {nC cC nD cD:Nat} {vo v1 v2:Value} {xs:List (List Int)}
theorem Kp.refl:Kp gO w vo w vo:=⟨Nat.le_refl _,fun _ _ _ _=>rfl, .inl rfl⟩
theorem Kp.trans (h:Kp gO w vo w1 v1) (k:Kp gO w1 v1 w2 v2):Kp gO w vo w2 v2:=by
  refine⟨Nat.le_trans h.1 k.1,fun i hi hg ho=>?_,?_⟩
  · refine(k.2.1 i (Nat.lt_of_lt_of_le hi h.1) hg (fun e=>?_)).trans (h.2.1 i hi hg ho)
    rcases h.2.2 with e1 | ⟨b,e1,hb⟩
    · exact ho (e.trans e1)
    · rw[e1] at e;injection e with e;omega
  · rcases k.2.2 with e1 | ⟨b,e1,hb⟩
    · rw[e1];exact h.2.2
    · exact .inr ⟨b,e1,Nat.le_trans h.1 hb⟩
theorem Kp.below (h:Below w.heap.size w w1):Kp gO w vo w1 vo:=⟨h.size,fun k hk _ _=>h.block k hk, .inl rfl⟩
theorem St.below (h:St w0 gB gO gW AC nC cC AD nD cD vo xs w) (hb:Below w.heap.size w w1):St w0 gB gO gW AC nC cC AD nD cD vo xs w1:=
  ⟨Jg h.hB hb,G8 h.bB hb,G8 h.bO hb,G8 h.bW hb,Kd.N_below h.hN hb⟩
theorem St.drewN (h:St w0 gB gO gW AC nC cC AD nD cD vo xs w) (n:Nat):St w0 gB gO gW AC nC cC AD nD cD vo xs (w.drewN n):=h.below (G2 (Below.refl _ _) n)
theorem St.drew (h:St w0 gB gO gW AC nC cC AD nD cD vo xs w):St w0 gB gO gW AC nC cC AD nD cD vo xs w.drew:=h.below (below_drew (Below.refl _ _))
def Pa (gO:Nat) (w:World) (vo:Value) (A:Option Addr) (p:List Int):Prop:=Kd.F (Kd.int .i64) w (fun k=>k≠gO/\some k≠vo.ownBlock) A p.length p
theorem Pa.kp {A:Option Addr} {p:List Int} (h:Pa gO w vo A p) (k:Kp gO w vo w1 v1):Pa gO w1 v1 A p:=by
  refine Kd.F_mono (Kd.F_step (Kd.F_bound h) (fun i hi hlt=>k.2.1 i hlt hi.1.1 hi.1.2)) (fun i hi=>⟨hi.1.1,fun e=>?_⟩)
  rcases k.2.2 with e1 | ⟨b,e1,hb⟩
  · exact hi.1.2 (e.trans e1)
  · rw[e1] at e;injection e with e;have:=hi.2;omega
end
theorem rows_at {w:World} {A:Option Addr} {n:Nat} {xs:List (List Int)} (h:Kd.C (Kd.slice 3 (Kd.int .i64)) w A n xs) (j:Nat) (hj:j < n) :
    ∃ad A0 c0,A=some ad/\w.cell? (ad.add j)=some (.slice A0 (xs.getD j []).length c0)/\(xs.getD j []).length<=c0/\(Kd.int .i64).C w A0 (xs.getD j []).length (xs.getD j []):=by
  obtain⟨ad,c,rfl,hcl,⟨A0,c0,rfl,hl,hC⟩,hcc⟩:=Kd.C_get h [] (j:Int) (by omega) (by omega)
  refine⟨ad,A0,c0,rfl,?_,hl,hC⟩
  have:=hcc 0 _ rfl
  have hs:(Kd.slice 3 (Kd.int .i64)).sz=1:=rfl
  rw[hs] at this
  simpa using this
theorem pigeon:∀(n:Nat) (p:List Int),p.Nodup->(∀x ∈ p,0<=x/\x < (n:Int))->p.length<=n
  | 0,p,_,h=>by
    cases p with
    | nil=>simp
    | cons a r=>have:=h a List.mem_cons_self;omega
  | n + 1,p,hd,h=>by
    by_cases hm:(n:Int) ∈ p
    · have h1:=pigeon n (p.erase (n:Int)) (hd.erase _) (fun x hx=>by
        have h2:=h x (List.mem_of_mem_erase hx)
        have h3:x≠(n:Int):=(List.Nodup.mem_erase_iff hd).1 hx |>.1
        omega)
      have h2:=List.length_erase_of_mem hm
      omega
    · have h1:=pigeon n p hd (fun x hx=>by
        have h2:=h x hx
        have h3:x≠(n:Int):=fun e=>hm (e ▸ hx)
        omega)
      omega
theorem rd_mem' {p:List Int} {i:Nat} (h:i < p.length):rd p (i:Int) ∈ p:=by
  have:rd p (i:Int)=p[i]:=by simp[rd,List.getD_eq_getElem?_getD,List.getElem?_eq_getElem h]
  rw[this];exact List.getElem_mem h
theorem Kp.drewN {gO:Nat} {w w1:World} {vo v1:Value} (h:Kp gO w vo w1 v1) (n:Nat):Kp gO w vo (w1.drewN n) v1:=h.trans (Kp.below (G2 (Below.refl _ _) n))
theorem Kp.drew {gO:Nat} {w w1:World} {vo v1:Value} (h:Kp gO w vo w1 v1):Kp gO w vo w1.drew v1:=h.trans (Kp.below (below_drew (Below.refl _ _)))
theorem contains_ev (p:List Int) (x:Int) (hp:p.length<=4611686018427387904):∃k,Gi.f k p x=some (decide (x ∈ p)):=by
  have key:∀(e i k:Nat),p.length - i=e->i<=p.length->e < k->(∀i':Nat,i' < i->rd p (i':Int)≠x)->∃q,F2.l0 k p x (p.length:Int) (i:Int)=some q/\(decide (q ≥ 0)=decide (x ∈ p)):=by
    intro e
    induction e with
    | zero=>
      intro i k he hi hk hno
      obtain⟨k,rfl⟩:∃m,k=m + 1:=⟨k - 1,by omega⟩
      refine⟨-1,by simp only[F2.l0];rw[if_neg (by omega)],?_⟩
      have:x ∉ p:=fun hm=>by
        obtain⟨q,hq,e⟩:=List.mem_iff_getElem.mp hm
        exact hno q (by omega) (by simp[rd,List.getD_eq_getElem?_getD,List.getElem?_eq_getElem hq,e])
      rw[decide_eq_false this];rfl
    | succ e ih=>
      intro i k he hi hk hno
      obtain⟨k,rfl⟩:∃m,k=m + 1:=⟨k - 1,by omega⟩
      have hw:wrap64 ((i:Int) + 1)=((i + 1:Nat):Int):=by unfold wrap64;omega
      by_cases h:x=rd p (i:Int)
      · refine⟨(i:Int),by simp only[F2.l0];rw[if_pos (by omega),if_pos (by omega),if_pos (by omega),if_pos h],?_⟩
        rw[decide_eq_true (show x ∈ p from h ▸ rd_mem' (by omega))]
        exact decide_eq_true (by omega)
      · obtain⟨q,h1,h2⟩:=ih (i + 1) k (by omega) (by omega) (by omega) (fun i' hi'=>by
          by_cases e':i'=i
          · subst e';exact fun z=>h z.symm
          · exact hno i' (by omega))
        exact⟨q,by simp only[F2.l0];rw[if_pos (by omega),if_pos (by omega),if_pos (by omega),if_neg h,hw];exact h1,h2⟩
  obtain⟨q,h1,h2⟩:=key p.length 0 (p.length + 1) (by omega) (by omega) (by omega) (fun i' hi'=>by omega)
  refine⟨p.length + 1,?_⟩
  unfold Gi.f F2.f
  rw[show((0:Nat):Int)=0 from rfl] at h1
  rw[h1,Option.bind_some,h2]
theorem after_put {w0 wz W w4:World} {gB gO gW:Nat} {AC AD:Option Addr} {nC cC nD cD:Nat} {v v4:Value} {ys zs:List (List Int)} (nBO:gB≠gO) (nWO:gW≠gO) (gO0:w0.heap.size<=gO) (SZ:St w0 gB gO gW AC nC cC AD nD cD v ys wz) (BZ:Below wz.heap.size wz W) (hb:Below w0.heap.size w0 w4) (hg:W.grownBy w4 v.ownBlock) (hat:v4.ownBlock=v.ownBlock ∨ ∃b,v4.ownBlock=some b/\W.heap.size<=b) (hN:Kd.N (Kd.slice 3 (Kd.int .i64)) 22 w4 w0.heap.size (fun k=>w0.heap.size<=k/\k≠gO) v4 zs) :
    w4.heap[gO]? = some (.cells #[v] 23 (0,0))/\St w0 gB gO gW AC nC cC AD nD cD v4 zs (w4.setCell ⟨gO,0,none⟩ v4)/\Kp gO wz v (w4.setCell ⟨gO,0,none⟩ v4) v4:=by
  have hNW:=Kd.N_below SZ.hN BZ
  have bO:=Jd (G8 SZ.bO BZ) hg (Kd.N_ne hNW (G8 SZ.bO BZ) (by decide))
  have bB:=Jd (G8 SZ.bB BZ) hg (Kd.N_ne hNW (G8 SZ.bB BZ) (by decide))
  have bW:=Jd (G8 SZ.bW BZ) hg (Kd.N_ne hNW (G8 SZ.bW BZ) (by decide))
  refine⟨bO,⟨G0 hb gO0,Je bB nBO _,Jf bO 0 _ rfl,Je bW nWO _,Kd.N_far hN (fun _ hk=>hk.2) v4⟩,?_,fun k hk hgo hown=>?_,?_⟩
  · rw[World.size_setCell];exact Nat.le_trans BZ.size hg.size
  · refine(Below.heap_setCell w4 ⟨gO,0,none⟩ v4 k hgo).trans ((hg.block k (Nat.lt_of_lt_of_le hk BZ.size) hown).trans (BZ.block k hk))
  · rcases hat with h | ⟨b,h1,h2⟩
    · exact .inl h
    · exact .inr ⟨b,h1,Nat.le_trans BZ.size h2⟩
def T6:Bool × List (List Nat × List Nat):=(true,[([],[]),([],[]),([],[]),([1,2],[1,2]),([3],[3]),([0,4,3],[0,4]),([5,5,0,1,2,3,4,5],[5])])
def B6:List Nat:=[0,0,0,6,14,31,63]
theorem tab6:rtab .any (opsOf Try.f115 6)=T6:=by kernel_rfl
theorem bits6:waitsOk T6.2 B6=true:=by kernel_rfl
def T8:Bool × List (List Nat × List Nat):=(true,[([],[]),([],[]),([],[]),([1,2],[1,2]),([],[]),([4],[4]),([3,5,3],[3,5]),([0,6,6],[0,6])])
def B8:List Nat:=[0,0,0,6,0,16,62,127]
theorem tab8:rtab .any (opsOf Try.f115 8)=T8:=by kernel_rfl
theorem bits8:waitsOk T8.2 B8=true:=by kernel_rfl
theorem step_len (F:List Int->List (List Int)) (B:Nat) (hB:1<=B) (hF:∀q,(F q).length<=B) (p row:List Int) (j:Nat):(stepI F p row j).length<=B:=by
  unfold stepI
  split
  · exact Nat.zero_le _
  · split
    · exact hB
    · split
      · exact Nat.zero_le _
      · exact hF _
theorem row_len (F:List Int->List (List Int)) (B:Nat) (hB:1<=B) (hF:∀q,(F q).length<=B) (p row:List Int):∀(e j:Nat),(rowI F p row e j).length<=e * B
  | 0,_=>Nat.zero_le _
  | e + 1,j=>by
    rw[rowI,List.length_append,Nat.succ_mul]
    have h1:=step_len F B hB hF p row j
    have h2:=row_len F B hB hF p row e (j + 1)
    omega
theorem walk_len {d:List (List Int)} (sq:∀i,i < d.length->(d.getD i []).length=d.length) (h4:d.length<=4):∀(m:Nat) (p:List Int),(walkI d m p).length<=5 ^ m
  | 0,_=>Nat.zero_le _
  | m + 1,p=>by
    rw[walkI]
    have h1:=row_len (walkI d m) (5 ^ m) (Nat.one_le_pow _ _ (by omega)) (walk_len sq h4 m) p (d.getD (lastI p).toNat []) (d.getD (lastI p).toNat []).length 0
    have h2:(d.getD (lastI p).toNat []).length<=4:=by
      by_cases h:(lastI p).toNat < d.length
      · rw[sq _ h];exact h4
      · rw[List.getD_eq_getElem?_getD,List.getElem?_eq_none (by omega)];simp
    have h3:(d.getD (lastI p).toNat []).length * 5 ^ m<=4 * 5 ^ m:=Nat.mul_le_mul_right _ h2
    rw[Nat.pow_succ]
    omega
set_option maxHeartbeats 8000000 in
set_option maxRecDepth 100000 in
theorem walk {w0:World} {gB gO gW:Nat} {AC AD:Option Addr} {nC cC cD:Nat} {d:List (List Int)} (hD:Kd.C (Kd.slice 3 (Kd.int .i64)) w0 AD d.length d) (sq:∀i,i < d.length->(d.getD i []).length=d.length) (h4:d.length<=4)
    (nBO:gB≠gO) (nOB:gO≠gB) (nWO:gW≠gO) (nOW:gO≠gW) (nBW:gB≠gW) (nWB:gW≠gB) (gO0:w0.heap.size<=gO):∀(m:Nat) (p:List Int),0 < p.length->(∀x ∈ p,0<=x/\x < (d.length:Int))->p.Nodup->d.length < m + p.length ->
    ∀(A:Option Addr) (cP:Nat) (w:World) (vo:Value) (xs:List (List Int)),p.length<=cP->xs.length + 5 ^ m<=1000000->St w0 gB gO gW AC nC cC AD d.length cD vo xs w->Pa gO w vo A p ->
    Calls Try.prog 115 #[.slice A p.length cP, .pointer (some ⟨gB,0,none⟩), .pointer (some ⟨gO,0,none⟩), .pointer (some ⟨gW,0,none⟩)] w fun e w'=>e = .returned (.tuple #[])/\∃v',St w0 gB gO gW AC nC cC AD d.length cD v' (xs ++ walkI d m p) w'/\Kp gO w vo w' v'
  | 0,p,hp,hr,hnd,hm,_,_,_,_,_,_,_,_,_=>by have:=pigeon d.length p hnd hr;omega
  | m + 1,p,hp,hr,hnd,hm,A,cP,w,vo,xs,hcP,hbd,hS,hP=>by
    have HS:=Gx.mk hS
    have HP:=Gx.mk hP
    have hpl:=pigeon d.length p hnd hr
    have hla:=hr _ (rd_mem' (show p.length - 1 < p.length by omega))
    have hhd:=hr _ (rd_mem' (show 0 < p.length from hp))
    obtain⟨L,hL⟩:=Int.eq_ofNat_of_zero_le hla.1
    have hLd:L < d.length:=by omega
    have hlL:(lastI p).toNat=L:=by unfold lastI;rw[hL];rfl
    obtain⟨adD,B0,b0,eD,hx,hb0,hrow⟩:=rows_at hD L hLd
    subst eD
    have hsq:=sq L hLd
    have h5p:1<=5 ^ m:=Nat.one_le_pow _ _ (by omega)
    have HR:=Gx.mk (show walkI d (m + 1) p=rowI (walkI d m) p (d.getD L []) (d.getD L []).length 0 by rw[walkI,hlL])
    have HROW:=Gx.mk hrow
    generalize d.getD L []=row at hx hb0 HROW hsq HR
    clear hrow
    obtain⟨adP,eA,hx0⟩:=Kd.at_int (Foot.now hP) 0 (by omega) (by omega)
    subst eA
    obtain⟨adP',eA',hx1⟩:=Kd.at_int (Foot.now hP) ((p.length - 1:Nat):Int) (by omega) (by omega)
    cases eA'
    have hxw:=(HS.out.hB.cell (World.block_lt_of_cell? w0 _ hx)).trans hx
    have hw1:wrap64 ((p.length:Int) - 1)=((p.length - 1:Nat):Int):=by unfold wrap64;omega
    have q0:(0<=((p.length - 1:Nat):Int))=True:=eq_true (by omega)
    have q1:(((p.length - 1:Nat):Int) < (p.length:Int))=True:=eq_true (by omega)
    rw[hL] at hx1
    have q2:(0<=(L:Int))=True:=eq_true (by omega)
    have q3:((L:Int) < (d.length:Int))=True:=eq_true (by omega)
    have hz0:w.cell? ⟨gB,1,none⟩=some (.slice (some adD) d.length cD):=(Gy HS.out.bB 1).trans rfl
    have hxw':w.cell? (adD.add L)=some (.slice B0 row.length b0):=hxw
    rw[Int.toNat_natCast] at hx1
    have HX0:=Gx.mk hx0
    have HSQ:=Gx.mk hsq
    clear hS hP hx hxw hx0 hsq
    go_enter Try.func115,Try.ntmps115
    go_wp2
    go_loopg [20] (row.length) (fun kq v20 w'=>∃(j:Nat) (v:Value) (ys:List (List Int)),kq + j=row.length/\v20 = .int .i64 j/\Gx (St w0 gB gO gW AC nC cC (some adD) d.length cD v ys w')/\Gx (Kp gO w vo w' v)/\Gx (ys ++ rowI (walkI d m) p row kq j=xs ++ walkI d (m + 1) p)/\Gx (ys.length + kq * 5 ^ m<=1000000))
    case atStart=>exact⟨0,vo,xs,by omega,rfl,⟨by(repeat(first|with_reducible refine St.drewN ?_ _|with_reducible refine St.drew ?_));exact HS.out⟩,⟨Kp.below (by repeat(first|(with_reducible first|exact Below.refl _ _|apply G3|apply G2|apply G1)|exact Below.refl _ _))⟩,⟨by rw[HR.out]⟩,⟨by have z:=HSQ.out;have y:row.length * 5 ^ m<=4 * 5 ^ m:=Nat.mul_le_mul_right _ (by omega);rw[Nat.pow_succ] at hbd;omega⟩⟩
    case round=>
      clear HS
      obtain⟨j,v,ys,hj,rfl,SS,KK,HE,HBd⟩:=hrel
      have HPw:=Gx.mk (HP.out.kp KK.out)
      by_cases hlt:j < row.length
      · obtain⟨k1,rfl⟩:∃k1,gk=k1 + 1:=⟨gk - 1,by omega⟩
        have HC:=Gx.mk (Foot.now HPw.out)
        have HWJ:Gx (wrap64 ((j:Int) + 1)=((j + 1:Nat):Int)):=⟨by have:=HSQ.out;unfold wrap64;omega⟩
        obtain⟨adR,eR,hrw⟩:=Kd.at_int HROW.out (j:Int) (by omega) (by omega)
        subst eR
        obtain⟨adP2,eP,hp0⟩:=Kd.at_int HC.out 0 (by omega) (by omega)
        cases eP
        have hrw2:=(SS.out.hB.cell (World.block_lt_of_cell? w0 _ hrw)).trans hrw
        rw[Int.toNat_natCast] at hrw2
        have hp1:wr.cell? adP=some (.int .i64 (rd p 0)):=by simpa [Addr.add] using hp0
        clear hp0
        have p5:(0<=(j:Int))=True:=eq_true (by omega)
        have q5:((j:Int) < (row.length:Int))=True:=eq_true (by omega)
        have q6:((0:Int) < (p.length:Int))=True:=eq_true (by omega)
        have c3b0:decide ((j:Int) < (row.length:Int))=true:=decide_eq_true (by omega)
        clear hrw
        have HG:=Gx.mk (show stepI (walkI d m) p row j=if rd row (j:Int)=0 ∨ (j:Int) < rd p 0 then[] else if (j:Int)=rd p 0 then[p] else if (j:Int) ∈ p then[] else walkI d m (p ++ [(j:Int)]) from rfl)
        generalize rd row (j:Int)=t at hrw2 HG
        obtain⟨hv,hhv⟩:∃hv,rd p 0=hv:=⟨_,rfl⟩
        rw[hhv] at hp1 HG
        have HHV:=Gx.mk hhv
        clear hhv
        by_cases ht0:t=0
        · have c1:(t == 0)=true:=beq_iff_eq.mpr ht0
          have HNIL:Gx (stepI (walkI d m) p row j=[]):=⟨by rw[HG.out,if_pos (.inl ht0)]⟩
          clear HG ht0
          go_wp2
          go_roundg k1
          case measure=>omega
          case rel=>exact⟨j + 1,v,ys,by omega,(by first|rw[HWJ.out]|go_num),⟨by(repeat(first|with_reducible refine St.drewN ?_ _|with_reducible refine St.drew ?_));exact SS.out⟩,⟨by(repeat(first|with_reducible refine Kp.drewN ?_ _|with_reducible refine Kp.drew ?_));exact KK.out⟩,⟨by have:=HE.out;rw[rowI,HNIL.out,List.nil_append] at this;exact this⟩,⟨by have:=HBd.out;rw[Nat.succ_mul] at this;omega⟩⟩
        have c1:(t == 0)=false:=beq_eq_false_iff_ne.mpr ht0
        by_cases hlo:(j:Int) < hv
        · have c2:decide ((j:Int) < hv)=true:=decide_eq_true hlo
          have HNIL:Gx (stepI (walkI d m) p row j=[]):=⟨by rw[HG.out,if_pos (.inr hlo)]⟩
          clear HG ht0 hlo
          go_wp2
          go_roundg k1
          case measure=>omega
          case rel=>exact⟨j + 1,v,ys,by omega,(by first|rw[HWJ.out]|go_num),⟨by(repeat(first|with_reducible refine St.drewN ?_ _|with_reducible refine St.drew ?_));exact SS.out⟩,⟨by(repeat(first|with_reducible refine Kp.drewN ?_ _|with_reducible refine Kp.drew ?_));exact KK.out⟩,⟨by have:=HE.out;rw[rowI,HNIL.out,List.nil_append] at this;exact this⟩,⟨by have:=HBd.out;rw[Nat.succ_mul] at this;omega⟩⟩
        have c2:decide ((j:Int) < hv)=false:=decide_eq_false hlo
        by_cases heq:(j:Int)=hv
        · have c4:((j:Int) == hv)=true:=beq_iff_eq.mpr heq
          have HONE:Gx (stepI (walkI d m) p row j=[p]):=⟨by rw[HG.out,if_neg (fun z=>z.elim ht0 hlo),if_pos heq]⟩
          clear HG ht0 hlo heq
          go_upto_region 6 with fail
          try go_wp2
          have SZ:=Gx.mk (St.drew SS.out)
          have KZ:=Gx.mk (Kp.drew KK.out)
          have PZ:=Gx.mk (Pa.kp HPw.out (Kp.drew Kp.refl))
          have BZ:=Gx.mk (Below.refl wr.drew.heap.size wr.drew)
          refine start_ (n:=7) (S:=fun w'=>w'.cell? ⟨gO,0,none⟩=some v) (ds:=[6]) #[false,false,false,false,false,false,false] (by kernel_rfl) rfl rfl ((Gy SZ.out.bO 0).trans rfl) (fun hHeld=>?_);refine Jl tab6 bits6 (fun HT_ HW_=>?_)
          clear SS KK HPw HC hrw2 hp1
          generalize wr.drew=wz at SZ KZ PZ BZ hHeld |-
          refine pure_ (i:=2) (N:=some 43) (v:=?_) (a':=?_) #[false,false,true,false,false,false,false] rfl rfl (any_of HT_.out (by kernel_rfl)) (fun _ _ _ h=>h) (Or.inl ⟨by rfl,?_⟩) ?_ ?_
          rotate_left
          · intro w'
            go_simp
            with_reducible rfl
          rotate_left
          · simp only[Act.put,List.setIfInBounds_toArray,List.set_cons_zero,List.set_cons_succ,i64_w,i32_w]
            rfl
          refine take_ (i:=0) (N:=some 41) (v:=?_) (a':=?_) #[true,false,true,false,false,false,false] rfl rfl (take_ofW HT_.out HW_.out (by kernel_rfl)) (fun _ _ _ h=>h) (Or.inl ⟨by rfl,?_⟩) hHeld ?_ ?_
          rotate_left
          · rintro w' s0
            go_simp
            with_reducible rfl
          rotate_left
          · simp only[Act.put,List.setIfInBounds_toArray,List.set_cons_zero,List.set_cons_succ,i64_w,i32_w]
            rfl
          refine one_ (i:=1) (N:=some 42) #[true,true,true,false,false,false,false] rfl rfl (Jn HT_.out (by kernel_rfl)) (by decide) (fun K hK=>?_)
          refine Kd.R_lit_step (Kd.int .i64) _ 3 ?hg (N:=42) ?hd (xs:=([]:List Int)) (inner:=[]) (ok:=fun _=>True) (okp:=fun _=>True) ?hr ?hp (fun _ hk=>hk) trivial (Below.refl _ _) (Nat.le_refl _) (by simp) ?_
          (case hd=>rfl)
          (case hg=>rfl)
          (case hr=>first|(go_simp;done)|(go_simp;rfl))
          (case hp=>exact(Reps.none _ _))
          intro v42 wa ho hb hg_ hnew_
          clear hg_ hnew_
          have HO1:=Gx.mk (Kd.R_lower ho BZ.out.size)
          have n0_:=Gx.mk (Jg BZ.out hb)
          clear BZ hb ho
          have BZ:=n0_
          clear n0_
          refine hK.out _ _ ((Gy (G8 SZ.out.bO BZ.out) 0).trans rfl) (fun hHeld=>?_)
          clear hK K
          refine norm_ (a':=?_) ?_ ?_
          rotate_left
          · show Act.put _ (some 42) _=_
            simp only[Act.put,List.setIfInBounds_toArray,List.set_cons_zero,List.set_cons_succ,i64_w,i32_w]
            rfl
          refine one_ (i:=3) (N:=some 44) #[true,true,true,true,false,false,false] rfl rfl (Jn HT_.out (by kernel_rfl)) (by decide) (fun K hK=>?_)
          refine Kd.R_append_rows_step (Kd.int .i64) (w0:=wz) wz.heap.size (by rfl) (.tmp 42) (.tmp 43) 22 3 (.int .i64 0) 8 rfl Try.underlying22 info3 rfl (by decide) (by omega) v42 [] p _ _ _ (fun _=>True) (fun _=>False) rfl rfl ?aO ?aR (fun _ _ h=>h) (fun _ h=>h.elim) ?aF ?aB ?aS ?aL ?_
          (case aR=>exact(Foot.now (Kd.F_below PZ.out BZ.out)))
          (case aB=>exact BZ.out)
          (case aF=>exact fun _ _=>trivial)
          (case aO=>exact HO1.out)
          (case aS=>exact BZ.out.size)
          (case aL=>simp;omega)
          intro v44 wb ho hb hg hat
          rw[List.nil_append] at ho
          have HO2:=Gx.mk ho
          clear BZ HO1
          have BZ:=Gx.mk hb
          clear ho hb hg hat
          obtain⟨Ao,co,eo⟩:=Kd.R_slice HO2.out
          subst eo
          refine hK.out _ _ ((Gy (G8 SZ.out.bO BZ.out) 0).trans rfl) (fun hHeld=>?_)
          clear hK K
          refine norm_ (a':=?_) ?_ ?_
          rotate_left
          · show Act.put _ (some 44) _=_
            simp only[Act.put,List.setIfInBounds_toArray,List.set_cons_zero,List.set_cons_succ,i64_w,i32_w]
            rfl
          refine one_ (i:=4) (N:=some 45) #[true,true,true,true,true,false,false] rfl rfl (Jn HT_.out (by kernel_rfl)) (by decide) (fun K hK=>?_)
          have HF:Gx (Kd.F (Kd.int .i64) wb (fun k=>wz.heap.size<=k) Ao p.length p):=⟨Kd.R_F (Kd.R_mono (Kd.R_bound HO2.out) (fun _ hk=>hk.2.1))⟩
          refine Kd.N_lit_step (Kd.slice 3 (Kd.int .i64)) (w0:=wz) wz.heap.size 22 ?hg (N':=45) ?hd (xs:=[p]) (inner:=[.slice Ao p.length co]) (ok:=fun k=>wz.heap.size<=k) (okp:=fun k=>wz.heap.size<=k) ?hr ?hp (fun _ hk=>hk) BZ.out.size BZ.out BZ.out.size (by simp) ?_
          (case hd=>rfl)
          (case hg=>rfl)
          (case hr=>first|(go_simp;done)|(go_simp;rfl))
          (case hp=>exact Reps.one (show Kd.FK (Kd.slice 3 (Kd.int .i64)) wb (fun k=>wz.heap.size<=k) p [.slice Ao p.length co] from fun W' hW=>⟨Ao,co,rfl,(Kd.R_reads' HO2.out).2.1,HF.out W' hW⟩) (Reps.none _ _))
          intro v45 wc ho hb hg hat
          have HO3:=Gx.mk ho
          clear BZ HO2 HF
          have BZ:=Gx.mk hb
          clear ho hb hg hat
          obtain⟨A45,c45,e45⟩:=Kd.N_slice HO3.out
          subst e45
          refine hK.out _ _ ((Gy (G8 SZ.out.bO BZ.out) 0).trans rfl) (fun hHeld=>?_)
          clear hK K
          refine norm_ (a':=?_) ?_ ?_
          rotate_left
          · show Act.put _ (some 45) _=_
            simp only[Act.put,List.setIfInBounds_toArray,List.set_cons_zero,List.set_cons_succ,i64_w,i32_w]
            rfl
          refine one_ (i:=5) (N:=some 46) #[true,true,true,true,true,true,false] rfl rfl (Jn HT_.out (by kernel_rfl)) (by decide) (fun K hK=>?_)
          have hgw:=(Array.getElem?_eq_some_iff.1 SZ.out.bO).1
          refine Kd.N_append_rows_step (Kd.slice 3 (Kd.int .i64)) (w0:=w0) w0.heap.size (by rfl) (.tmp 41) (.tmp 45) 23 22 (.slice none 0 0) 24 rfl Try.underlying23 info22 rfl (by decide) (by omega) v ys [p] _ _ _ (fun k=>w0.heap.size<=k/\k≠gO) (fun k=>(w0.heap.size<=k/\k≠gO)/\some k≠v.ownBlock) rfl rfl ?aO ?aR (fun _ hk=>hk) ?aF ?aB ?aS ?aL ?_
          (case aO=>exact Kd.N_below SZ.out.hN BZ.out)
          (case aR=>exact Kd.F_mono (Kd.N_F HO3.out) (fun k hk=>⟨⟨Nat.le_trans SZ.out.hB.size hk,fun e=>by omega⟩,fun e=>by have:=Kd.N_lt SZ.out.hN k e.symm;omega⟩))
          (case aF=>exact fun k hk=>⟨Nat.le_trans SZ.out.hB.size (Nat.le_trans BZ.out.size hk),fun e=>by have:=BZ.out.size;omega⟩)
          (case aB=>exact Jg SZ.out.hB BZ.out)
          (case aS=>exact Nat.le_trans SZ.out.hB.size BZ.out.size)
          (case aL=>have z:=HBd.out;rw[Nat.succ_mul] at z;simp;omega)
          intro v46 wd ho hb hg hat
          obtain⟨zs,hzs⟩:∃zs,zs=ys ++ [p]:=⟨_,rfl⟩
          rw[<- hzs] at ho
          have NZ:=Gx.mk hzs
          clear hzs
          obtain⟨hbO,hS4,hK4⟩:=after_put nBO nWO gO0 SZ.out BZ.out hb hg hat ho
          have HBO:=Gx.mk hbO
          have HS4:=Gx.mk hS4
          have HK4:=Gx.mk hK4
          clear hbO hS4 hK4 ho hb hg hat
          refine hK.out _ _ ((Gy HBO.out 0).trans rfl) (fun hHeld=>?_)
          clear hK K
          refine norm_ (a':=?_) ?_ ?_
          rotate_left
          · show Act.put _ (some 46) _=_
            simp only[Act.put,List.setIfInBounds_toArray,List.set_cons_zero,List.set_cons_succ,i64_w,i32_w]
            rfl
          refine last_ (i:=6) (N:=none) #[true,true,true,true,true,true,true] rfl rfl (by kernel_rfl) (by decide) (fun K hK=>?_)
          have hs46:wd.cell? ⟨gO,0,none⟩=some v:=(Gy HBO.out 0).trans rfl
          have hfs46:=G7 HBO.out 0
          obtain⟨A46,c46,e46⟩:=Kd.N_slice HS4.out.hN
          subst e46
          refine skip_ (w1:=?_) (by rfl) rfl ?_ ?_
          rotate_left
          · go_simp
            rfl
          refine hK.out _ _ ?_
          clear hK K
          refine done_ (by kernel_rfl) ?_
          try go_wp2
          go_roundg k1
          case measure=>omega
          case rel=>exact⟨j + 1,_,zs,by omega,(by first|rw[HWJ.out]|go_num),⟨by(repeat(first|with_reducible refine St.drewN ?_ _|with_reducible refine St.drew ?_));exact HS4.out⟩,⟨by(repeat(first|with_reducible refine Kp.drewN ?_ _|with_reducible refine Kp.drew ?_));exact Kp.trans KZ.out HK4.out⟩,⟨by have z:=HE.out;rw[rowI,HONE.out] at z;rw[NZ.out,List.append_assoc];exact z⟩,⟨by have z:=HBd.out;rw[Nat.succ_mul] at z;rw[NZ.out,List.length_append,List.length_singleton];omega⟩⟩
        have c4:((j:Int) == hv)=false:=beq_eq_false_iff_ne.mpr heq
        obtain⟨kc,hkc⟩:=contains_ev p (j:Int) (by omega)
        by_cases hin:(j:Int) ∈ p
        · have HNIL:Gx (stepI (walkI d m) p row j=[]):=⟨by rw[HG.out,if_neg (fun z=>z.elim ht0 hlo),if_neg heq,if_pos hin]⟩
          rw[decide_eq_true hin] at hkc
          have HK:=Gx.mk hkc
          clear HG ht0 hlo heq hin hkc
          go_wp2_with (go_at_call 116;refine(Gi.calls kc _ _ p (j:Int) true _ ?s1 hcP HK.out).mono ?_;(case s1=>repeat(first|exact HC.out|(with_reducible refine Kd.C_drewN ?_ _)|(with_reducible refine Kd.C_drew ?_)));rintro e w9 ⟨rfl,⟨nd,rfl⟩⟩)
          go_roundg k1
          case measure=>omega
          case rel=>exact⟨j + 1,v,ys,by omega,(by first|rw[HWJ.out]|go_num),⟨by(repeat(first|with_reducible refine St.drewN ?_ _|with_reducible refine St.drew ?_));exact SS.out⟩,⟨by(repeat(first|with_reducible refine Kp.drewN ?_ _|with_reducible refine Kp.drew ?_));exact KK.out⟩,⟨by have:=HE.out;rw[rowI,HNIL.out,List.nil_append] at this;exact this⟩,⟨by have:=HBd.out;rw[Nat.succ_mul] at this;omega⟩⟩
        have HREC:Gx (stepI (walkI d m) p row j=walkI d m (p ++ [(j:Int)])):=⟨by rw[HG.out,if_neg (fun z=>z.elim ht0 hlo),if_neg heq,if_neg hin]⟩
        rw[decide_eq_false hin] at hkc
        have HK:=Gx.mk hkc
        have hjh:hv < (j:Int):=by omega
        clear HG ht0 hlo heq hkc
        go_upto_region 8 with(go_at_call 116;refine(Gi.calls kc _ _ p (j:Int) false _ ?s1 hcP HK.out).mono ?_;(case s1=>repeat(first|exact HC.out|(with_reducible refine Kd.C_drewN ?_ _)|(with_reducible refine Kd.C_drew ?_)));rintro e w9 ⟨rfl,⟨nd,rfl⟩⟩)
        try go_wp2
        have SZ:=Gx.mk (St.drew (St.drewN SS.out nd))
        have KZ:=Gx.mk (Kp.drew (Kp.drewN KK.out nd))
        have PZ:=Gx.mk (Pa.kp HPw.out (Kp.drew (Kp.drewN Kp.refl nd)))
        have BZ:=Gx.mk (Below.refl (wr.drewN nd).drew.heap.size (wr.drewN nd).drew)
        have HLP:=Gx.mk (show p.length<=4 by omega)
        have HIN:=Gx.mk hin
        clear hin
        refine start_ (n:=8) (S:=fun w'=>w'.cell? ⟨gW,0,none⟩=some (.func (.func 115) #[] #[.pointer (some ⟨gB,0,none⟩), .pointer (some ⟨gO,0,none⟩), .pointer (some ⟨gW,0,none⟩)])) (ds:=[]) #[false,false,false,false,false,false,false,false] (by kernel_rfl) rfl rfl ((Gy SZ.out.bW 0).trans rfl) (fun hHeld=>?_);refine Jl tab8 bits8 (fun HT_ HW_=>?_)
        clear SS KK HPw HC hrw2 hp1
        generalize (wr.drewN nd).drew=wz at SZ KZ PZ BZ hHeld |-
        refine pure_ (i:=2) (N:=some 54) (v:=?_) (a':=?_) #[false,false,true,false,false,false,false,false] rfl rfl (any_of HT_.out (by kernel_rfl)) (fun _ _ _ h=>h) (Or.inl ⟨by rfl,?_⟩) ?_ ?_
        rotate_left
        · intro w'
          go_simp
          with_reducible rfl
        rotate_left
        · simp only[Act.put,List.setIfInBounds_toArray,List.set_cons_zero,List.set_cons_succ,i64_w,i32_w]
          rfl
        refine pure_ (i:=4) (N:=some 56) (v:=?_) (a':=?_) #[false,false,true,false,true,false,false,false] rfl rfl (any_of HT_.out (by kernel_rfl)) (fun _ _ _ h=>h) (Or.inl ⟨by rfl,?_⟩) ?_ ?_
        rotate_left
        · intro w'
          go_simp
          with_reducible rfl
        rotate_left
        · simp only[Act.put,List.setIfInBounds_toArray,List.set_cons_zero,List.set_cons_succ,i64_w,i32_w]
          rfl
        refine take_ (i:=0) (N:=some 52) (v:=?_) (a':=?_) #[true,false,true,false,true,false,false,false] rfl rfl (take_ofW HT_.out HW_.out (by kernel_rfl)) (fun _ _ _ h=>h) (Or.inl ⟨by rfl,?_⟩) hHeld ?_ ?_
        rotate_left
        · rintro w' s0
          go_simp
          with_reducible rfl
        rotate_left
        · simp only[Act.put,List.setIfInBounds_toArray,List.set_cons_zero,List.set_cons_succ,i64_w,i32_w]
          rfl
        refine join_ (σ:=Value × Value × Value) 2 #[true,true,true,true,true,true,false,false] (fun s_=>[(53,s_.1),(55,s_.2.1),(57,s_.2.2)]) (fun s_ w'=>(w'.cell? ⟨gW,0,none⟩=some (.func (.func 115) #[] #[.pointer (some ⟨gB,0,none⟩), .pointer (some ⟨gO,0,none⟩), .pointer (some ⟨gW,0,none⟩)]))/\Kd.R (Kd.int .i64) 3 w' wz.heap.size (fun _=>True) s_.2.1 p/\Kd.R (Kd.int .i64) 3 w' wz.heap.size (fun k=>True/\some k≠(s_.2.1:Value).ownBlock) s_.2.2 [(j:Int)]/\Below wz.heap.size wz w') ?_ ?_
        rotate_left
        · intro hCont
          refine two_ (i:=1) (j:=5) (Ni:=some 53) (Nj:=some 57) #[true,true,true,false,true,false,false,false] #[true,false,true,false,true,true,false,false] rfl rfl rfl rfl (two_of HT_.out (by kernel_rfl)) (by decide) (by decide) (fun K hK=>?_) (fun K hK=>?_)
          · skip
            refine Kd.R_lit_step (Kd.int .i64) _ 3 ?hg (N:=53) ?hd (xs:=([]:List Int)) (inner:=[]) (ok:=fun _=>True) (okp:=fun _=>True) ?hr ?hp (fun _ hk=>hk) trivial (Below.refl _ _) (Nat.le_refl _) (by simp) ?_
            (case hd=>rfl)
            (case hg=>rfl)
            (case hr=>first|(go_simp;done)|(go_simp;rfl))
            (case hp=>exact(Reps.none _ _))
            intro v53 wa_ ho hb hg_ hnew_
            clear hg_ hnew_
            have HO53:=Gx.mk (Kd.R_lower ho BZ.out.size)
            have n0_:=Gx.mk (Jg BZ.out hb)
            clear BZ hb ho
            have BZ:=n0_
            clear n0_
            refine hK.out _ _ (Gy (G8 SZ.out.bW BZ.out) 0 |>.trans rfl) (fun hHeld=>?_)
            clear hK K
            refine norm_ (a':=?_) ?_ ?_
            rotate_left
            · show Act.put _ (some 53) _=_
              simp only[Act.put,List.setIfInBounds_toArray,List.set_cons_zero,List.set_cons_succ,i64_w,i32_w]
              rfl
            refine two_ (i:=3) (j:=5) (Ni:=some 55) (Nj:=some 57) #[true,true,true,true,true,false,false,false] #[true,true,true,false,true,true,false,false] rfl rfl rfl rfl (two_of HT_.out (by kernel_rfl)) (by decide) (by decide) (fun K hK=>?_) (fun K hK=>?_)
            · skip
              refine Kd.R_append_rows_step (Kd.int .i64) (w0:=wz) wz.heap.size (by rfl) (.tmp 53) (.tmp 54) 22 3 (.int .i64 0) 8 rfl Try.underlying22 info3 rfl (by decide) (by omega) v53 [] p _ _ _ (fun _=>True) (fun _=>False) rfl rfl ?aO ?aR (fun _ _ h=>h) (fun _ h=>h.elim) ?aF ?aB ?aS ?aL ?_
              (case aR=>exact(Foot.now (Kd.F_below PZ.out BZ.out)))
              (case aB=>exact BZ.out)
              (case aF=>exact fun _ _=>trivial)
              (case aO=>exact HO53.out)
              (case aS=>exact BZ.out.size)
              (case aL=>(try simp only[List.length_nil,List.length_cons]);have:=HLP.out;omega)
              intro v55 wb_ ho hb hg hat
              rw[List.nil_append] at ho
              have HO55:=Gx.mk ho
              clear BZ HO53
              have BZ:=Gx.mk hb
              clear ho hb hg hat
              refine hK.out _ _ (Gy (G8 SZ.out.bW BZ.out) 0 |>.trans rfl) (fun hHeld=>?_)
              clear hK K
              refine norm_ (a':=?_) ?_ ?_
              rotate_left
              · show Act.put _ (some 55) _=_
                simp only[Act.put,List.setIfInBounds_toArray,List.set_cons_zero,List.set_cons_succ,i64_w,i32_w]
                rfl
              refine one_ (i:=5) (N:=some 57) #[true,true,true,true,true,true,false,false] rfl rfl (Jn HT_.out (by kernel_rfl)) (by decide) (fun K hK=>?_)
              refine Kd.R_lit_step (Kd.int .i64) _ 3 ?hg (N:=57) ?hd (xs:=([(j:Int)]:List Int)) (inner:=[.int .i64 (j:Int)]) (ok:=fun _=>True) (okp:=fun _=>True) ?hr ?hp (fun _ hk=>hk) trivial (Below.refl _ _) (Nat.le_refl _) (by simp) ?_
              (case hd=>rfl)
              (case hg=>rfl)
              (case hr=>first|(go_simp;done)|(go_simp;rfl))
              (case hp=>exact(Reps.one (show Kd.M (Kd.int .i64) _ _ _ (j:Int) [.int .i64 (j:Int)] from rfl) (Reps.none _ _)))
              intro v57 wa_ ho hb hg_ hnew_
              clear hg_ hnew_
              have HO57:=Gx.mk (Kd.R_lower (Kd.R_new' (u:=v55) ho (Kd.R_lt HO55.out)) BZ.out.size)
              have m0_:=Gx.mk (Kd.R_below HO55.out hb)
              clear HO55
              have HO55:=m0_
              clear m0_
              have n0_:=Gx.mk (Jg BZ.out hb)
              clear BZ hb ho
              have BZ:=n0_
              clear n0_
              refine hK.out _ _ (Gy (G8 SZ.out.bW BZ.out) 0 |>.trans rfl) (fun hHeld=>?_)
              clear hK K
              refine norm_ (a':=?_) ?_ ?_
              rotate_left
              · show Act.put _ (some 57) _=_
                simp only[Act.put,List.setIfInBounds_toArray,List.set_cons_zero,List.set_cons_succ,i64_w,i32_w]
                rfl
              exact norm_ (by simp only[putAll,Act.put,List.setIfInBounds_toArray,List.set_cons_zero,List.set_cons_succ]) (hCont (v53,v55,v57) _ ⟨hHeld,HO55.out,HO57.out,BZ.out⟩)
            · skip
              refine Kd.R_lit_step (Kd.int .i64) _ 3 ?hg (N:=57) ?hd (xs:=([(j:Int)]:List Int)) (inner:=[.int .i64 (j:Int)]) (ok:=fun _=>True) (okp:=fun _=>True) ?hr ?hp (fun _ hk=>hk) trivial (Below.refl _ _) (Nat.le_refl _) (by simp) ?_
              (case hd=>rfl)
              (case hg=>rfl)
              (case hr=>first|(go_simp;done)|(go_simp;rfl))
              (case hp=>exact(Reps.one (show Kd.M (Kd.int .i64) _ _ _ (j:Int) [.int .i64 (j:Int)] from rfl) (Reps.none _ _)))
              intro v57 wa_ ho hb hg_ hnew_
              clear hg_ hnew_
              have HO57:=Gx.mk (Kd.R_lower (Kd.R_new' (u:=v53) ho (Kd.R_lt HO53.out)) BZ.out.size)
              have m0_:=Gx.mk (Kd.R_below HO53.out hb)
              clear HO53
              have HO53:=m0_
              clear m0_
              have n0_:=Gx.mk (Jg BZ.out hb)
              clear BZ hb ho
              have BZ:=n0_
              clear n0_
              refine hK.out _ _ (Gy (G8 SZ.out.bW BZ.out) 0 |>.trans rfl) (fun hHeld=>?_)
              clear hK K
              refine norm_ (a':=?_) ?_ ?_
              rotate_left
              · show Act.put _ (some 57) _=_
                simp only[Act.put,List.setIfInBounds_toArray,List.set_cons_zero,List.set_cons_succ,i64_w,i32_w]
                rfl
              refine one_ (i:=3) (N:=some 55) #[true,true,true,true,true,true,false,false] rfl rfl (Jn HT_.out (by kernel_rfl)) (by decide) (fun K hK=>?_)
              refine Kd.R_append_rows_step (Kd.int .i64) (w0:=wz) wz.heap.size (by rfl) (.tmp 53) (.tmp 54) 22 3 (.int .i64 0) 8 rfl Try.underlying22 info3 rfl (by decide) (by omega) v53 [] p _ _ _ (fun _=>True) (fun _=>False) rfl rfl ?aO ?aR (fun _ _ h=>h) (fun _ h=>h.elim) ?aF ?aB ?aS ?aL ?_
              (case aR=>exact(Foot.now (Kd.F_below PZ.out BZ.out)))
              (case aB=>exact BZ.out)
              (case aF=>exact fun _ _=>trivial)
              (case aO=>exact HO53.out)
              (case aS=>exact BZ.out.size)
              (case aL=>(try simp only[List.length_nil,List.length_cons]);have:=HLP.out;omega)
              intro v55 wb_ ho hb hg hat
              rw[List.nil_append] at ho
              have m0_:=Gx.mk (Kd.R_after (ok:=fun _=>True) HO57.out hg hat)
              clear HO57
              have HO57:=m0_
              clear m0_
              have HO55:=Gx.mk ho
              clear BZ HO53
              have BZ:=Gx.mk hb
              clear ho hb hg hat
              refine hK.out _ _ (Gy (G8 SZ.out.bW BZ.out) 0 |>.trans rfl) (fun hHeld=>?_)
              clear hK K
              refine norm_ (a':=?_) ?_ ?_
              rotate_left
              · show Act.put _ (some 55) _=_
                simp only[Act.put,List.setIfInBounds_toArray,List.set_cons_zero,List.set_cons_succ,i64_w,i32_w]
                rfl
              exact norm_ (by simp only[putAll,Act.put,List.setIfInBounds_toArray,List.set_cons_zero,List.set_cons_succ]) (hCont (v53,v55,v57) _ ⟨hHeld,HO55.out,HO57.out,BZ.out⟩)
          · skip
            refine Kd.R_lit_step (Kd.int .i64) _ 3 ?hg (N:=57) ?hd (xs:=([(j:Int)]:List Int)) (inner:=[.int .i64 (j:Int)]) (ok:=fun _=>True) (okp:=fun _=>True) ?hr ?hp (fun _ hk=>hk) trivial (Below.refl _ _) (Nat.le_refl _) (by simp) ?_
            (case hd=>rfl)
            (case hg=>rfl)
            (case hr=>first|(go_simp;done)|(go_simp;rfl))
            (case hp=>exact(Reps.one (show Kd.M (Kd.int .i64) _ _ _ (j:Int) [.int .i64 (j:Int)] from rfl) (Reps.none _ _)))
            intro v57 wa_ ho hb hg_ hnew_
            clear hg_ hnew_
            have HO57:=Gx.mk (Kd.R_lower ho BZ.out.size)
            have n0_:=Gx.mk (Jg BZ.out hb)
            clear BZ hb ho
            have BZ:=n0_
            clear n0_
            refine hK.out _ _ (Gy (G8 SZ.out.bW BZ.out) 0 |>.trans rfl) (fun hHeld=>?_)
            clear hK K
            refine norm_ (a':=?_) ?_ ?_
            rotate_left
            · show Act.put _ (some 57) _=_
              simp only[Act.put,List.setIfInBounds_toArray,List.set_cons_zero,List.set_cons_succ,i64_w,i32_w]
              rfl
            refine one_ (i:=1) (N:=some 53) #[true,true,true,false,true,true,false,false] rfl rfl (Jn HT_.out (by kernel_rfl)) (by decide) (fun K hK=>?_)
            refine Kd.R_lit_step (Kd.int .i64) _ 3 ?hg (N:=53) ?hd (xs:=([]:List Int)) (inner:=[]) (ok:=fun _=>True) (okp:=fun _=>True) ?hr ?hp (fun _ hk=>hk) trivial (Below.refl _ _) (Nat.le_refl _) (by simp) ?_
            (case hd=>rfl)
            (case hg=>rfl)
            (case hr=>first|(go_simp;done)|(go_simp;rfl))
            (case hp=>exact(Reps.none _ _))
            intro v53 wa_ ho hb hg_ hnew_
            clear hg_ hnew_
            have m0_:=Gx.mk (Kd.R_elder' (v:=v53) HO57.out (Kd.R_base ho) hb)
            clear HO57
            have HO57:=m0_
            clear m0_
            have HO53:=Gx.mk (Kd.R_lower ho BZ.out.size)
            have n0_:=Gx.mk (Jg BZ.out hb)
            clear BZ hb ho
            have BZ:=n0_
            clear n0_
            refine hK.out _ _ (Gy (G8 SZ.out.bW BZ.out) 0 |>.trans rfl) (fun hHeld=>?_)
            clear hK K
            refine norm_ (a':=?_) ?_ ?_
            rotate_left
            · show Act.put _ (some 53) _=_
              simp only[Act.put,List.setIfInBounds_toArray,List.set_cons_zero,List.set_cons_succ,i64_w,i32_w]
              rfl
            refine one_ (i:=3) (N:=some 55) #[true,true,true,true,true,true,false,false] rfl rfl (Jn HT_.out (by kernel_rfl)) (by decide) (fun K hK=>?_)
            refine Kd.R_append_rows_step (Kd.int .i64) (w0:=wz) wz.heap.size (by rfl) (.tmp 53) (.tmp 54) 22 3 (.int .i64 0) 8 rfl Try.underlying22 info3 rfl (by decide) (by omega) v53 [] p _ _ _ (fun _=>True) (fun _=>False) rfl rfl ?aO ?aR (fun _ _ h=>h) (fun _ h=>h.elim) ?aF ?aB ?aS ?aL ?_
            (case aR=>exact(Foot.now (Kd.F_below PZ.out BZ.out)))
            (case aB=>exact BZ.out)
            (case aF=>exact fun _ _=>trivial)
            (case aO=>exact HO53.out)
            (case aS=>exact BZ.out.size)
            (case aL=>(try simp only[List.length_nil,List.length_cons]);have:=HLP.out;omega)
            intro v55 wb_ ho hb hg hat
            rw[List.nil_append] at ho
            have m0_:=Gx.mk (Kd.R_after (ok:=fun _=>True) HO57.out hg hat)
            clear HO57
            have HO57:=m0_
            clear m0_
            have HO55:=Gx.mk ho
            clear BZ HO53
            have BZ:=Gx.mk hb
            clear ho hb hg hat
            refine hK.out _ _ (Gy (G8 SZ.out.bW BZ.out) 0 |>.trans rfl) (fun hHeld=>?_)
            clear hK K
            refine norm_ (a':=?_) ?_ ?_
            rotate_left
            · show Act.put _ (some 55) _=_
              simp only[Act.put,List.setIfInBounds_toArray,List.set_cons_zero,List.set_cons_succ,i64_w,i32_w]
              rfl
            exact norm_ (by simp only[putAll,Act.put,List.setIfInBounds_toArray,List.set_cons_zero,List.set_cons_succ]) (hCont (v53,v55,v57) _ ⟨hHeld,HO55.out,HO57.out,BZ.out⟩)
        rintro⟨v53,v55,v57⟩ w53 ⟨hHeld,h0_,h1_,h2_⟩
        clear BZ
        have HO55:=Gx.mk h0_
        have HO57:=Gx.mk h1_
        have BZ:=Gx.mk h2_
        clear h0_ h1_ h2_
        obtain⟨A57,c57,e57⟩:=Kd.R_slice HO57.out
        subst e57
        refine norm_ (a':=?_) ?_ ?_
        rotate_left
        · simp only[putAll,Act.put,List.setIfInBounds_toArray,List.set_cons_zero,List.set_cons_succ]
          rfl
        refine one_ (i:=6) (N:=some 58) #[true,true,true,true,true,true,true,false] rfl rfl (Jn HT_.out (by kernel_rfl)) (by decide) (fun K hK=>?_)
        refine Kd.R_append_rows_step (Kd.int .i64) (w0:=wz) wz.heap.size (by rfl) (.tmp 55) (.tmp 57) 22 3 (.int .i64 0) 8 rfl Try.underlying22 info3 rfl (by decide) (by omega) v55 p [(j:Int)] _ _ _ (fun _=>True) (fun _=>False) rfl rfl ?aO ?aR (fun _ _ h=>h) (fun _ h=>h.elim) ?aF ?aB ?aS ?aL ?_
        (case aR=>exact(Kd.R_reads' HO57.out).2.2)
        (case aB=>exact BZ.out)
        (case aF=>exact fun _ _=>trivial)
        (case aO=>exact HO55.out)
        (case aS=>exact BZ.out.size)
        (case aL=>(try simp only[List.length_nil,List.length_cons]);have:=HLP.out;omega)
        intro v58 wb_ ho hb hg hat
        have HO58:=Gx.mk ho
        clear HO57
        clear BZ HO55
        have BZ:=Gx.mk hb
        clear ho hb hg hat
        have SY:=Gx.mk (St.below SZ.out BZ.out)
        have KY:=Gx.mk (Kp.trans KZ.out (Kp.below BZ.out))
        refine hK.out _ _ (Gy (G8 SZ.out.bW BZ.out) 0 |>.trans rfl) (fun hHeld=>?_)
        clear hK K
        refine norm_ (a':=?_) ?_ ?_
        rotate_left
        · show Act.put _ (some 58) _=_
          simp only[Act.put,List.setIfInBounds_toArray,List.set_cons_zero,List.set_cons_succ,i64_w,i32_w]
          rfl
        obtain⟨A58,c58,e58⟩:=Kd.R_slice HO58.out
        subst e58
        have HP58:Gx (Pa gO wb_ v A58 (p ++ [(j:Int)])):=⟨Kd.F_mono (Kd.R_F (Kd.R_bound HO58.out)) (fun k hk=>⟨fun e=>by have h5:=hk.2.1;have h6:=blk_lt SZ.out.bO;omega,fun e=>by have h5:=hk.2.1;have h6:=Kd.N_lt SZ.out.hN k e.symm;omega⟩)⟩
        have hc58:=(Kd.R_reads' HO58.out).2.1
        refine one_ (i:=7) (N:=some 59) #[true,true,true,true,true,true,true,true] rfl rfl (Jn HT_.out (by kernel_rfl)) (by decide) (fun K hK=>?_)
        have he:=enters_ Try.func115 (by kernel_rfl) rfl #[.slice A58 (p ++ [(j:Int)]).length c58, .pointer (some ⟨gB,0,none⟩), .pointer (some ⟨gO,0,none⟩), .pointer (some ⟨gW,0,none⟩)] wb_
        refine call_ 115 #[.slice A58 (p ++ [(j:Int)]).length c58, .pointer (some ⟨gB,0,none⟩), .pointer (some ⟨gO,0,none⟩), .pointer (some ⟨gW,0,none⟩)] (by rfl) rfl ?hr ?_
        (case hr=>unfold execOp;simp[resolve,Deferred.ofValue,invoke,Act.eval,he])
        refine(walk hD sq h4 nBO nOB nWO nOW nBW nWB gO0 m (p ++ [(j:Int)]) ?s1 ?s2 ?s3 ?s4 A58 c58 wb_ v ys hc58 ?s5 SY.out HP58.out).mono ?_
        (case s1=>simp)
        (case s2=>exact fun x hx=>(List.mem_append.1 hx).elim (fun z=>hr x z) (fun z=>by have:=List.mem_singleton.1 z;have:=HSQ.out;omega))
        (case s3=>exact List.nodup_append.2 ⟨hnd,(by simp),fun a ha b hb e=>HIN.out (by rw[<- List.mem_singleton.1 hb, <- e];exact ha)⟩)
        (case s4=>rw[List.length_append,List.length_singleton];omega)
        (case s5=>have z:=HBd.out;rw[Nat.succ_mul] at z;omega)
        rintro e w9 ⟨rfl,v9,hs9,hk9⟩
        refine⟨_,rfl,?_⟩
        have HS9:=Gx.mk hs9
        have HK9:=Gx.mk (Kp.trans KY.out hk9)
        clear hs9 hk9
        refine hK.out _ _ ((Gy HS9.out.bW 0).trans rfl) (fun hHeld=>?_)
        clear hK K
        refine done_ (by kernel_rfl) ?_
        try go_wp2
        go_roundg k1
        case measure=>omega
        case rel=>exact⟨j + 1,v9,_,by omega,(by first|rw[HWJ.out]|go_num),⟨by(repeat(first|with_reducible refine St.drewN ?_ _|with_reducible refine St.drew ?_));exact HS9.out⟩,⟨by(repeat(first|with_reducible refine Kp.drewN ?_ _|with_reducible refine Kp.drew ?_));exact HK9.out⟩,⟨by have z:=HE.out;rw[rowI,HREC.out] at z;rw[List.append_assoc];exact z⟩,⟨by have z:=HBd.out;rw[Nat.succ_mul] at z;have y:=walk_len sq h4 m (p ++ [(j:Int)]);rw[List.length_append];omega⟩⟩
      · obtain rfl:j=row.length:=by omega
        have hk0:gk=0:=by omega
        subst hk0
        have c3b0:decide ((row.length:Int) < (row.length:Int))=false:=decide_eq_false (by omega)
        go_wp2
        go_end0
        exact⟨rfl,v,by have:=HE.out;rw[rowI,List.append_nil] at this;rw[<- this];(repeat(first|with_reducible refine St.drewN ?_ _|with_reducible refine St.drew ?_));exact SS.out,by(repeat(first|with_reducible refine Kp.drewN ?_ _|with_reducible refine Kp.drew ?_));exact KK.out⟩
def foundI (d:List (List Int)):Nat->Nat->List (List Int)
  | 0,_=>[]
  | e + 1,i=>walkI d d.length [(i:Int)] ++ foundI d e (i + 1)
theorem lit1 {gO:Nat} {vo:Value} (w:World) (i:Int) (h1:gO < w.heap.size) (h2:∀k,vo.ownBlock=some k->k < w.heap.size):Pa gO (w.alloc (.cells #[.int .i64 i] 3)) vo (some ⟨w.heap.size,0,none⟩) [i]:=by
  have hR:Kd.R (Kd.int .i64) 3 (w.alloc (.cells #[.int .i64 i] 3)) w.heap.size (fun _=>True) (.slice (some ⟨w.heap.size,0,none⟩) 1 1) [i]:=by
    refine⟨fun _ _=>trivial,[.int .i64 i],World.ownsRow_lit w #[.int .i64 i] 1 (Nat.le_refl _) (by decide) rfl,Reps.one (show Kd.M (Kd.int .i64) _ _ _ i [.int .i64 i] from rfl) (Reps.none _ _)⟩
  exact Kd.F_mono (Kd.R_F (Kd.R_bound hR)) (fun k hk=>⟨fun e=>by have:=hk.2.1;omega,fun e=>by have:=hk.2.1;have:=h2 k e.symm;omega⟩)
theorem size_alloc_ (w:World) (o:Obj):(w.alloc o).heap.size=w.heap.size + 1:=by rw[show(w.alloc o).heap=w.heap.push o from rfl,Array.size_push]
def at4 (w:World) (C1 C2 C3 C4:Array Value):World:=(((w.alloc (.cells C1 25)).alloc (.cells C2 22)).alloc (.cells C3 23)).alloc (.cells C4 115)
theorem at4_1 (w:World) (C1 C2 C3 C4:Array Value):(at4 w C1 C2 C3 C4).heap[w.heap.size]? = some (.cells C1 25 (0,0)):=G4 (G4 (G4 (blk_new w _) _) _) _
theorem at4_3 (w:World) (C1 C2 C3 C4:Array Value):(at4 w C1 C2 C3 C4).heap[w.heap.size + 1 + 1]? = some (.cells C3 23 (0,0)):=by
  have:=blk_new ((w.alloc (.cells C1 25)).alloc (.cells C2 22)) (.cells C3 23)
  rw[size_alloc_,size_alloc_] at this
  exact G4 this _
theorem at4_4 (w:World) (C1 C2 C3 C4:Array Value):(at4 w C1 C2 C3 C4).heap[w.heap.size + 1 + 1 + 1]? = some (.cells C4 115 (0,0)):=by
  have:=blk_new (((w.alloc (.cells C1 25)).alloc (.cells C2 22)).alloc (.cells C3 23)) (.cells C4 115)
  rw[size_alloc_,size_alloc_,size_alloc_] at this
  exact this
theorem st_init (w:World) (AC:Option Addr) (nC cC:Nat) (AD:Option Addr) (nD cD:Nat) :
    St w w.heap.size (w.heap.size + 1 + 1) (w.heap.size + 1 + 1 + 1) AC nC cC AD nD cD (.slice (some ⟨w.heap.size + 1,0,none⟩) 0 0) []
      ((at4 w #[.slice AC nC cC, .slice AD nD cD] #[] #[.slice (some ⟨w.heap.size + 1,0,none⟩) 0 0] #[.nilFunc]).setCell ⟨w.heap.size + 1 + 1 + 1,0,none⟩
        (.func (.func 115) #[] #[.pointer (some ⟨w.heap.size,0,none⟩), .pointer (some ⟨w.heap.size + 1 + 1,0,none⟩), .pointer (some ⟨w.heap.size + 1 + 1 + 1,0,none⟩)])):=by
  have hR:Kd.N (Kd.slice 3 (Kd.int .i64)) 22 ((w.alloc (.cells #[.slice AC nC cC, .slice AD nD cD] 25)).alloc (.cells #[] 22)) w.heap.size (fun k=>w.heap.size<=k/\k≠w.heap.size + 1 + 1) (.slice (some ⟨w.heap.size + 1,0,none⟩) 0 0) []:=by
    refine⟨fun k hk=>?_,[],rfl,⟨fun k hk=>hk.symm,[],?_,Reps.none _ _⟩,fun j x c hx _=>by simp at hx⟩
    · have:w.heap.size + 1=k:=by simpa [Value.ownBlock] using hk
      omega
    · have:=World.ownsRow_lit (base:=w.heap.size) (e:=22) (size:=(Kd.raw (Kd.slice 3 (Kd.int .i64)).sz).sz) (w.alloc (.cells #[.slice AC nC cC, .slice AD nD cD] 25)) #[] 0 (by rw[size_alloc_];omega) (by decide) (by simp)
      rw[size_alloc_] at this
      exact this
  refine⟨?_,Je (at4_1 _ _ _ _ _) (by show w.heap.size≠w.heap.size + 1 + 1 + 1;omega) _,Je (at4_3 _ _ _ _ _) (by show w.heap.size + 1 + 1≠w.heap.size + 1 + 1 + 1;omega) _,Jf (at4_4 _ _ _ _ _) 0 _ rfl,?_⟩
  · unfold at4;exact G0 (G3 (G3 (G3 (G3 (Below.refl _ _) _) _) _) _) (by omega)
  · refine Kd.N_below hR (G0 (G3 (G3 (Below.refl _ _) _) _) ?_)
    rw[size_alloc_,size_alloc_];omega
end Circ
open Circ
def Gq.f (_:Nat) (c:List Int) (d:List (List Int)):Option (List (List Int)):=
  if c.length=d.length/\d.length<=4/\(∀i,i < d.length->(d.getD i []).length=d.length)/\(foundI d d.length 0).length<=20 then some (srtL ((foundI d d.length 0).length - 1) 1 (foundI d d.length 0)) else none
set_option maxHeartbeats 8000000 in
set_option maxRecDepth 100000 in
theorem Gq.calls (k:Nat) (A0_0:Option Addr) (c0_0:Nat) (l0_0:List Int) (A0_1:Option Addr) (c0_1:Nat) (l0_1:List (List Int)) (r:List (List Int)) (w:World) (hr0_0:Kd.C (Kd.int .i64) w A0_0 l0_0.length l0_0) (hc0_0:l0_0.length<=c0_0) (hr0_1:Kd.C (Kd.slice 3 (Kd.int .i64)) w A0_1 l0_1.length l0_1) (hc0_1:l0_1.length<=c0_1) (h:Gq.f k l0_0 l0_1=some r) :
    Calls Try.prog 96 #[.agg #[.slice A0_0 l0_0.length c0_0, .slice A0_1 l0_1.length c0_1]] w fun e w'=>∃v0_:Value,e = .returned (v0_)/\Kd.N (Kd.slice 3 (Kd.int .i64)) 22 w' w.heap.size (fun k_=>(w.heap.size<=k_)) v0_ r/\Below w.heap.size w w':=by
  have hu:=Try.underlying25
  unfold Gq.f at h
  split at h
  case isFalse=>cases h
  case isTrue hh=>
  obtain⟨hcd,h4,sq,h20⟩:=hh
  have HR:=Gx.mk (Option.some.inj h)
  have HCD:=Gx.mk hcd
  clear hcd
  clear h
  have H20:=Gx.mk h20
  clear h20
  have HD:=Gx.mk hr0_1
  have HSQ:=Gx.mk sq
  clear hr0_1 sq
  have z1:w.heap.size≠w.heap.size + 1 + 1:=by omega
  have z2:w.heap.size + 1 + 1≠w.heap.size:=by omega
  have z3:w.heap.size + 1 + 1 + 1≠w.heap.size + 1 + 1:=by omega
  have z4:w.heap.size + 1 + 1≠w.heap.size + 1 + 1 + 1:=by omega
  have z5:w.heap.size≠w.heap.size + 1 + 1 + 1:=by omega
  have z6:w.heap.size + 1 + 1 + 1≠w.heap.size:=by omega
  have z7:w.heap.size<=w.heap.size + 1 + 1:=by omega
  have hst:=at4_4 w #[.slice A0_0 l0_0.length c0_0, .slice A0_1 l0_1.length c0_1] #[] #[.slice (some ⟨w.heap.size + 1,0,none⟩) 0 0] #[.nilFunc]
  have hs0:(at4 w #[.slice A0_0 l0_0.length c0_0, .slice A0_1 l0_1.length c0_1] #[] #[.slice (some ⟨w.heap.size + 1,0,none⟩) 0 0] #[.nilFunc]).cell? ⟨w.heap.size + 1 + 1 + 1,0,none⟩=some .nilFunc:=(Gy hst 0).trans rfl
  have hf0:=G7 hst 0
  unfold at4 at hs0 hf0
  clear hst
  go_enter Try.func96,Try.ntmps96
  have S0:=Gx.mk (st_init w A0_0 l0_0.length c0_0 A0_1 l0_1.length c0_1)
  unfold at4 at S0
  generalize hW4:((((w.alloc (.cells #[.slice A0_0 l0_0.length c0_0, .slice A0_1 l0_1.length c0_1] 25)).alloc (.cells #[] 22)).alloc (.cells #[.slice (some ⟨w.heap.size + 1,0,none⟩) 0 0] 23)).alloc (.cells #[.nilFunc] 115))=w4 at hs0 hf0 S0
  go_wp2_with ((with_reducible refine gate_store (t:=115) (p:=4) rfl ?_);refine store_event (t:=115) (p:=4) (v:=?vo) (w1:=w4.setCell ⟨w.heap.size + 1 + 1 + 1,0,none⟩
        (.func (.func 115) #[] #[.pointer (some ⟨w.heap.size,0,none⟩), .pointer (some ⟨w.heap.size + 1 + 1,0,none⟩), .pointer (some ⟨w.heap.size + 1 + 1 + 1,0,none⟩)])) ?hg ?ho ?hn ?hr ?_;(case ho=>rfl);(case hg=>rfl);(case hn=>rfl);(case hr=>go_simp;rw[run_store _ _ _ _ _ rfl];simp only[stored,hs0,hf0];rfl);intro w5 hw;rw[<- hw] at S0;have SS:=S0;clear S0 hs0 hf0 hW4 hw;have hz0:w5.cell? ⟨w.heap.size,0,none⟩=some (.slice A0_0 l0_0.length c0_0):=(Gy SS.out.bB 0).trans rfl)
  have h625:l0_1.length * 5 ^ l0_1.length<=4 * 625:=Nat.mul_le_mul h4 (Nat.pow_le_pow_right (by omega) h4)
  generalize hF:foundI l0_1 l0_1.length 0=F at HR H20
  have HF:=Gx.mk hF
  clear hF
  obtain⟨n,hn⟩:∃n,n=l0_1.length:=⟨_,rfl⟩
  have HN:=Gx.mk hn
  have H4:=Gx.mk h4
  clear hn h4
  have H625:=Gx.mk h625
  clear h625
  have HHR:=Gx.mk hr0_0
  clear hr0_0
  go_loopg [11] (l0_0.length) (fun kq v11 w'=>∃(j:Nat) (v:Value) (ys:List (List Int)),kq + j=l0_0.length/\v11 = .int .i64 j/\Gx (St w w.heap.size (w.heap.size + 1 + 1) (w.heap.size + 1 + 1 + 1) A0_0 l0_0.length c0_0 A0_1 l0_1.length c0_1 v ys w')/\Gx (ys ++ foundI l0_1 kq j=F)/\Gx (ys.length + kq * 5 ^ l0_1.length<=1000000))
  case atStart=>exact⟨0,_,[],by omega,rfl,⟨by(repeat(first|with_reducible refine St.drewN ?_ _|with_reducible refine St.drew ?_));exact SS.out⟩,⟨by rw[<- HF.out,List.nil_append,HCD.out]⟩,⟨by have:=H625.out;rw[HCD.out,List.length_nil];omega⟩⟩
  case round=>
    clear SS
    obtain⟨j,v,ys,hj,rfl,SS,HE,HBd⟩:=hrel
    by_cases hlt:j < l0_0.length
    · obtain⟨k1,rfl⟩:∃k1,gk=k1 + 1:=⟨gk - 1,by omega⟩
      have HWJ:Gx (wrap64 ((j:Int) + 1)=((j + 1:Nat):Int)):=⟨by have:=H4.out;have:=HCD.out;unfold wrap64;omega⟩
      have hzW:wr.cell? ⟨w.heap.size + 1 + 1 + 1,0,none⟩=some (.func (.func 115) #[] #[.pointer (some ⟨w.heap.size,0,none⟩), .pointer (some ⟨w.heap.size + 1 + 1,0,none⟩), .pointer (some ⟨w.heap.size + 1 + 1 + 1,0,none⟩)]):=(Gy SS.out.bW 0).trans rfl
      have c3b0:decide ((j:Int) < (l0_0.length:Int))=true:=decide_eq_true (by omega)
      go_wp2_with (go_at_call 115;refine(walk HD.out HSQ.out H4.out z1 z2 z3 z4 z5 z6 z7 l0_1.length [(j:Int)] (by simp) ?s2 (by simp) (by simp) _ 1 _ v ys (Nat.le_refl _) ?s5 (SS.out.below (G3 (Below.refl _ _) _)) (lit1 wr (j:Int) (blk_lt SS.out.bO) (Kd.N_lt SS.out.hN))).mono ?_;(case s2=>exact fun x hx=>by have:=List.mem_singleton.1 hx;have:=HCD.out;omega);(case s5=>have z:=HBd.out;rw[Nat.succ_mul] at z;omega);rintro e w9 ⟨rfl,v9,hs9,_⟩;have HS9:=Gx.mk hs9;clear hs9)
      go_roundg k1
      case measure=>omega
      case rel=>exact⟨j + 1,v9,_,by omega,(by first|rw[HWJ.out]|go_num),⟨by(repeat(first|with_reducible refine St.drewN ?_ _|with_reducible refine St.drew ?_));exact HS9.out⟩,⟨by have z:=HE.out;rw[foundI] at z;rw[List.append_assoc];exact z⟩,⟨by have z:=HBd.out;rw[Nat.succ_mul] at z;have y:=walk_len HSQ.out H4.out l0_1.length [(j:Int)];rw[List.length_append];omega⟩⟩
    · obtain rfl:j=l0_0.length:=by omega
      have hk0:gk=0:=by omega
      subst hk0
      have c3b0:decide ((l0_0.length:Int) < (l0_0.length:Int))=false:=decide_eq_false (by omega)
      have HYF:Gx (ys=F):=⟨by have:=HE.out;rw[foundI,List.append_nil] at this;exact this⟩
      have hzO:wr.cell? ⟨w.heap.size + 1 + 1,0,none⟩=some v:=(Gy SS.out.bO 0).trans rfl
      by_cases hys:ys=[]
      · subst hys
        obtain⟨AV,cV,eV⟩:=Kd.N_slice SS.out.hN
        have HEV:=Gx.mk eV
        clear eV
        go_wp2_with (go_at_call 117;rw[HEV.out];refine(sort117_0 AV cV _).mono ?_;rintro e w9 ⟨rfl,⟨nd,rfl⟩⟩)
        go_ret
        refine⟨_,rfl,?_,?_⟩
        · rw[<- HR.out, <- HYF.out]
          exact Kd.N_mono (ok:=fun k=>w.heap.size<=k/\k≠w.heap.size + 1 + 1) (by(repeat(first|with_reducible refine Kd.N_drewN ?_ _|with_reducible refine Kd.N_drew ?_));exact SS.out.hN) (fun _ hk=>hk.1)
        · repeat(first|(with_reducible first|exact SS.out.hB|apply G3|apply G2|apply G1)|exact SS.out.hB)
      · have hlen:0 < ys.length:=List.length_pos_iff.2 hys
        obtain⟨g,cap,eV,hg,hgl,_⟩:=Kd.N_form SS.out.hN hlen
        have HEV:=Gx.mk eV
        have HN9:=Gx.mk (show Kd.N (Kd.slice 3 (Kd.int .i64)) 22 wr w.heap.size (fun k=>w.heap.size<=k/\k≠w.heap.size + 1 + 1) (.slice (some ⟨g,0,none⟩) ys.length cap) ys from eV ▸ SS.out.hN)
        have hgO:g≠w.heap.size + 1 + 1:=(SS.out.hN.1 g (by rw[eV];simp[Value.ownBlock])).2
        have HGO:=Gx.mk hgO
        have HG:=Gx.mk hg
        have h20:ys.length<=20:=by rw[HYF.out];exact H20.out
        clear eV hgO hg hgl hys hlen
        go_wp2_with (go_at_call 117;rw[HEV.out];refine(sort117 (show Kd.N (Kd.slice 3 (Kd.int .i64)) 22 _ w.heap.size (fun k=>w.heap.size<=k/\k≠w.heap.size + 1 + 1) (.slice (some ⟨g,0,none⟩) ys.length cap) ys by(repeat(first|with_reducible refine Kd.N_drewN ?_ _|with_reducible refine Kd.N_drew ?_));exact HN9.out) h20).mono ?_;rintro e w9 ⟨rfl,hs9⟩;have HS9:=Gx.mk hs9;clear hs9;have hzO9:w9.cell? ⟨w.heap.size + 1 + 1,0,none⟩=some v:=(Gy ((HS9.out.2.1.2 _ (blk_lt SS.out.bO) (fun e=>HGO.out e.symm)).trans SS.out.bO) 0).trans rfl)
        go_ret
        refine⟨_,rfl,?_,?_⟩
        · rw[<- HR.out, <- HYF.out,HEV.out]
          exact Kd.N_mono (ok:=fun k=>w.heap.size<=k/\k≠w.heap.size + 1 + 1) (by(repeat(first|with_reducible refine Kd.N_drewN ?_ _|with_reducible refine Kd.N_drew ?_));exact HS9.out.1) (fun _ hk=>hk.1)
        · have hBB:Below w.heap.size w w9:=⟨HS9.out.2.2.1.trans SS.out.hB.os,HS9.out.2.2.2.1.trans SS.out.hB.tape,HS9.out.2.2.2.2.trans SS.out.hB.output,Nat.le_trans SS.out.hB.size HS9.out.2.1.1,fun i hi=>(HS9.out.2.1.2 i (Nat.lt_of_lt_of_le hi SS.out.hB.size) (fun e=>by have:=HG.out;omega)).trans (SS.out.hB.block i hi)⟩
          repeat(first|(with_reducible first|exact hBB|apply G3|apply G2|apply G1)|exact hBB)
end
end Go.Proofs.Ytfooakkhkehpiaa.PU
namespace Go.Proofs.Ytfooakkhkehpiaa.PU
open Go.RowKit Go.Proofs.YtfooakkhkehpiaaW.PrintWords Go.Proofs.YtfooakkhkehpiaaW.PrintLast Go.Proofs.YtfooakkhkehpiaaW.PrintMore Go.Proofs.Ytfooakkhkehpiaa.Qd
attribute [local go_sem] max2_int min2_int max_two min_two max_three min_three max_four min_four
set_option linter.unusedVariables false
set_option linter.unusedSimpArgs false
mutual
def Fj.l0:Nat->List Int->Int->List Int->Int->Int->List Int->List (List Int)->List Int->List (List Int)->Option (List Int × (List (List Int)))
 | 0,_,_,_,_,_,_,_,_,_=>none
 | k + 1,x1,x6,nh,x14,x15,kx0,ew1,dx1,bt9=>if x15 < x14 then(if 0<=x15 then(if x15 < (nh.length:Int) then(if 0<=(rd nh x15) then(if (rd nh x15) < (ew1.length:Int) then(if (x1.length:Int)=0 then(none) else(if 0<=(Int.tmod (wrap64 (x15 + 1)) (x1.length:Int)) then(if (Int.tmod (wrap64 (x15 + 1)) (x1.length:Int)) < (x1.length:Int) then(if 0<=(rd x1 (Int.tmod (wrap64 (x15 + 1)) (x1.length:Int))) then(if (rd x1 (Int.tmod (wrap64 (x15 + 1)) (x1.length:Int))) < ((Jb ew1 (rd nh x15)).length:Int) then(Fj.l0 k x1 (mn x6 (rd (Jb ew1 (rd nh x15)) (rd x1 (Int.tmod (wrap64 (x15 + 1)) (x1.length:Int))))) nh x14 (wrap64 (x15 + 1)) kx0 ew1 dx1 bt9) else(none)) else(none)) else(none)) else(none))) else(none)) else(none)) else(none)) else(none)) else(Fj.l1 k x1 x6 x1 (x1.length:Int) 0 dx1 bt9)
def Fj.l1:Nat->List Int->Int->List Int->Int->Int->List Int->List (List Int)->Option (List Int × (List (List Int)))
 | 0,_,_,_,_,_,_,_=>none
 | k + 1,x1,x6,x38,x39,x40,dx1,bt9=>if x40 < x39 then(if 0<=x40 then(if x40 < (x38.length:Int) then(if 0<=(rd x38 x40) then(if (rd x38 x40) < (bt9.length:Int) then(if (x1.length:Int)=0 then(none) else(if 0<=(Int.tmod (wrap64 (x40 + 1)) (x1.length:Int)) then(if (Int.tmod (wrap64 (x40 + 1)) (x1.length:Int)) < (x1.length:Int) then(if 0<=(rd x1 (Int.tmod (wrap64 (x40 + 1)) (x1.length:Int))) then(if (rd x1 (Int.tmod (wrap64 (x40 + 1)) (x1.length:Int))) < ((Jb bt9 (rd x38 x40)).length:Int) then(Fj.l1 k x1 x6 x38 x39 (wrap64 (x40 + 1)) dx1 (bt9.set ((rd x38 x40):Int).toNat ((Jb bt9 (rd x38 x40)).set ((rd x1 (Int.tmod (wrap64 (x40 + 1)) (x1.length:Int))):Int).toNat (wrap64 ((rd (Jb bt9 (rd x38 x40)) (rd x1 (Int.tmod (wrap64 (x40 + 1)) (x1.length:Int)))) - x6))))) else(none)) else(none)) else(none)) else(none))) else(none)) else(none)) else(none)) else(none)) else(some (dx1,bt9))
end
def Fj.f (k:Nat) (ab:List Int) (aa:List (List Int)) (l1:List Int):Option (List Int × (List (List Int))):=(Fo.f k ab aa).bind fun bt430=>(Fj.l0 k l1 9 l1 (l1.length:Int) 0 ab aa bt430.1 bt430.2)
def Fj.T6:Bool × List (List Nat × List Nat):=(true,[([],[]),([],[]),([1],[1]),([],[]),([2,3],[2,3]),([4],[4]),([],[]),([],[]),([7],[7]),([],[]),([9],[9]),([8,10],[8,10]),([6,11],[6,11]),([12],[12]),([5,13],[5,13]),([14],[14]),([0,15],[0,15]),([16,0,1,2,3,4,5,6,7,8,9,10,11,12,13,14,15,16],[0,16])])
def Fj.B6:List Nat:=[0,0,2,0,14,30,0,0,128,0,512,1920,4032,8128,16382,32766,65535,131071]
theorem Fj.tab6:rtab .any (opsOf Try.f97 6)=Fj.T6:=by kernel_rfl
theorem Fj.bits6:waitsOk Fj.T6.2 Fj.B6=true:=by kernel_rfl
def Fj.T11:Bool × List (List Nat × List Nat):=(true,[([],[]),([0],[0]),([],[]),([1,2],[1,2]),([3],[3]),([],[]),([],[]),([6],[6]),([],[]),([8],[8]),([7,9],[7,9]),([5,10],[5,10]),([11],[11]),([4,12],[4,12]),([13],[13]),([],[]),([14,15],[14,15]),([4,12,0,1,2,3,4,5,6,7,8,9,10,11,12,13,14,15,16],[4,12]),([17,16,0,1,2,3,4,5,6,7,8,9,10,11,12,13,14,15,16],[16,17])])
def Fj.B11:List Nat:=[0,1,0,7,15,0,0,64,0,256,960,2016,4064,8191,16383,0,65535,131071,262143]
theorem Fj.tab11:rtab .any (opsOf Try.f97 11)=Fj.T11:=by kernel_rfl
theorem Fj.bits11:waitsOk Fj.T11.2 Fj.B11=true:=by kernel_rfl
theorem ba0 {p:Prop} (h:p:=by repeat(first|(with_reducible first|exact HB.out|apply G3|apply G2|apply G1|refine G0 ?_ kx1.out|refine G0 ?_ kx2.out|refine G0 ?_ kx3.out|refine G0 ?_ GB39.out)|exact HB.out)):p:=h
set_option maxHeartbeats 8000000 in
set_option maxRecDepth 100000 in
theorem Fj.calls (k:Nat) (ah:Option Addr) (af:Nat) (ab:List Int) (ao:Option Addr) (ai:Nat) (aa:List (List Int)) (A1:Option Addr) (c1:Nat) (l1:List Int) (r1:List Int) (r2:List (List Int)) (w:World) (d4:Kd.C (Kd.int .i64) w ah ab.length ab) (d9:ab.length<=af) (d5:Kd.C (Kd.slice 3 (Kd.int .i64)) w ao aa.length aa) (ea:aa.length<=ai) (k0:Kd.C (Kd.int .i64) w A1 l1.length l1) (lh:l1.length<=c1) (h:Fj.f k ab aa l1=some (r1,r2)) :
  Calls Try.prog 97 #[.agg #[.slice ah ab.length af, .slice ao aa.length ai], .slice A1 l1.length c1] w fun e w'=>∃v0_ v1_:Value,e = .returned (.agg #[v0_,v1_])/\Kd.R (Kd.int .i64) 3 w' w.heap.size (fun _=>True) v0_ r1/\Kd.S (Kd.slice 3 (Kd.int .i64)) 22 w' w.heap.size (fun k_=>some k_≠(v0_:Value).ownBlock) v1_ r2/\Below w.heap.size w w':=by
 have hu25:=Try.underlying25
 have dp:=A_ d4
 have ec:=A_ d9
 clear d4 d9
 have df:=A_ d5
 have ee:=A_ ea
 clear d5 ea
 have i8:=A_ k0
 have HC1:=A_ lh
 clear k0 lh
 have HB:=A_ (Below.refl w.heap.size w)
 have H:=h
 unfold Fj.f at H
 clear h
 replace H:=Option.bind_eq_some_iff.mp H
 obtain⟨⟨as2,bf5⟩,nu,H⟩:=H
 try dsimp only at H
 have A3:=A_ nu
 clear nu
 have H':=A_ H
 clear H
 go_enter Try.func97,Try.ntmps97
 go_wp2_with (first|((with_reducible refine gd_ 2 ?_);refine bx_ (N:=2) #[.slice ah ab.length af, .slice ao aa.length ai] 25 ?_;intro am7 hg w4 hbox hb;have rt:=A_ (hbox);have ni5:=A_ ((g112_:w.heap.size<=am7));have kx1:=ni5;replace HB:=hs_ (ba0) hb;clear hb hbox hg)|((with_reducible refine gd_ 4 ?_);refine bx_ (N:=4) #[.slice none 0 0, .slice none 0 0] 25 ?_;intro ai0 hg w5 hbox hb;have tt:=A_ (hbox);have ni6:=A_ ((g112_:w.heap.size<=ai0));have kx2:=ni6;replace HB:=hs_ (ba0) hb;have ig2:=nl_ rt hg;have ig3:=nr_ rt hg;replace rt:=bb_ rt hb;clear hb hbox hg;have gt4:=ig2.out;have gt5:=ig3.out;obtain⟨ad2,ad3,ad4,ad5⟩:=blk2_ rt)|((with_reducible refine gc_ 111 ?_);refine gl_ 12 Try.func111 #[.agg #[.slice ah ab.length af, .slice ao aa.length ai]] ?_;(refine(Fo.calls k _ _ ab _ _ aa as2 bf5 _ (uC_ dp) ec.out (uC_ df) ee.out A3.out).mono ?_);rintro e w8 ⟨ni7,ni8,rfl,ae,ax,hb⟩;refine⟨_,rfl,?_⟩;have ew2:=A_ (Kd.R_lower ae (Gz (ba0)));have ew3:=A_ (Kd.S_lower ax (Gz (ba0)));replace rt:=bb_ rt hb;replace tt:=bb_ tt hb;replace HB:=hs_ (ba0) hb)|((with_reducible refine gd_ 5 ?_);refine bx_ (N:=5) #[.slice none 0 0, .slice none 0 0] 25 ?_;intro am8 hg w9 hbox hb;replace ew2:=rb_ ew2 hb;replace ew3:=sb_ ew3 hb;have yj:=A_ (hbox);have ni9:=A_ ((g112_:w.heap.size<=am8));have kx3:=ni9;replace HB:=hs_ (ba0) hb;have ew4:=nl_ rt hg;have ig4:=nr_ rt hg;replace rt:=bb_ rt hb;have ew5:=nl_ tt hg;have ig5:=nr_ tt hg;replace tt:=bb_ tt hb;clear hb hbox hg;obtain⟨ja,jb,ci7⟩:=Kd.R_slice ew2.out;subst ci7;have aq2:=ig4.out;have aq3:=ew4.out;have ci9:=ig5.out;have cj0:=ew5.out;obtain⟨zy,zz,z8,z9⟩:=blk2_ yj;obtain⟨pq,ml,cl8⟩:=Kd.S_slice ew3.out;subst cl8))
 go_loopg [6,15] k (fun kq v6 v15 w'=>∃(kb:Int) (tu:Int),v6 = .int .i64 kb/\v15 = .int .i64 tu/\Gx (Fj.l0 kq l1 kb l1 (l1.length:Int) tu ab aa as2 bf5=some (r1,r2))/\Gx (kq<=k)/\Gx (Kd.R (Kd.int .i64) 3 w' w.heap.size (fun _=>True) (.slice ja as2.length jb) as2)/\Gx (Kd.S (Kd.slice 3 (Kd.int .i64)) 22 w' w.heap.size (fun k_=>some k_≠((.slice ja as2.length jb):Value).ownBlock) (.slice pq bf5.length ml) bf5)/\Gx (hc_ w' am7 #[(.slice ah ab.length af),(.slice ao aa.length ai)] 25)/\Gx (hc_ w' ai0 #[(.slice none 0 0),(.slice none 0 0)] 25)/\Gx (hc_ w' am8 #[(.slice ja as2.length jb),(.slice pq bf5.length ml)] 25)/\Gx (Below w.heap.size w w'))
 case atStart=>exact⟨(9),(0),(g3_),(g3_),H',⟨Nat.le_refl _⟩,⟨ra_ ew2⟩,⟨sa_ ew3⟩,⟨ba_ rt⟩,⟨ba_ tt⟩,⟨ba_ yj⟩,⟨ba0⟩⟩
 clear H'
 obtain⟨kb,tu,rfl,rfl,HA,HK1,ay3,zf,rt,tt,yj,HB⟩:=hrel
 cases gk with
 | zero=>exact absurd HA.out (by simp[Fj.l0])
 | succ k1=>?_
 have H:=HA.out
 clear HA
 simp only[Fj.l0] at H
 by_cases e7:tu < (l1.length:Int)
 ·rw[if_pos e7] at H
  have qv:=decide_eq_true e7
  clear e7
  obtain⟨ag0,H⟩:=pd_ H
  obtain⟨ad6,H⟩:=pd_ H
  obtain⟨bc9,H⟩:=pd_ H
  obtain⟨ve,H⟩:=pd_ H
  by_cases mv:(l1.length:Int)=0
  ·rw[if_pos mv] at H
   exact absurd H (by simp)
  rw[if_neg mv] at H
  have bx5:((l1.length:Int) == 0)=false:=beq_eq_false_iff_ne.mpr mv
  have ig6:((l1.length:Int) != 0)=true:=bne_iff_ne.mpr mv
  have kx4:¬ (l1=[]):=fun h_=>mv (g86_)
  obtain⟨ji21,hji21⟩:∃j_:Int,(Int.tmod (wrap64 (tu + 1)) (l1.length:Int))=j_:=⟨_,rfl⟩
  first|rw[hji21] at H|simp only[hji21] at H
  obtain⟨bc0,H⟩:=pd_ H
  obtain⟨bn7,H⟩:=pd_ H
  obtain⟨ad9,H⟩:=pd_ H
  obtain⟨bh8,H⟩:=pd_ H
  obtain⟨ji26,hji26⟩:∃j_:Int,(mn kb (rd (Jb aa (rd l1 tu)) (rd l1 (ji21))))=j_:=⟨_,rfl⟩
  first|rw[hji26] at H|simp only[hji26] at H
  have hji26_:(if (rd (Jb aa (rd l1 tu)) (rd l1 (ji21))) < kb then(rd (Jb aa (rd l1 tu)) (rd l1 (ji21))) else kb)=ji26:=hji26
  have H':=A_ H
  clear H
  obtain⟨⟨ig7,kx5,gf1⟩,ew6,ew7⟩:=rdp_ (Kd.at_int i8.out tu)
  cases kx5
  replace gf1:=cl_ HB gf1
  try go_wp2
  replace ay3:=rd_ ay3
  replace zf:=sd_ zf
  replace rt:=bd_ rt
  replace tt:=bd_ tt
  replace yj:=bd_ yj
  replace HB:=A_ (G1 HB.out)
  obtain⟨⟨ig8,nj0,kx6,kx7,dx2,ig9,ih5⟩,ew8,ew9⟩:=rdp_ (at_L1 df.out (rd l1 tu))
  have kx8:=dx2
  cases kx7
  replace dx2:=cl_ HB dx2
  have ih6:=A_ ih5
  have nj1:=A_ ig9
  clear ih5 ig9
  obtain⟨⟨kx9,ky0,dx3⟩,ex0,ex1⟩:=rdp_ (Kd.at_int i8.out (ji21))
  have ky1:=dx3
  obtain rfl:ig7=kx9:=(by injection ky0)
  replace dx3:=cl_ HB dx3
  obtain⟨⟨ih7,ky2,dx4⟩,ex2,ex3⟩:=rdp_ (Kd.at_int ih6.out (rd l1 (ji21)))
  have ky3:=dx4
  cases ky2
  replace dx4:=cl_ HB dx4
  refine start_ (n:=18) (S:=fun w'=>w'.cell? ⟨am7,0,none⟩=some (.slice ah ab.length af)/\w'.cell? ⟨am7,1,none⟩=some (.slice (some ig8) aa.length ai)/\w'.cell? (ig8.add ((rd l1 tu)).toNat)=some (.slice (some ih7) (Jb aa (rd l1 tu)).length kx6)/\w'.cell? (ig7.add ((ji21)).toNat)=some (.int .i64 (rd l1 (ji21)))/\w'.cell? (ih7.add ((rd l1 (ji21))).toNat)=some (.int .i64 (rd (Jb aa (rd l1 tu)) (rd l1 (ji21))))) (ds:=[]) (tl_ 18 0) (g0_) rfl (g0_) ⟨(Gy rt.out 0).trans rfl,(Gy rt.out 1).trans rfl,((cl_ HB kx8).trans rfl),((cl_ HB ky1).trans rfl),((cl_ HB ky3).trans rfl)⟩ (fun hHeld=>?_);refine Jl Fj.tab6 Fj.bits6 (fun HT_ HW_=>?_)
  generalize wr.drew=w27 at ay3 zf rt tt yj HB ih6 dx2 dx3 dx4 hHeld |-
  refine pw_ 0 20 (tl_ 18 1) ?_
  refine pw_ 1 21 (tl_ 18 3) ?_
  refine pw_ 3 23 (tl_ 18 11) ?_
  refine pw_ 6 26 (tl_ 18 75) ?_
  refine pw_ 7 27 (tl_ 18 203) ?_
  refine pw_ 8 28 (tl_ 18 459) ?_
  refine pw_ 9 29 (tl_ 18 971) ?_
  refine pw_ 10 30 (tl_ 18 1995) ?_
  refine pw_ 11 31 (tl_ 18 4043) ?_
  refine pw_ 12 32 (tl_ 18 8139) ?_
  refine tk5_ 2 22 (tl_ 18 8143) hHeld ?_
  refine pw_ 4 24 (tl_ 18 8159) ?_
  refine tk5_ 5 25 (tl_ 18 8191) hHeld ?_
  refine tk5_ 13 33 (tl_ 18 16383) hHeld ?_
  refine pw_ 14 34 (tl_ 18 32767) ?_
  refine tk5_ 15 35 (tl_ 18 65535) hHeld ?_
  refine pw_ 16 36 (tl_ 18 131071) ?_
  refine pw_ 17 6 (tl_ 18 262143) ?_
  refine done_ (done_of HT_.out (g0_)) ?_
  try go_wp2
  go_roundg k1
  case measure=>have:=HK1.out;omega
  case rel=>exact⟨(ji26),(wrap64 (tu + 1)),(by first|rfl|(simp;done)|(simp only[<- hji26] <;> (first|rfl|simp))|(simp[*];done)),(g3_),H',⟨g17_⟩,⟨uR_ ay3⟩,⟨uS_ zf⟩,⟨uB_ rt⟩,⟨uB_ tt⟩,⟨uB_ yj⟩,⟨ba0⟩⟩
 rw[if_neg e7] at H
 have qv:=decide_eq_false e7
 clear e7
 have H':=A_ H
 clear H
 go_wp2
 go_loopg [40] k1 (fun kq v40 w'=>∃(m4:Int) (bf6:List Int) (q9:List (List Int)) (da1:Value) (gf2:Value),v40 = .int .i64 m4/\Gx (Fj.l1 kq l1 kb l1 (l1.length:Int) m4 bf6 q9=some (r1,r2))/\Gx (kq<=k1)/\Gx (Kd.R (Kd.int .i64) 3 w' w.heap.size (fun _=>True) da1 bf6)/\Gx (Kd.S (Kd.slice 3 (Kd.int .i64)) 22 w' w.heap.size (fun k_=>some k_≠(da1:Value).ownBlock) gf2 q9)/\Gx (hc_ w' am7 #[(.slice ah ab.length af),(.slice ao aa.length ai)] 25)/\Gx (hc_ w' ai0 #[(.slice none 0 0),(.slice none 0 0)] 25)/\Gx (hc_ w' am8 #[da1,gf2] 25)/\Gx (Below w.heap.size w w'))
 case atStart=>exact⟨(0),(as2),(bf5),(.slice ja as2.length jb),(.slice pq bf5.length ml),(g3_),H',⟨Nat.le_refl _⟩,⟨uR_ ay3⟩,⟨uS_ zf⟩,⟨uB_ rt⟩,⟨uB_ tt⟩,⟨uB_ yj⟩,⟨ba0⟩⟩
 clear H'
 obtain⟨m4,bf6,q9,da1,gf2,rfl,HA,HK2,ay3,zf,rt,tt,yj,HB⟩:=hrel
 cases gk with
 | zero=>exact absurd HA.out (by simp[Fj.l1])
 | succ k2=>?_
 have H:=HA.out
 clear HA
 simp only[Fj.l1] at H
 by_cases l8:m4 < (l1.length:Int)
 case neg=>
  rw[if_neg l8] at H
  have bn4:=decide_eq_false l8
  clear l8
  simp only[Option.some.injEq,Prod.mk.injEq] at H
  obtain⟨rfl,rfl⟩:=H
  have fs7:=ig4.out
  have fs8:=ew4.out
  have dn8:=ig5.out
  have dn9:=ew5.out
  obtain⟨fs9,ft0,ft1,ft2⟩:=blk2_ yj
  obtain⟨vj,vk,cb7⟩:=Kd.R_slice ay3.out
  subst cb7
  have el9:=ig3.out
  have em0:=ig2.out
  obtain⟨do0,do1,do2,do3⟩:=blk2_ tt
  obtain⟨av6,av7,do4⟩:=Kd.S_slice zf.out
  subst do4
  go_wp2
  refine bodyPost_ret (results_cell_row rfl _ _ ai0 25 #[.slice vj bf6.length vk, .slice av6 q9.length av7] (0,0) _ rfl (ba_ tt) Try.underlying25 rfl (g0_)) rfl ?_
  exact⟨_,_,g4_,ra_ ay3,sa_ zf,ba0⟩
 rw[if_pos l8] at H
 have bn4:=decide_eq_true l8
 clear l8
 obtain⟨fq6,H⟩:=pd_ H
 obtain⟨cw7,H⟩:=pd_ H
 obtain⟨aq5,H⟩:=pd_ H
 obtain⟨fn9,H⟩:=pd_ H
 by_cases uj:(l1.length:Int)=0
 ·rw[if_pos uj] at H
  exact absurd H (by simp)
 rw[if_neg uj] at H
 have ek2:((l1.length:Int) == 0)=false:=beq_eq_false_iff_ne.mpr uj
 have nj2:((l1.length:Int) != 0)=true:=bne_iff_ne.mpr uj
 have nj3:¬ (l1=[]):=fun h_=>uj (g86_)
 obtain⟨ji34,hji34⟩:∃j_:Int,(Int.tmod (wrap64 (m4 + 1)) (l1.length:Int))=j_:=⟨_,rfl⟩
 first|rw[hji34] at H|simp only[hji34] at H
 obtain⟨do8,H⟩:=pd_ H
 obtain⟨em8,H⟩:=pd_ H
 obtain⟨jt6,H⟩:=pd_ H
 obtain⟨jt7,H⟩:=pd_ H
 obtain⟨gf3,hyq⟩:∃y_:List Int,y_=((Jb q9 (rd l1 m4)).set ((rd l1 (ji34)):Int).toNat (wrap64 ((rd (Jb q9 (rd l1 m4)) (rd l1 (ji34))) - kb))):=⟨_,rfl⟩
 replace H:(Fj.l1 k2 l1 kb l1 (l1.length:Int) (wrap64 (m4 + 1)) bf6 (q9.set ((rd l1 m4):Int).toNat gf3))=some (r1,r2):=qh_
 have ky4:=A_ hyq
 clear hyq
 obtain⟨ih8,hyq⟩:∃y_:List (List Int),y_=(q9.set ((rd l1 m4):Int).toNat gf3):=⟨_,rfl⟩
 replace H:(Fj.l1 k2 l1 kb l1 (l1.length:Int) (wrap64 (m4 + 1)) bf6 ih8)=some (r1,r2):=qh_
 have ky5:=A_ hyq
 clear hyq
 have H':=A_ H
 clear H
 obtain⟨⟨ih9,ky6,ii0⟩,gf4,gf5⟩:=rdp_ (Kd.at_int i8.out m4)
 cases ky6
 replace ii0:=cl_ HB ii0
 try go_wp2
 replace ay3:=rd_ ay3
 replace zf:=sd_ zf
 replace rt:=bd_ rt
 replace tt:=bd_ tt
 replace yj:=bd_ yj
 replace HB:=A_ (G1 HB.out)
 obtain⟨ku,j3,ah1⟩:=Kd.S_slice zf.out
 (first|subst ah1|(injection ah1 with f1_ f2_ f3_;have f4_:=f1_.symm;have f5_:=f3_.symm;clear f1_ f2_ f3_;subst f4_;subst f5_))
 have ex4:0<=((rd l1 m4):Int):=od_
 have ex5:(rd l1 m4) < (q9.length:Int):=od_
 obtain⟨gf6,nj4,ky7,ky8,ex6,ii1,ii2⟩:=at_L1 (Kd.S_reads' zf.out).2.2 (rd l1 m4) ex4 ex5
 cases ky8
 obtain⟨ce442,hce442,hMe442,hcc442⟩:=Kd.S_get zf.out [] (rd l1 m4) ex4 (by first|exact ex5|exact od_|(have e_:=(Kd.S_reads' zf.out).1;omega))
 obtain⟨ve442_0,rfl,ge442_0⟩:=hMe442
 have hv442_0:=hcc442 0 _ rfl
 rw[Nat.add_zero,show((Kd.slice 3 (Kd.int .i64))).sz=1 from rfl,Nat.mul_one] at hv442_0
 replace hv442_0:=Option.some.inj (hv442_0.symm.trans ex6)
 rw[hv442_0] at ge442_0
 have cp6:=A_ (show Kd.R (Kd.int .i64) 3 _ _ _ _ (Jb q9 (rd l1 m4)) from ge442_0)
 clear hv442_0 ge442_0
 have HX442_0:=A_ ex6
 clear hcc442 hce442
 have gf7:=A_ ii2
 have nj5:=A_ ii1
 clear ii2 ii1
 replace ex4:=eq_true ex4
 replace ex5:=eq_true ex5
 obtain⟨⟨ky9,kz0,ex7⟩,gf8,gf9⟩:=rdp_ (Kd.at_int i8.out (ji34))
 have kz1:=ex7
 obtain rfl:ih9=ky9:=(by injection kz0)
 replace ex7:=cl_ HB ex7
 obtain⟨⟨nj6,kz2,gg2⟩,gg0,gg1⟩:=rdp_ (Kd.at_int (by repeat(first|(with_reducible exact gf7.out)|(with_reducible refine Kd.C_alloc ?_ _)|(with_reducible refine Kd.C_drewN ?_ _)|(with_reducible refine Kd.C_drew ?_)|exact gf7.out)) (rd l1 (ji34)))
 cases kz2
 have p39:0<=((rd l1 (ji34)):Int):=od_
 have q39:((rd l1 (ji34)):Int) < (((Jb q9 (rd l1 m4)).length:Int):Int):=od_
 obtain⟨cx8,k8,ag9,dr6,gl39,cl39,HG39⟩:=Kd.R_form cp6.out (by omega)
 (first|cases ag9|(injection ag9 with ea_ en_ ec_;(first|subst ea_|(injection ea_ with ea_;subst ea_));subst ec_;clear en_))
 have GB39:=A_ dr6
 have GG39:=A_ HG39
 clear dr6 gl39 HG39
 (first|simp only[add_plain] at gg2|skip)
 obtain⟨fs6,hf39_0⟩:=Kd.R_celln 0 cp6.out ((rd l1 (ji34)):Int) p39 q39
 replace p39:=eq_true p39
 replace q39:=eq_true q39
 have hq42:((rd l1 m4):Int) < (q9.length:Int):=(by have h_:((rd l1 m4):Int) < ((q9.length:Int):Int):=od_;first|exact h_|(have e_:=(Kd.S_reads' zf.out).1;omega)|simpa only[List.length_set,List.length_set] using h_)
 obtain⟨oki42,ce42,hcl42,hM42,hcc42,hok42,hbk42⟩:=Kd.S_borrow zf.out [] ((rd l1 m4):Int) (od_) (by first|exact hq42|exact od_|(have e_:=(Kd.S_reads' zf.out).1;omega))
 obtain⟨ve42_0,rfl,ge42_0⟩:=hM42
 have hv42:=hcc42 0 _ rfl
 rw[Nat.add_zero,show((Kd.slice 3 (Kd.int .i64))).sz=1 from rfl,Nat.mul_one] at hv42
 replace hv42:=Option.some.inj (hv42.symm.trans HX442_0.out)
 subst hv42
 clear hcc42 hcl42
 replace ge42_0:=(show Kd.R (Kd.int .i64) 3 _ _ _ _ (Jb q9 (rd l1 m4)) from ge42_0)
 have HP42:=Kd.R_putg ge42_0 ((rd l1 (ji34)):Int) (wrap64 ((rd (Jb q9 (rd l1 m4)) (rd l1 (ji34))) - kb))
 rw[<- ky4.out] at HP42
 have HS42:=hbk42 HP42.2 (fun k_ e_=>by injection e_ with e_;subst e_;exact ge42_0.1 _ rfl) (x':=gf3) (Kd.M_row HP42.1)
 rw[<- ky5.out] at HS42
 have HQ42:=A_ HS42
 clear HP42 HS42 hbk42 hok42
 refine start_ (n:=19) (S:=fun w'=>w'.cell? ⟨am8,0,none⟩=some (da1)/\w'.cell? ⟨am8,1,none⟩=some (.slice (some gf6) q9.length j3)/\w'.cell? (gf6.add ((rd l1 m4)).toNat)=some (.slice (some ⟨cx8,0,none⟩) (Jb q9 (rd l1 m4)).length ky7)/\w'.cell? (ih9.add ((ji34)).toNat)=some (.int .i64 (rd l1 (ji34)))/\w'.cell? ⟨cx8,((rd l1 (ji34))).toNat,none⟩=some (.int .i64 (rd (Jb q9 (rd l1 m4)) (rd l1 (ji34))))) (ds:=[18]) (tl_ 19 0) (g0_) rfl (g0_) ⟨(Gy yj.out 0).trans rfl,(Gy yj.out 1).trans rfl,ex6,((cl_ HB kz1).trans rfl),gg2⟩ (fun hHeld=>?_);refine Jl Fj.tab11 Fj.bits11 (fun HT_ HW_=>?_)
 generalize wr.drew=w40 at ay3 zf rt tt yj HB GG39 cp6 HQ42 gf7 HX442_0 hf39_0 fs6 ex6 ex7 gg2 hHeld |-
 refine pw_ 0 45 (tl_ 19 1) ?_
 refine pw_ 2 47 (tl_ 19 5) ?_
 refine pw_ 5 50 (tl_ 19 37) ?_
 refine pw_ 6 51 (tl_ 19 101) ?_
 refine pw_ 7 52 (tl_ 19 229) ?_
 refine pw_ 8 53 (tl_ 19 485) ?_
 refine pw_ 9 54 (tl_ 19 997) ?_
 refine pw_ 10 55 (tl_ 19 2021) ?_
 refine pw_ 11 56 (tl_ 19 4069) ?_
 refine pw_ 15 60 (tl_ 19 36837) ?_
 refine tk5_ 1 46 (tl_ 19 36839) hHeld ?_
 refine pw_ 3 48 (tl_ 19 36847) ?_
 refine tk5_ 4 49 (tl_ 19 36863) hHeld ?_
 refine tk5_ 12 57 (tl_ 19 40959) hHeld ?_
 refine pw_ 13 58 (tl_ 19 49151) ?_
 refine tk5_ 14 59 (tl_ 19 65535) hHeld ?_
 refine pw_ 16 61 (tl_ 19 131071) ?_
 refine pw_ 17 62 (tl_ 19 262143) ?_
 refine last_ (i:=18) (N:=none) (tl_ 19 524287) rfl rfl (Jn HT_.out (g0_)) (by decide) (fun K hK=>?_)
 refine skip_ (w1:=?_) (by rfl) rfl ?_ ?_
 rotate_left
 ·go_simp
  rfl
 refine hK.out _ _ ?_
 clear hK K
 refine done_ (done_of HT_.out (g0_)) ?_
 try go_wp2
 go_roundg k2
 case measure=>have:=HK1.out;have:=HK2.out;omega
 case rel=>exact⟨(wrap64 (m4 + 1)),(bf6),(ih8),(da1),(.slice (some gf6) q9.length j3),(g3_),H',⟨g29_⟩,⟨by(with_reducible repeat(first|apply Kd.R_alloc|apply Kd.R_drewN|apply Kd.R_drew));exact Kd.R_mono (Kd.R_far (p:=⟨cx8,((rd l1 (ji34)):Int).toNat,none⟩) (Kd.R_far1 ay3.out rfl ((cp6.out.1 _ rfl).1)) (fun _ hk=>hk.2) (.int .i64 (wrap64 ((rd (Jb q9 (rd l1 m4)) (rd l1 (ji34))) - kb)))) (fun _ hk=>trivial)⟩,⟨uS_ HQ42⟩,⟨by(with_reducible repeat(first|refine G5 ?_ _|refine G6 ?_|refine G4 ?_ _));refine Je ?_ (by have h_:=Kd.R_ne cp6.out rt.out (by decide);intro e_;exact h_ (g6_)) _;exact uB_ rt⟩,⟨by(with_reducible repeat(first|refine G5 ?_ _|refine G6 ?_|refine G4 ?_ _));refine Je ?_ (by have h_:=Kd.R_ne cp6.out tt.out (by decide);intro e_;exact h_ (g6_)) _;exact uB_ tt⟩,⟨by(with_reducible repeat(first|refine G5 ?_ _|refine G6 ?_|refine G4 ?_ _));refine Je ?_ (by have h_:=Kd.R_ne cp6.out yj.out (by decide);intro e_;exact h_ (g6_)) _;exact uB_ yj⟩,⟨ba0⟩⟩
def Fe.l0:Nat->Int->List Int->List (List Int)->Option (List Int × (List (List Int)) × Int)
 | 0,_,_,_=>none
 | k + 1,x5,gg3,gg4=>(Gq.f k gg3 gg4).bind fun xc=>(if (xc.length:Int)=0 then(some (gg3,gg4,x5)) else(if 0 < (xc.length:Int) then((Fj.f k gg3 gg4 (Jb xc 0)).bind fun bt298=>(Fe.l0 k (wrap64 (x5 + 1)) bt298.1 bt298.2)) else(none)))
def Fe.f (k:Nat) (ab:List Int) (aa:List (List Int)):Option (List Int × (List (List Int)) × Int):=(Fo.f k ab aa).bind fun bt287=>(Fe.l0 k 0 bt287.1 bt287.2)
theorem Fe.calls0_q0 {p:Prop} (h:p:=by repeat(first|(with_reducible first|exact HB.out|apply G3|apply G2|apply G1|refine G0 ?_ kz3.out|refine G0 ?_ kz4.out|refine G0 ?_ kz5.out)|exact HB.out)):p:=h
set_option maxHeartbeats 8000000 in
set_option maxRecDepth 100000 in
theorem Fe.calls0 (k:Nat) (ah:Option Addr) (af:Nat) (ab:List Int) (ao:Option Addr) (ai:Nat) (aa:List (List Int)) (r1:List Int) (r2:List (List Int)) (r3:Int) (w:World) (d4:Kd.C (Kd.int .i64) w ah ab.length ab) (d9:ab.length<=af) (d5:Kd.C (Kd.slice 3 (Kd.int .i64)) w ao aa.length aa) (ea:aa.length<=ai) (h:Fe.f k ab aa=some (r1,r2,r3)) :
  Calls Try.prog 99 #[.agg #[.slice ah ab.length af, .slice ao aa.length ai]] w fun e w'=>∃v0_ v1_:Value,e = .returned (.tuple #[.agg #[v0_,v1_], .int .i64 r3])/\Kd.R (Kd.int .i64) 3 w' w.heap.size (fun k_=>(w.heap.size<=k_)) v0_ r1/\Kd.S (Kd.slice 3 (Kd.int .i64)) 22 w' w.heap.size (fun k_=>(w.heap.size<=k_)/\some k_≠(v0_:Value).ownBlock) v1_ r2/\Below w.heap.size w w':=by
 have hu25:=Try.underlying25
 have dp:=A_ d4
 have ec:=A_ d9
 clear d4 d9
 have df:=A_ d5
 have ee:=A_ ea
 clear d5 ea
 have HB:=A_ (Below.refl w.heap.size w)
 have H:=h
 unfold Fe.f at H
 clear h
 replace H:=Option.bind_eq_some_iff.mp H
 obtain⟨⟨da2,aw2⟩,yv,H⟩:=H
 try dsimp only at H
 have A2:=A_ yv
 clear yv
 have H':=A_ H
 clear H
 go_enter Try.func99,Try.ntmps99
 go_wp2_with (first|((with_reducible refine gd_ 1 ?_);refine bx_ (N:=1) #[.slice ah ab.length af, .slice ao aa.length ai] 25 ?_;intro xd hg w3 hbox hb;have ra:=A_ (hbox);have nj7:=A_ ((g113_:w.heap.size<=xd));have kz3:=nj7;replace HB:=A_ (Jg (Fe.calls0_q0) hb);clear hb hbox hg)|((with_reducible refine gd_ 2 ?_);refine bx_ (N:=2) #[.slice none 0 0, .slice none 0 0] 25 ?_;intro tk hg w4 hbox hb;have sh:=A_ (hbox);have nj8:=A_ ((g113_:w.heap.size<=tk));have kz4:=nj8;replace HB:=A_ (Jg (Fe.calls0_q0) hb);have ii3:=nl_ ra hg;have ii4:=nr_ ra hg;replace ra:=bb_ ra hb;clear hb hbox hg;have fj9:=ii3.out;have fk0:=ii4.out;obtain⟨ap7,ap8,bb9,ap9⟩:=blk2_ ra)|((with_reducible refine gc_ 111 ?_);refine gl_ 8 Try.func111 #[.agg #[.slice ah ab.length af, .slice ao aa.length ai]] ?_;(refine(Fo.calls k _ _ ab _ _ aa da2 aw2 _ (uC_ dp) ec.out (uC_ df) ee.out A2.out).mono ?_);rintro e w7 ⟨kz6,hj8,rfl,ae,ax,hb⟩;refine⟨_,rfl,?_⟩;have ex8:=A_ (Kd.R_lower (Kd.R_newM (M:=fun k_=>(w.heap.size<=k_)) ae (Gz (Fe.calls0_q0)) (fun k_ h_=>h_)) (Gz (Fe.calls0_q0)));have br1:=A_ (Kd.S_lower (Kd.S_mono (ok':=fun k_=>(w.heap.size<=k_)/\some k_≠(kz6:Value).ownBlock/\k_≠xd/\k_≠tk) (id (Kd.S_bound ax)) (fun k_ hk_=>⟨(Nat.le_trans (Gz (Fe.calls0_q0)) hk_.2.1),hk_.1,(Kd.freshB (g:=xd) (o:=.cells #[.slice ah ab.length af, .slice ao aa.length ai] 25 (0,0)) (uB_ ra) k_ hk_.2.1),(Kd.freshB (g:=tk) (o:=.cells #[.slice none 0 0, .slice none 0 0] 25 (0,0)) (uB_ sh) k_ hk_.2.1)⟩)) (Gz (Fe.calls0_q0)));replace ra:=bb_ ra hb;replace sh:=bb_ sh hb;replace HB:=A_ (Jg (Fe.calls0_q0) hb))|((with_reducible refine gd_ 4 ?_);refine bx_ (N:=4) #[.slice none 0 0, .slice none 0 0] 25 ?_;intro p9 hg w8 hbox hb;replace ex8:=rb_ ex8 hb;replace br1:=A_ (Kd.S_below (Kd.S_elderB (uS_ br1) p9 (Nat.le_of_eq hg.symm)) hb);have qa:=A_ (hbox);have nj9:=A_ ((g113_:w.heap.size<=p9));have kz5:=nj9;replace HB:=A_ (Jg (Fe.calls0_q0) hb);have bu0:=nl_ ra hg;have dx5:=nr_ ra hg;replace ra:=bb_ ra hb;have bu1:=nl_ sh hg;have dx6:=nr_ sh hg;replace sh:=bb_ sh hb;clear hb hbox hg;obtain⟨ak,aj,eo9⟩:=Kd.R_slice ex8.out;subst eo9;have cn6:=dx5.out;have cn7:=bu0.out;have aq2:=dx6.out;have aq3:=bu1.out;obtain⟨wu,wv,yf,ww⟩:=blk2_ qa;obtain⟨dz,de,bc8⟩:=Kd.S_slice br1.out;subst bc8))
 go_loopg [5] k (fun kq v5 w'=>∃(bj:Int) (u7:List Int) (va:List (List Int)) (ex9:Value) (gg5:Value),v5 = .int .i64 bj/\Gx (Fe.l0 kq bj u7 va=some (r1,r2,r3))/\Gx (kq<=k)/\Gx (Kd.R (Kd.int .i64) 3 w' w.heap.size (fun k_=>(w.heap.size<=k_)) ex9 u7)/\Gx (Kd.S (Kd.slice 3 (Kd.int .i64)) 22 w' w.heap.size (fun k_=>(w.heap.size<=k_)/\some k_≠(ex9:Value).ownBlock/\k_≠xd/\k_≠tk/\k_≠p9) gg5 va)/\Gx (hc_ w' xd #[(.slice ah ab.length af),(.slice ao aa.length ai)] 25)/\Gx (hc_ w' tk #[(.slice none 0 0),(.slice none 0 0)] 25)/\Gx (hc_ w' p9 #[ex9,gg5] 25)/\Gx (Below w.heap.size w w'))
 case atStart=>exact⟨(0),(da2),(aw2),(.slice ak da2.length aj),(.slice dz aw2.length de),(g3_),H',⟨Nat.le_refl _⟩,⟨ra_ ex8⟩,⟨sa_ br1⟩,⟨ba_ ra⟩,⟨ba_ sh⟩,⟨ba_ qa⟩,⟨Fe.calls0_q0⟩⟩
 clear H'
 obtain⟨bj,u7,va,ex9,gg5,rfl,HA,HK1,vb,vr,ra,sh,qa,HB⟩:=hrel
 cases gk with
 | zero=>exact absurd HA.out (by simp[Fe.l0])
 | succ k1=>?_
 have H:=HA.out
 clear HA
 simp only[Fe.l0] at H
 obtain⟨xc,A14,H⟩:=bind_ H
 by_cases e7:(xc.length:Int)=0
 ·rw[if_pos e7] at H
  have qv:((xc.length:Int) == 0)=true:=beq_iff_eq.mpr e7
  have kz7:((xc.length:Int) != 0)=false:=bne_eq_false_iff_eq.mpr e7
  clear e7
  simp only[Option.some.injEq,Prod.mk.injEq] at H
  obtain⟨rfl,rfl,rfl⟩:=H
  have er0:=dx5.out
  have er1:=bu0.out
  have gg6:=dx6.out
  have gg7:=bu1.out
  obtain⟨bb3,bb4,bb5,bb6⟩:=blk2_ qa
  obtain⟨bc,ba,yd⟩:=Kd.R_slice vb.out
  subst yd
  obtain⟨bz,br,ac0⟩:=Kd.S_slice vr.out
  subst ac0
  go_wp2_with (first|((with_reducible refine gc_ 96 ?_);refine gl_ 12 Try.func96 #[.agg #[.slice bc u7.length ba, .slice bz va.length br]] ?_;(refine(Gq.calls k1 _ _ u7 _ _ va xc _ (cR_ vb) (lR_ vb) (cS_ vr) (lS_ vr) A14.out).mono ?_);rintro e mu ⟨kz8,rfl,ae,hb⟩;refine⟨_,rfl,?_⟩;have ay4:=A_ (Kd.N_lower (Kd.N_mono (ok':=fun k_=>(w.heap.size<=k_)/\some k_≠(.slice bc u7.length ba:Value).ownBlock/\some k_≠(.slice bz va.length br:Value).ownBlock/\k_≠xd/\k_≠tk/\k_≠p9) ae (fun k_ hk_=>⟨(Nat.le_trans (Gz (Fe.calls0_q0)) hk_),(Kd.fresh' (Kd.R_lt (uR_ vb)) k_ hk_),(Kd.fresh' (Kd.S_lt (uS_ vr)) k_ hk_),(Kd.freshB (g:=xd) (o:=.cells #[.slice ah ab.length af, .slice ao aa.length ai] 25 (0,0)) (uB_ ra) k_ hk_),(Kd.freshB (g:=tk) (o:=.cells #[.slice none 0 0, .slice none 0 0] 25 (0,0)) (uB_ sh) k_ hk_),(Kd.freshB (g:=p9) (o:=.cells #[.slice bc u7.length ba, .slice bz va.length br] 25 (0,0)) (uB_ qa) k_ hk_)⟩)) (Gz (Fe.calls0_q0)));replace vb:=rb_ vb hb;replace vr:=A_ (Kd.S_elder' (uS_ vr) (Kd.N_base (g137_)) hb);replace ra:=bb_ ra hb;replace sh:=bb_ sh hb;replace qa:=bb_ qa hb;replace HB:=A_ (Jg (Fe.calls0_q0) hb);obtain⟨jk,i9,be7⟩:=Kd.N_slice ay4.out;subst be7;obtain⟨gd6,gd7,gd8,gd9⟩:=blk2_ qa;have hn0:=ii4.out;have hn2:=ii3.out;obtain⟨eg2,eg3,eg4,eg5⟩:=blk2_ sh))
  refine bodyPost_ret (Jm rfl _ _ tk 25 #[.slice bc u7.length ba, .slice bz va.length br] (0,0) _ rfl (ba_ sh) Try.underlying25 rfl (g0_)) rfl ?_
  exact⟨_,_,g4_,ra_ vb,sa_ vr,Fe.calls0_q0⟩
 rw[if_neg e7] at H
 have qv:((xc.length:Int) == 0)=false:=beq_eq_false_iff_ne.mpr e7
 have kz7:((xc.length:Int) != 0)=true:=bne_iff_ne.mpr e7
 have nk0:¬ (xc=[]):=fun h_=>e7 (g86_)
 obtain⟨qw,H⟩:=pos_ H
 have ch7:=decide_eq_true qw
 have nk1:decide (0 < xc.length)=true:=decide_eq_true (by omega)
 clear qw
 replace H:=Option.bind_eq_some_iff.mp H
 obtain⟨⟨da3,gr⟩,ii5,H⟩:=H
 try dsimp only at H
 have A27:=A_ ii5
 clear ii5
 have H':=A_ H
 clear H
 have cw2:=dx5.out
 have cw3:=bu0.out
 have cu9:=dx6.out
 have cv0:=bu1.out
 obtain⟨cg6,cg7,cg8,cg9⟩:=blk2_ qa
 obtain⟨am1,am2,eu7⟩:=Kd.R_slice vb.out
 subst eu7
 obtain⟨iy,iv,bz7⟩:=Kd.S_slice vr.out
 subst bz7
 try go_wp2_with (first|((with_reducible refine gc_ 96 ?_);refine gl_ 12 Try.func96 #[.agg #[.slice am1 u7.length am2, .slice iy va.length iv]] ?_;(refine(Gq.calls k1 _ _ u7 _ _ va xc _ (cR_ vb) (lR_ vb) (cS_ vr) (lS_ vr) A14.out).mono ?_);rintro e w33 ⟨kz8,rfl,ae,hb⟩;refine⟨_,rfl,?_⟩;have ay4:=A_ (Kd.N_lower (Kd.N_mono (ok':=fun k_=>(w.heap.size<=k_)/\some k_≠(.slice am1 u7.length am2:Value).ownBlock/\some k_≠(.slice iy va.length iv:Value).ownBlock/\k_≠xd/\k_≠tk/\k_≠p9) ae (fun k_ hk_=>⟨(Nat.le_trans (Gz (Fe.calls0_q0)) hk_),(Kd.fresh' (Kd.R_lt (uR_ vb)) k_ hk_),(Kd.fresh' (Kd.S_lt (uS_ vr)) k_ hk_),(Kd.freshB (g:=xd) (o:=.cells #[.slice ah ab.length af, .slice ao aa.length ai] 25 (0,0)) (uB_ ra) k_ hk_),(Kd.freshB (g:=tk) (o:=.cells #[.slice none 0 0, .slice none 0 0] 25 (0,0)) (uB_ sh) k_ hk_),(Kd.freshB (g:=p9) (o:=.cells #[.slice am1 u7.length am2, .slice iy va.length iv] 25 (0,0)) (uB_ qa) k_ hk_)⟩)) (Gz (Fe.calls0_q0)));replace vb:=rb_ vb hb;replace vr:=A_ (Kd.S_elder' (uS_ vr) (Kd.N_base (g137_)) hb);replace ra:=bb_ ra hb;replace sh:=bb_ sh hb;replace qa:=bb_ qa hb;replace HB:=A_ (Jg (Fe.calls0_q0) hb);obtain⟨k6,kt,bo8⟩:=Kd.N_slice ay4.out;subst bo8))
 replace vb:=rd_ vb
 replace vr:=sd_ vr
 replace ay4:=nd_ ay4
 replace ra:=bd_ ra
 replace sh:=bd_ sh
 replace qa:=bd_ qa
 replace HB:=A_ (G1 HB.out)
 have aw5:0<=(0:Int):=(by omega)
 have aw6:0 < (xc.length:Int):=od_
 obtain⟨eq5,ii6,ii7,dt3,be1,ii8,ii9⟩:=at_L1 (Kd.N_reads' ay4.out).2.2 0 aw5 aw6
 cases dt3
 obtain⟨ce297,hce297,hMe297,hcc297⟩:=Kd.N_get ay4.out [] 0 aw5 (by first|exact aw6|exact od_|(have e_:=(Kd.N_reads' ay4.out).1;omega))
 obtain⟨ua297_0,uc297_0,rfl,ul297_0,ge297_0⟩:=Kd.FK_slice_open hMe297
 have hv297_0:=hcc297 0 _ rfl
 rw[Nat.add_zero,show((Kd.slice 3 (Kd.int .i64))).sz=1 from rfl,Nat.mul_one] at hv297_0
 replace hv297_0:=Option.some.inj (hv297_0.symm.trans be1)
 injection hv297_0 with hva_ hvn_ hvc_
 rw[hva_] at ge297_0
 rw[hvc_] at ul297_0
 have gg8:=A_ (show Kd.V (Kd.int .i64) 3 _ w.heap.size _ _ (Jb xc 0) from Kd.V_mk ul297_0 ge297_0)
 clear hva_ hvn_ hvc_ ge297_0 ul297_0
 clear hcc297 hce297
 have qi297:(0 < xc.length)=True:=eq_true (by omega)
 (try rw[show((0:Int)).toNat=0 from rfl] at be1)
 (try rw[Addr.add_zero'] at be1)
 have da4:=A_ ii9
 have kz9:=A_ ii8
 clear ii9 ii8
 replace aw5:=eq_true aw5
 replace aw6:=eq_true aw6
 refine start_ (n:=6) (S:=fun w'=>w'.cell? ⟨p9,0,none⟩=some (.slice am1 u7.length am2)/\w'.cell? ⟨p9,1,none⟩=some (.slice iy va.length iv)/\w'.cell? eq5=some (.slice ii6 (Jb xc 0).length ii7)) (ds:=[5]) (tl_ 6 0) (g0_) rfl (g0_) ⟨(Gy qa.out 0).trans rfl,(Gy qa.out 1).trans rfl,be1⟩ (fun hHeld=>?_)
 generalize w33.drew=w35 at vb vr ay4 ra sh qa HB gg8 da4 be1 hHeld |-
 refine pure_ (i:=1) (N:=some 19) (v:=?_) (a':=?_) (tl_ 6 2) rfl rfl (g0_) (fun _ _ _ h=>h) (Or.inl ⟨by rfl,?_⟩) ?_ ?_
 rotate_left
 ·intro w'
  go_simp
  with_reducible rfl
 rotate_left
 · exact sp_
 refine pure_ (i:=2) (N:=some 20) (v:=?_) (a':=?_) (tl_ 6 6) rfl rfl (g0_) (fun _ _ _ h=>h) (Or.inl ⟨by rfl,?_⟩) ?_ ?_
 rotate_left
 ·intro w'
  go_simp
  with_reducible rfl
 rotate_left
 · exact sp_
 refine take_ (i:=0) (N:=some 18) (v:=?_) (a':=?_) (tl_ 6 7) rfl rfl (g0_) (fun _ _ _ h=>h) (Or.inl ⟨by rfl,?_⟩) hHeld ?_ ?_
 rotate_left
 ·rintro w' ⟨s0,s1,s2⟩
  go_simp
  with_reducible rfl
 rotate_left
 · exact sp_
 refine take_ (i:=3) (N:=some 21) (v:=?_) (a':=?_) (tl_ 6 15) rfl rfl (g0_) (fun _ _ _ h=>h) (Or.inl ⟨by rfl,?_⟩) hHeld ?_ ?_
 rotate_left
 ·rintro w' ⟨s0,s1,s2⟩
  go_simp
  with_reducible rfl
 rotate_left
 · exact sp_
 refine one_ (i:=4) (N:=some 22) (tl_ 6 31) rfl rfl (g0_) (by decide) (fun K hK=>?_)
 refine goes_ Try.func97 (g0_) rfl #[.agg #[.slice am1 u7.length am2, .slice iy va.length iv], .slice ii6 (Jb xc 0).length ii7] (by rfl) rfl rfl (gM_) ?_
 with_reducible refine(Fj.calls k1 _ _ u7 _ _ va _ _ (Jb xc 0) da3 gr _ ?side1 ?side2 ?side3 ?side4 ?side5 ?side6 A27.out).mono ?_
 (case side1=>exact cR_ vb)
 (case side2=>exact lR_ vb)
 (case side3=>exact cS_ vr)
 (case side4=>exact lS_ vr)
 (case side5=>repeat(first|exact(by repeat(first|(with_reducible exact da4.out)|(with_reducible refine Kd.C_alloc ?_ _)|(with_reducible refine Kd.C_drewN ?_ _)|(with_reducible refine Kd.C_drew ?_)|exact da4.out))|(with_reducible refine Kd.C_alloc ?_ _)|(with_reducible refine Kd.C_drewN ?_ _)|(with_reducible refine Kd.C_drew ?_)))
 (case side6=>exact kz9.out)
 rintro e k7 ⟨la0,ft7,rfl,ae,ax,hb⟩
 have HS2_:=(hb.cell (World.block_lt_of_cell? _ _ (hHeld.2.2))).trans (hHeld.2.2)
 refine⟨_,rfl,?_⟩
 replace gg8:=A_ (Kd.V_mono (Kd.V_told (Kd.V_told (Kd.V_old (uV_ gg8) hb) (Kd.R_base ae)) (Kd.S_base (g99_))) (fun _ h_=>h_.1))
 have ij0:=A_ (Kd.R_lower (Kd.R_new' (Kd.R_newM (M:=fun k_=>(w.heap.size<=k_)) ae (Gz (Fe.calls0_q0)) (fun k_ h_=>h_)) (Kd.R_lt (uR_ vb))) (Gz (Fe.calls0_q0)))
 have bj7:=A_ (Kd.S_lower (Kd.S_mono (ok':=fun k_=>(w.heap.size<=k_)/\some k_≠(la0:Value).ownBlock/\some k_≠(.slice am1 u7.length am2:Value).ownBlock/\some k_≠(.slice iy va.length iv:Value).ownBlock/\some k_≠(.slice (some eq5) xc.length kt:Value).ownBlock/\k_≠xd/\k_≠tk/\k_≠p9) (id (Kd.S_bound ax)) (fun k_ hk_=>⟨(Nat.le_trans (Gz (Fe.calls0_q0)) hk_.2.1),hk_.1,(Kd.fresh' (Kd.R_lt (uR_ vb)) k_ hk_.2.1),(Kd.fresh' (Kd.S_lt (uS_ vr)) k_ hk_.2.1),(Kd.fresh' (Kd.N_lt (uN_ ay4)) k_ hk_.2.1),(Kd.freshB (g:=xd) (o:=.cells #[.slice ah ab.length af, .slice ao aa.length ai] 25 (0,0)) (uB_ ra) k_ hk_.2.1),(Kd.freshB (g:=tk) (o:=.cells #[.slice none 0 0, .slice none 0 0] 25 (0,0)) (uB_ sh) k_ hk_.2.1),(Kd.freshB (g:=p9) (o:=.cells #[.slice am1 u7.length am2, .slice iy va.length iv] 25 (0,0)) (uB_ qa) k_ hk_.2.1)⟩)) (Gz (Fe.calls0_q0)))
 replace vb:=A_ (Kd.R_elder' (uR_ vb) (Kd.R_base ae) hb)
 replace vr:=A_ (Kd.S_mono (Kd.S_told (Kd.S_told (Kd.S_old (uS_ vr) hb) (Kd.R_base ae)) (Kd.S_base (g99_))) (fun _ h_=>h_.1))
 replace ay4:=A_ (Kd.N_mono (Kd.N_told (Kd.N_told (Kd.N_old (uN_ ay4) hb) (Kd.R_base ae)) (Kd.S_base (g99_))) (fun _ h_=>h_.1))
 replace ra:=bb_ ra hb
 replace sh:=bb_ sh hb
 replace qa:=bb_ qa hb
 replace da4:=A_ (Kd.C_below (by repeat(first|(with_reducible exact da4.out)|(with_reducible refine Kd.C_alloc ?_ _)|(with_reducible refine Kd.C_drewN ?_ _)|(with_reducible refine Kd.C_drew ?_)|exact da4.out)) hb)
 replace HB:=A_ (Jg (Fe.calls0_q0) hb)
 obtain⟨pi,o3,da5⟩:=Kd.R_slice ij0.out
 (first|subst da5|(injection da5 with f1_ f2_ f3_;have f4_:=f1_.symm;have f5_:=f3_.symm;clear f1_ f2_ f3_;subst f4_;subst f5_))
 obtain⟨lp,k8,ag9⟩:=Kd.S_slice bj7.out
 (first|subst ag9|(injection ag9 with f1_ f2_ f3_;have f4_:=f1_.symm;have f5_:=f3_.symm;clear f1_ f2_ f3_;subst f4_;subst f5_))
 refine hK.out _ _ ⟨(Gy qa.out 0).trans rfl,(Gy qa.out 1).trans rfl,HS2_⟩ (fun hHeld=>?_)
 clear hK K
 refine nm_ ?_
 refine last_ (i:=5) (N:=none) (tl_ 6 63) rfl rfl (g0_) (by decide) (fun K hK=>?_)
 have nk2:k7.cell? ⟨p9,0,none⟩=some (.slice am1 u7.length am2):=(Gy qa.out 0).trans rfl
 have nk3:=G7 qa.out 0
 have ib4:k7.cell? ⟨p9,1,none⟩=some (.slice iy va.length iv):=(Gy qa.out 1).trans rfl
 have ib5:=G7 qa.out 1
 refine skip_ (w1:=?_) (by rfl) rfl ?_ ?_
 rotate_left
 ·go_simp
  rfl
 refine hK.out _ _ ?_
 clear hK K
 refine done_ (g0_) ?_
 try go_wp2
 go_roundg k1
 case measure=>have:=HK1.out;omega
 case rel=>exact⟨(wrap64 (bj + 1)),(da3),(gr),(.slice pi da3.length o3),(.slice lp gr.length k8),(g3_),H',⟨g17_⟩,⟨ra_ ij0⟩,⟨sa_ bj7⟩,⟨ba_ ra⟩,⟨ba_ sh⟩,⟨ba_ qa⟩,⟨Fe.calls0_q0⟩⟩
theorem Fe.calls (k:Nat) (ah:Option Addr) (af:Nat) (ab:List Int) (ao:Option Addr) (ai:Nat) (aa:List (List Int)) (r1:List Int) (r2:List (List Int)) (r3:Int) (w:World) (d4:Kd.C (Kd.int .i64) w ah ab.length ab) (d9:ab.length<=af) (d5:Kd.C (Kd.slice 3 (Kd.int .i64)) w ao aa.length aa) (ea:aa.length<=ai) (h:Fe.f k ab aa=some (r1,r2,r3)) :
  Calls Try.prog 99 #[.agg #[.slice ah ab.length af, .slice ao aa.length ai]] w fun e w'=>∃v0_ v1_:Value,e = .returned (.tuple #[.agg #[v0_,v1_], .int .i64 r3])/\Kd.R (Kd.int .i64) 3 w' w.heap.size (fun _=>True) v0_ r1/\Kd.S (Kd.slice 3 (Kd.int .i64)) 22 w' w.heap.size (fun k_=>some k_≠(v0_:Value).ownBlock) v1_ r2/\Below w.heap.size w w':=by
 refine(Fe.calls0 k ah af ab ao ai aa r1 r2 r3 w d4 d9 d5 ea h).mono ?_
 rintro e w' ⟨v0_,v1_,he,h0,h1,hb⟩
 exact⟨v0_,v1_,he,Kd.R_mono h0 (fun _ _=>trivial),Kd.S_mono h1 (fun _ h_=>h_.2),hb⟩
attribute [local go_sem high] eqA69
mutual
def Fs.j0:Nat->Bool->List Int->List (List Int)->Int->Int->Int->Int->Option (List Int × (List (List Int)) × Bool)
 | 0,_,_,_,_,_,_,_=>none
 | k + 1,x10,bf7,bf8,cd9,ai1,ay5,bu2=>if x10=true then((Gv.f k bf7 bf8 ai1 bu2).bind fun bt452=>((Fi.f k bt452.1 bt452.2).bind fun gg9=>(some (bt452.1,bt452.2,gg9)))) else(if cd9=1 then((Gj.f k bf7 bf8 ai1).bind fun gh0=>(if gh0=true then((Gj.f k bf7 bf8 ay5).bind fun gh1=>(if gh1=true then(Fs.j1 k (ai1 != ay5) bf7 bf8 cd9 ai1 ay5 bu2) else(Fs.j1 k false bf7 bf8 cd9 ai1 ay5 bu2))) else(Fs.j1 k false bf7 bf8 cd9 ai1 ay5 bu2))) else(Fs.j1 k false bf7 bf8 cd9 ai1 ay5 bu2))
def Fs.j1:Nat->Bool->List Int->List (List Int)->Int->Int->Int->Int->Option (List Int × (List (List Int)) × Bool)
 | 0,_,_,_,_,_,_,_=>none
 | k + 1,x34,bf7,bf8,cd9,ai1,ay5,bu2=>if x34=true then((Fo.f k bf7 bf8).bind fun bt462=>(if 0<=ai1 then(if ai1 < (bt462.2.length:Int) then(if 0<=ay5 then(if ay5 < ((Jb bt462.2 ai1).length:Int) then((some (bt462.2.set (ai1:Int).toNat ((Jb bt462.2 ai1).set (ay5:Int).toNat bu2):List (List Int))).bind fun as3=>((Fi.f k bt462.1 as3).bind fun cp7=>(some (bt462.1,as3,cp7)))) else(none)) else(none)) else(none)) else(none))) else(if (cd9 == 2 && (ai1 == 0 && (ay5 == 0 && (bu2 == 0))))=true then((Fz.f k bf7 bf8).bind fun bt474=>(some (bt474.1,bt474.2,true))) else(if (cd9 == 3 && (ai1 == 0 && (ay5 == 0 && (bu2 == 0))))=true then((Fe.f k bf7 bf8).bind fun bt480=>(some (bt480.1,bt480.2.1,true))) else(some (([]:List Int),([]:List (List Int)),false))))
end
def Fs.f (k:Nat) (ab:List Int) (aa:List (List Int)) (b4:Int) (bk:Int) (bn:Int) (bw:Int):Option (List Int × (List (List Int)) × Bool):=if b4=0 then(if bn=0 then((Gj.f k ab aa bk).bind fun da6=>(Fs.j0 k da6 ab aa b4 bk bn bw)) else(Fs.j0 k false ab aa b4 bk bn bw)) else(Fs.j0 k false ab aa b4 bk bn bw)
def Fs.T6:Bool × List (List Nat × List Nat):=(true,[([],[]),([0],[0]),([],[]),([2],[2]),([1,3],[1,3]),([4],[4]),([],[]),([6],[6]),([],[]),([8],[8]),([5,7,0,1,2,3,4,5,6,7,8,9],[5,7]),([10,9,0,1,2,3,4,5,6,7,8,9],[9,10])])
def Fs.B6:List Nat:=[0,1,0,4,15,31,0,64,0,256,1023,2047]
theorem Fs.tab6:rtab .any (opsOf Try.f123 6)=Fs.T6:=by kernel_rfl
theorem Fs.bits6:waitsOk Fs.T6.2 Fs.B6=true:=by kernel_rfl
theorem ld {p:Prop} (h:p:=by repeat(first|(with_reducible first|exact HB.out|apply G3|apply G2|apply G1|refine G0 ?_ la1.out|refine G0 ?_ la2.out|refine G0 ?_ la3.out|refine G0 ?_ la4.out|refine G0 ?_ la5.out|refine G0 ?_ GB83.out|refine G0 ?_ la6.out)|exact HB.out)):p:=h
set_option maxHeartbeats 8000000 in
set_option maxRecDepth 100000 in
theorem Fs.calls (k:Nat) (ah:Option Addr) (af:Nat) (ab:List Int) (ao:Option Addr) (ai:Nat) (aa:List (List Int)) (b4:Int) (bk:Int) (bn:Int) (bw:Int) (r1:List Int) (r2:List (List Int)) (r3:Bool) (w:World) (d4:Kd.C (Kd.int .i64) w ah ab.length ab) (d9:ab.length<=af) (d5:Kd.C (Kd.slice 3 (Kd.int .i64)) w ao aa.length aa) (ea:aa.length<=ai) (h:Fs.f k ab aa b4 bk bn bw=some (r1,r2,r3)) :
  Calls Try.prog 123 #[.agg #[.slice ah ab.length af, .slice ao aa.length ai], .agg #[.int .i64 b4, .int .i64 bk, .int .i64 bn, .int .i64 bw]] w fun e w'=>∃v0_ v1_:Value,e = .returned (.tuple #[.agg #[v0_,v1_], .bool r3])/\Kd.R (Kd.int .i64) 3 w' w.heap.size (fun _=>True) v0_ r1/\Kd.S (Kd.slice 3 (Kd.int .i64)) 22 w' w.heap.size (fun k_=>some k_≠(v0_:Value).ownBlock) v1_ r2/\Below w.heap.size w w':=by
 have hu25:=Try.underlying25
 have hu69:=Try.underlying69
 have dp:=A_ d4
 have ec:=A_ d9
 clear d4 d9
 have df:=A_ d5
 have ee:=A_ ea
 clear d5 ea
 have HB:=A_ (Below.refl w.heap.size w)
 have H:=h
 unfold Fs.f at H
 clear h
 have HC3:=A_ H
 clear H
 go_enter Try.func123,Try.ntmps123
 go_upto_region 1 with(first|((with_reducible refine gd_ 2 ?_);refine bx_ (N:=2) #[.slice ah ab.length af, .slice ao aa.length ai] 25 ?_;intro yk hg w4 hbox hb;have gf:=A_ (hbox);have nk8:=A_ ((g31_:w.heap.size<=yk));have la1:=nk8;replace HB:=hs_ (ld) hb;clear hb hbox hg)|((with_reducible refine gd_ 3 ?_);refine bx_ (N:=3) #[.int .i64 b4, .int .i64 bk, .int .i64 bn, .int .i64 bw] 69 ?_;intro tv hg w5 hbox hb;have fl:=A_ (hbox);have nk9:=A_ ((g31_:w.heap.size<=tv));have la2:=nk9;replace HB:=hs_ (ld) hb;have ay6:=nl_ gf hg;have ay7:=nr_ gf hg;replace gf:=bb_ gf hb;clear hb hbox hg)|((with_reducible refine gd_ 4 ?_);refine bx_ (N:=4) #[.slice none 0 0, .slice none 0 0] 25 ?_;intro ki hg w6 hbox hb;have fa:=A_ (hbox);have nl0:=A_ ((g31_:w.heap.size<=ki));have la3:=nl0;replace HB:=hs_ (ld) hb;have as4:=nl_ gf hg;have as5:=nr_ gf hg;replace gf:=bb_ gf hb;have ai2:=nl_ fl hg;have ai3:=nr_ fl hg;replace fl:=bb_ fl hb;clear hb hbox hg))
 (try simp only[Act.put,List.setIfInBounds_toArray,List.set_cons_zero,List.set_cons_succ])
 go_cut [10] (fun v10 wc=>∃(kq:Nat) (xe:Bool),v10 = .bool xe/\Gx (Fs.j0 kq xe ab aa b4 bk bn bw=some (r1,r2,r3))/\Gx (kq<=k)/\Gx (hc_ wc yk #[(.slice ah ab.length af),(.slice ao aa.length ai)] 25)/\Gx (hc_ wc tv #[.int .i64 b4, .int .i64 bk, .int .i64 bn, .int .i64 bw] 69)/\Gx (hc_ wc ki #[(.slice none 0 0),(.slice none 0 0)] 25)/\Gx (Below w.heap.size w wc))
 case first=>
  have H:=HC3.out
  clear HC3
  by_cases c7:b4=0
  case neg=>
   rw[if_neg c7] at H
   have aa6:(b4 == 0)=false:=beq_eq_false_iff_ne.mpr c7
   have bn8:(b4 != 0)=true:=bne_iff_ne.mpr c7
   (first|rw[aa6]|(simp only[i64_w,i32_w];rw[aa6])|skip)
   have H':=A_ H
   clear H
   have dl2:=ay7.out
   have dl3:=ay6.out
   have cv8:=ai2.out
   have cv9:=ai3.out
   obtain⟨aa2,aa3,bo1,ij5,ad7,aa4,bo2,ij6⟩:=blk4_ fl
   go_wp2
   go_meet
   case rel=>exact⟨_,(false),(g3_),H',⟨g9_⟩,⟨uB_ gf⟩,⟨uB_ fl⟩,⟨uB_ fa⟩,⟨ld⟩⟩
  rw[if_pos c7] at H
  have aa6:(b4 == 0)=true:=beq_iff_eq.mpr c7
  have bn8:(b4 != 0)=false:=bne_eq_false_iff_eq.mpr c7
  clear c7
  (first|rw[aa6]|(simp only[i64_w,i32_w];rw[aa6])|skip)
  by_cases c8:bn=0
  ·rw[if_pos c8] at H
   have ag8:(bn == 0)=true:=beq_iff_eq.mpr c8
   have cc2:(bn != 0)=false:=bne_eq_false_iff_eq.mpr c8
   clear c8
   obtain⟨da6,A9,H⟩:=bind_ H
   have H':=A_ H
   clear H
   have cn6:=ay7.out
   have cn7:=ay6.out
   have aq2:=ai2.out
   have aq3:=ai3.out
   obtain⟨wu,wv,al7,ij1,yf,ww,al8,ij2⟩:=blk4_ fl
   have cu5:=as4.out
   have cu6:=as5.out
   obtain⟨xv,xw,xx,xy⟩:=blk2_ gf
   go_wp2_with (first|(go_at_call 83;(refine(Gj.calls k _ _ ab _ _ aa bk da6 _ (uC_ dp) ec.out (uC_ df) ee.out A9.out).mono ?_);rintro e w15 ⟨rfl,hb⟩;replace gf:=bb_ gf hb;replace fl:=bb_ fl hb;replace fa:=bb_ fa hb;replace HB:=hs_ (ld) hb))
   go_meet
   case rel=>exact⟨_,(da6),(g3_),H',⟨g9_⟩,⟨uB_ gf⟩,⟨uB_ fl⟩,⟨uB_ fa⟩,⟨ld⟩⟩
  rw[if_neg c8] at H
  have ag8:(bn == 0)=false:=beq_eq_false_iff_ne.mpr c8
  have cc2:(bn != 0)=true:=bne_iff_ne.mpr c8
  have H':=A_ H
  clear H
  have er0:=ay7.out
  have er1:=ay6.out
  have gg6:=ai2.out
  have gg7:=ai3.out
  obtain⟨bb3,bb4,cp8,ij3,bb5,bb6,cp9,ij4⟩:=blk4_ fl
  go_wp2
  go_meet
  case rel=>exact⟨_,(false),(g3_),H',⟨g9_⟩,⟨uB_ gf⟩,⟨uB_ fl⟩,⟨uB_ fa⟩,⟨ld⟩⟩
 clear HC3
 obtain⟨kq,xe,rfl,HA,HJ2,gf,fl,fa,HB⟩:=hcut
 cases kq with
 | zero=>exact absurd HA.out (by simp[Fs.j0])
 | succ kj2=>?_
 have H:=HA.out
 clear HA
 simp only[Fs.j0] at H
 by_cases lj:xe=true
 ·subst lj
  replace H:=ifp_ H
  replace H:=Option.bind_eq_some_iff.mp H
  obtain⟨⟨tw,xf⟩,ij7,H⟩:=H
  try dsimp only at H
  have A23:=A_ ij7
  clear ij7
  obtain⟨gg9,A24,H⟩:=bind_ H
  simp only[Option.some.injEq,Prod.mk.injEq] at H
  obtain⟨rfl,rfl,rfl⟩:=H
  have fv6:=ay6.out
  have fv7:=ay7.out
  have eq6:=as4.out
  have eq7:=as5.out
  obtain⟨br4,br5,br6,br7⟩:=blk2_ gf
  have cw2:=ai2.out
  have cw3:=ai3.out
  obtain⟨eh9,ei0,la7,la8,ei1,ei2,la9,lb0⟩:=blk4_ fl
  try go_wp2_with (first|((with_reducible refine gc_ 84 ?_);refine gl_ 30 Try.func84 #[.agg #[.slice ah ab.length af, .slice ao aa.length ai], .int .i64 bk, .int .i64 bw] ?_;(refine(Gv.calls kj2 _ _ ab _ _ aa bk bw tw xf _ (uC_ dp) ec.out (uC_ df) ee.out A23.out).mono ?_);rintro e w30 ⟨nl1,nl2,rfl,ae,ax,hb⟩;refine⟨_,rfl,?_⟩;have am9:=A_ (Kd.R_lower ae (Gz (ld)));have an0:=A_ (Kd.S_lower ax (Gz (ld)));replace gf:=bb_ gf hb;replace fl:=bb_ fl hb;replace fa:=bb_ fa hb;replace HB:=hs_ (ld) hb)|((with_reducible refine gd_ 6 ?_);refine bx_ (N:=6) #[.slice none 0 0, .slice none 0 0] 25 ?_;intro o4 hg w31 hbox hb;replace am9:=rb_ am9 hb;replace an0:=sb_ an0 hb;have ai4:=A_ (hbox);have nl3:=A_ ((g31_:w.heap.size<=o4));have la4:=nl3;replace HB:=hs_ (ld) hb;have gh2:=nl_ gf hg;have lb1:=nr_ gf hg;replace gf:=bb_ gf hb;have gh3:=nl_ fl hg;have lb2:=nr_ fl hg;replace fl:=bb_ fl hb;have dx7:=nl_ fa hg;have cq0:=nr_ fa hg;replace fa:=bb_ fa hb;clear hb hbox hg;obtain⟨iy,iv,bz7⟩:=Kd.R_slice am9.out;subst bz7;have bo5:=lb1.out;have bo6:=gh2.out;have cy5:=lb2.out;have cy6:=gh3.out;have ij8:=cq0.out;have ij9:=dx7.out;obtain⟨ey0,ey1,ey2,ey3⟩:=blk2_ ai4;obtain⟨pi,o3,da5⟩:=Kd.S_slice an0.out;subst da5))
  have n0_:Gx (Kd.R (Kd.int .i64) 3 ((w31.setCell ⟨o4,0,none⟩ (.slice iy tw.length iv)).setCell ⟨o4,1,none⟩ (.slice pi xf.length o3)) w.heap.size (fun _=>True) (.slice iy tw.length iv) tw):=⟨ra_ am9⟩
  have n1_:Gx (Kd.S (Kd.slice 3 (Kd.int .i64)) 22 ((w31.setCell ⟨o4,0,none⟩ (.slice iy tw.length iv)).setCell ⟨o4,1,none⟩ (.slice pi xf.length o3)) w.heap.size (fun k_=>some k_≠(.slice iy tw.length iv:Value).ownBlock) (.slice pi xf.length o3) xf):=⟨sa_ an0⟩
  have n2_:Gx (((w31.setCell ⟨o4,0,none⟩ (.slice iy tw.length iv)).setCell ⟨o4,1,none⟩ (.slice pi xf.length o3)).heap[yk]? = some (.cells #[.slice ah ab.length af, .slice ao aa.length ai] 25 (0,0))):=⟨ba_ gf⟩
  have n3_:Gx (((w31.setCell ⟨o4,0,none⟩ (.slice iy tw.length iv)).setCell ⟨o4,1,none⟩ (.slice pi xf.length o3)).heap[tv]? = some (.cells #[.int .i64 b4, .int .i64 bk, .int .i64 bn, .int .i64 bw] 69 (0,0))):=⟨ba_ fl⟩
  have n4_:Gx (((w31.setCell ⟨o4,0,none⟩ (.slice iy tw.length iv)).setCell ⟨o4,1,none⟩ (.slice pi xf.length o3)).heap[ki]? = some (.cells #[.slice none 0 0, .slice none 0 0] 25 (0,0))):=⟨ba_ fa⟩
  have n5_:Gx (((w31.setCell ⟨o4,0,none⟩ (.slice iy tw.length iv)).setCell ⟨o4,1,none⟩ (.slice pi xf.length o3)).heap[o4]? = some (.cells #[.slice iy tw.length iv, .slice pi xf.length o3] 25 (0,0))):=⟨ba_ ai4⟩
  have n6_:Gx (Below w.heap.size w ((w31.setCell ⟨o4,0,none⟩ (.slice iy tw.length iv)).setCell ⟨o4,1,none⟩ (.slice pi xf.length o3))):=⟨ld⟩
  generalize ((w31.setCell ⟨o4,0,none⟩ (.slice iy tw.length iv)).setCell ⟨o4,1,none⟩ (.slice pi xf.length o3))=lx at n0_ n1_ n2_ n3_ n4_ n5_ n6_ |-
  have am9:=n0_
  have an0:=n1_
  have gf:=n2_
  have fl:=n3_
  have fa:=n4_
  have ai4:=n5_
  have HB:=n6_
  clear n0_ n1_ n2_ n3_ n4_ n5_ n6_
  replace am9:=rd_ am9
  replace an0:=sd_ an0
  replace gf:=bd_ gf
  replace fl:=bd_ fl
  replace fa:=bd_ fa
  replace ai4:=bd_ ai4
  replace HB:=A_ (G1 HB.out)
  refine start_ (n:=5) (S:=fun w'=>w'.cell? ⟨o4,0,none⟩=some (.slice iy tw.length iv)/\w'.cell? ⟨o4,1,none⟩=some (.slice pi xf.length o3)) (ds:=[]) (tl_ 5 0) (g0_) rfl (g0_) ⟨(Gy ai4.out 0).trans rfl,(Gy ai4.out 1).trans rfl⟩ (fun hHeld=>?_)
  generalize lx.drew=w39 at am9 an0 gf fl fa ai4 HB hHeld |-
  refine take_ (i:=0) (N:=some 31) (v:=?_) (a':=?_) (tl_ 5 1) rfl rfl (g0_) (fun _ _ _ h=>h) (Or.inl ⟨by rfl,?_⟩) hHeld ?_ ?_
  rotate_left
  ·rintro w' ⟨s0,s1⟩
   go_simp
   with_reducible rfl
  rotate_left
  · exact sp_
  refine take_ (i:=1) (N:=some 32) (v:=?_) (a':=?_) (tl_ 5 3) rfl rfl (g0_) (fun _ _ _ h=>h) (Or.inl ⟨by rfl,?_⟩) hHeld ?_ ?_
  rotate_left
  ·rintro w' ⟨s0,s1⟩
   go_simp
   with_reducible rfl
  rotate_left
  · exact sp_
  refine one_ (i:=2) (N:=some 33) (tl_ 5 7) rfl rfl (g0_) (by decide) (fun K hK=>?_)
  refine goes_ Try.func73 (g0_) rfl #[.agg #[.slice iy tw.length iv, .slice pi xf.length o3]] (by rfl) rfl rfl (gM_) ?_
  refine(Fi.calls kj2 _ _ tw _ _ xf gg9 _ (cR_ am9) (lR_ am9) (cS_ an0) (lS_ an0) A24.out).mono ?_
  rintro e w40 ⟨rfl,hb⟩
  refine⟨_,rfl,?_⟩
  replace am9:=rb_ am9 hb
  replace an0:=sb_ an0 hb
  replace gf:=bb_ gf hb
  replace fl:=bb_ fl hb
  replace fa:=bb_ fa hb
  replace ai4:=bb_ ai4 hb
  replace HB:=hs_ (ld) hb
  refine hK.out _ _ ⟨(Gy ai4.out 0).trans rfl,(Gy ai4.out 1).trans rfl⟩ (fun hHeld=>?_)
  clear hK K
  refine nm_ ?_
  refine one_ (i:=3) (N:=none) (tl_ 5 15) rfl rfl (g0_) (by decide) (fun K hK=>?_)
  have lb3:w40.cell? ⟨ki,0,none⟩=some (.slice none 0 0):=(Gy fa.out 0).trans rfl
  have lb4:=G7 fa.out 0
  have nl5:=cq0.out
  have nl7:=dx7.out
  have hk8:w40.cell? ⟨ki,1,none⟩=some (.slice none 0 0):=(Gy fa.out 1).trans rfl
  have hl3:=G7 fa.out 1
  refine skip_ (w1:=?_) (by rfl) rfl ?_ ?_
  rotate_left
  ·go_simp
   rfl
  refine hK.out _ _ ⟨(cf_ cq0 ((cf_ cq0 (hHeld.1)))),(cf_ cq0 ((cf_ cq0 (hHeld.2))))⟩ (fun hHeld=>?_)
  clear hK K
  refine pure_ (i:=4) (N:=some 5) (v:=?_) (a':=?_) (tl_ 5 31) rfl rfl (g0_) (fun _ _ _ h=>h) (Or.inl ⟨by rfl,?_⟩) ?_ ?_
  rotate_left
  ·intro w'
   go_simp
   with_reducible rfl
  rotate_left
  · exact sp_
  refine done_ (g0_) ?_
  try go_wp2
  refine bodyPost_ret (Jm rfl _ _ ki 25 #[.slice iy tw.length iv, .slice pi xf.length o3] (0,0) _ rfl (ba_ fa) Try.underlying25 rfl (g0_)) rfl ?_
  exact⟨_,_,g4_,ra_ am9,sa_ an0,ld⟩
 replace lj:=Bool.eq_false_iff.mpr lj
 subst lj
 replace H:=ifn_ H
 have gh4:=A_ H
 clear H
 go_upto_region 4 with(fail)
 go_cut [34] (fun v34 wc=>∃(kq:Nat) (ey4:Bool),v34 = .bool ey4/\Gx (Fs.j1 kq ey4 ab aa b4 bk bn bw=some (r1,r2,r3))/\Gx (kq<=kj2)/\Gx (hc_ wc yk #[(.slice ah ab.length af),(.slice ao aa.length ai)] 25)/\Gx (hc_ wc tv #[.int .i64 b4, .int .i64 bk, .int .i64 bn, .int .i64 bw] 69)/\Gx (hc_ wc ki #[(.slice none 0 0),(.slice none 0 0)] 25)/\Gx (Below w.heap.size w wc))
 case first=>
  have H:=gh4.out
  clear gh4
  by_cases c44:b4=1
  case neg=>
   rw[if_neg c44] at H
   have da7:(b4 == 1)=false:=beq_eq_false_iff_ne.mpr c44
   have ik0:(b4 != 1)=true:=bne_iff_ne.mpr c44
   (first|rw[da7]|(simp only[i64_w,i32_w];rw[da7])|skip)
   have H':=A_ H
   clear H
   have es2:=ay7.out
   have es3:=ay6.out
   have ka3:=ai2.out
   have ka4:=ai3.out
   obtain⟨gh5,gh6,gh7,ld7,gh8,gh9,gi0,ld8⟩:=blk4_ fl
   go_wp2
   go_meet
   case rel=>exact⟨_,(false),(g3_),H',⟨g155_⟩,⟨uB_ gf⟩,⟨uB_ fl⟩,⟨uB_ fa⟩,⟨ld⟩⟩
  rw[if_pos c44] at H
  have da7:(b4 == 1)=true:=beq_iff_eq.mpr c44
  have ik0:(b4 != 1)=false:=bne_eq_false_iff_eq.mpr c44
  clear c44
  (first|rw[da7]|(simp only[i64_w,i32_w];rw[da7])|skip)
  obtain⟨gh0,A45,H⟩:=bind_ H
  by_cases c46:gh0=true
  case neg=>
   replace c46:=Bool.eq_false_iff.mpr c46
   subst c46
   replace H:=ifn_ H
   have H':=A_ H
   clear H
   have ld3:=ay7.out
   have ld4:=ay6.out
   have et2:=ai2.out
   have et3:=ai3.out
   obtain⟨ga9,gb0,gb1,ld5,gb2,gb3,gb4,ld6⟩:=blk4_ fl
   have fw2:=as4.out
   have fw3:=as5.out
   obtain⟨fx8,fx9,fy0,fy1⟩:=blk2_ gf
   go_wp2_with (first|(go_at_call 83;(refine(Gj.calls kj2 _ _ ab _ _ aa bk false _ (uC_ dp) ec.out (uC_ df) ee.out A45.out).mono ?_);rintro e w73 ⟨rfl,hb⟩;replace gf:=bb_ gf hb;replace fl:=bb_ fl hb;replace fa:=bb_ fa hb;replace HB:=hs_ (ld) hb))
   go_meet
   case rel=>exact⟨_,(false),(g3_),H',⟨g155_⟩,⟨uB_ gf⟩,⟨uB_ fl⟩,⟨uB_ fa⟩,⟨ld⟩⟩
  subst c46
  replace H:=ifp_ H
  obtain⟨gh1,A47,H⟩:=bind_ H
  by_cases c48:gh1=true
  ·subst c48
   replace H:=ifp_ H
   have H':=A_ H
   clear H
   have er7:=ay7.out
   have er8:=ay6.out
   have er9:=ai2.out
   have es0:=ai3.out
   obtain⟨bp3,bp4,cn2,cy7,bp5,bp6,cn3,cy8⟩:=blk4_ fl
   have hy2:=as4.out
   have hy3:=as5.out
   obtain⟨ey5,ey6,ey7,ey8⟩:=blk2_ gf
   have MK83_0:=True.intro
   go_wp2_with (first|(clear MK83_0;go_at_call 83;(refine(Gj.calls kj2 _ _ ab _ _ aa bk true _ (uC_ dp) ec.out (uC_ df) ee.out A45.out).mono ?_);rintro e w54 ⟨rfl,hb⟩;replace gf:=bb_ gf hb;replace fl:=bb_ fl hb;replace fa:=bb_ fa hb;replace HB:=hs_ (ld) hb;obtain⟨ik1,ik2,ik3,ik4⟩:=blk2_ gf;obtain⟨fn1,fn2,lb7,lb8,fn3,fn4,lb9,lc0⟩:=blk4_ fl)|(go_at_call 83;(refine(Gj.calls kj2 _ _ ab _ _ aa bn true _ (uC_ dp) ec.out (uC_ df) ee.out A47.out).mono ?_);rintro e w57 ⟨rfl,hb⟩;replace gf:=bb_ gf hb;replace fl:=bb_ fl hb;replace fa:=bb_ fa hb;replace HB:=hs_ (ld) hb;obtain⟨hd3,hd4,lc1,lc2,hd5,hd6,lc3,lc4⟩:=blk4_ fl))
   go_meet
   case rel=>exact⟨_,((bk != bn)),(g3_),H',⟨g155_⟩,⟨uB_ gf⟩,⟨uB_ fl⟩,⟨uB_ fa⟩,⟨ld⟩⟩
  replace c48:=Bool.eq_false_iff.mpr c48
  subst c48
  replace H:=ifn_ H
  have H':=A_ H
  clear H
  have hy6:=ay7.out
  have hy7:=ay6.out
  have lc5:=ai2.out
  have lc6:=ai3.out
  obtain⟨ik5,ik6,lc7,lc8,ik7,ik8,lc9,ld0⟩:=blk4_ fl
  have ey9:=as4.out
  have ez0:=as5.out
  obtain⟨es8,es9,et0,et1⟩:=blk2_ gf
  have MK83_0:=True.intro
  go_wp2_with (first|(clear MK83_0;go_at_call 83;(refine(Gj.calls kj2 _ _ ab _ _ aa bk true _ (uC_ dp) ec.out (uC_ df) ee.out A45.out).mono ?_);rintro e w64 ⟨rfl,hb⟩;replace gf:=bb_ gf hb;replace fl:=bb_ fl hb;replace fa:=bb_ fa hb;replace HB:=hs_ (ld) hb;obtain⟨hz1,hz2,hz3,hz4⟩:=blk2_ gf;obtain⟨ik9,il0,il1,ld1,il2,il3,il4,ld2⟩:=blk4_ fl)|(go_at_call 83;(refine(Gj.calls kj2 _ _ ab _ _ aa bn false _ (uC_ dp) ec.out (uC_ df) ee.out A47.out).mono ?_);rintro e w67 ⟨rfl,hb⟩;replace gf:=bb_ gf hb;replace fl:=bb_ fl hb;replace fa:=bb_ fa hb;replace HB:=hs_ (ld) hb))
  go_meet
  case rel=>exact⟨_,(false),(g3_),H',⟨g155_⟩,⟨uB_ gf⟩,⟨uB_ fl⟩,⟨uB_ fa⟩,⟨ld⟩⟩
 clear gh4
 obtain⟨kq,ey4,rfl,HA,HJ42,gf,fl,fa,HB⟩:=hcut
 cases kq with
 | zero=>exact absurd HA.out (by simp[Fs.j1])
 | succ kj42=>?_
 have H:=HA.out
 clear HA
 simp only[Fs.j1] at H
 by_cases c77:ey4=true
 case neg=>
  replace c77:=Bool.eq_false_iff.mpr c77
  subst c77
  replace H:=ifn_ H
  by_cases bf9:(b4 == 2 && (bk == 0 && (bn == 0 && (bw == 0))))=true
  ·rw[if_pos bf9] at H
   have lg5:(b4 == 2 && (bk == 0 && (bn == 0 && (bw == 0))))=true:=bf9
   (try(have lg6:decide (b4=2 && (bk == 0 && (bn == 0 && (bw == 0))))=true:=by simpa using bf9))
   (try(have lg7:(b4 == 2 && (bk == 0 && (bn == 0 && (bw == 0))))=true:=by simpa using bf9))
   clear bf9
   replace H:=Option.bind_eq_some_iff.mp H
   obtain⟨⟨dx9,ez4⟩,im2,H⟩:=H
   try dsimp only at H
   have lg8:=A_ im2
   clear im2
   simp only[Option.some.injEq,Prod.mk.injEq] at H
   obtain⟨rfl,rfl,rfl⟩:=H
   have lg9:=ay7.out
   have lh0:=ay6.out
   have ht7:=ai2.out
   have ht8:=ai3.out
   obtain⟨lh1,lh2,lh3,nn9,lh4,lh5,lh6,no0⟩:=blk4_ fl
   have no1:=as4.out
   have no2:=as5.out
   obtain⟨ia9,ib0,ib1,ib2⟩:=blk2_ gf
   go_wp2_with (first|((with_reducible refine gc_ 92 ?_);refine gl_ 78 Try.func92 #[.agg #[.slice ah ab.length af, .slice ao aa.length ai]] ?_;(refine(Fz.calls kj42 _ _ ab _ _ aa dx9 ez4 _ (uC_ dp) ec.out (uC_ df) ee.out lg8.out).mono ?_);rintro e kp2 ⟨no3,no4,rfl,ae,ax,hb⟩;refine⟨_,rfl,?_⟩;have im3:=A_ (Kd.R_lower ae (Gz (ld)));have im4:=A_ (Kd.S_lower ax (Gz (ld)));replace gf:=bb_ gf hb;replace fl:=bb_ fl hb;replace fa:=bb_ fa hb;replace HB:=hs_ (ld) hb;obtain⟨ez5,ez6,lh7⟩:=Kd.R_slice im3.out;subst lh7;obtain⟨kf5,kf6,kf7,kf8⟩:=blk2_ fa;obtain⟨rk,rl,fx1⟩:=Kd.S_slice im4.out;subst fx1))
   refine bodyPost_ret (Jm rfl _ _ ki 25 #[.slice ez5 dx9.length ez6, .slice rk ez4.length rl] (0,0) _ rfl (ba_ fa) Try.underlying25 rfl (g0_)) rfl ?_
   exact⟨_,_,g4_,ra_ im3,sa_ im4,ld⟩
  rw[if_neg bf9] at H
  have lg5:(b4 == 2 && (bk == 0 && (bn == 0 && (bw == 0))))=false:=by simpa using bf9
  (try(have lg6:decide (b4=2 && (bk == 0 && (bn == 0 && (bw == 0))))=false:=by simpa using bf9))
  (try(have lg7:(b4 == 2 && (bk == 0 && (bn == 0 && (bw == 0))))=false:=by simpa using bf9))
  (try(have no5:¬ (b4=2 && (bk == 0 && (bn == 0 && (bw == 0)))):=by simpa using bf9))
  clear bf9
  by_cases bg0:(b4 == 3 && (bk == 0 && (bn == 0 && (bw == 0))))=true
  ·rw[if_pos bg0] at H
   have lh8:(b4 == 3 && (bk == 0 && (bn == 0 && (bw == 0))))=true:=bg0
   (try(have lh9:decide (b4=3 && (bk == 0 && (bn == 0 && (bw == 0))))=true:=by simpa using bg0))
   (try(have li0:(b4 == 3 && (bk == 0 && (bn == 0 && (bw == 0))))=true:=by simpa using bg0))
   clear bg0
   replace H:=Option.bind_eq_some_iff.mp H
   obtain⟨⟨cq2,da8,li1⟩,im5,H⟩:=H
   try dsimp only at H
   have li2:=A_ im5
   clear im5
   simp only[Option.some.injEq,Prod.mk.injEq] at H
   obtain⟨rfl,rfl,rfl⟩:=H
   have no6:=ay7.out
   have no7:=ay6.out
   have kp7:=ai2.out
   have kp8:=ai3.out
   obtain⟨kp9,kq0,kq1,no8,kq2,kq3,kq4,no9⟩:=blk4_ fl
   have li3:=as4.out
   have li4:=as5.out
   obtain⟨np0,np1,np2,np3⟩:=blk2_ gf
   go_wp2_with (first|((with_reducible refine gc_ 99 ?_);refine gl_ 85 Try.func99 #[.agg #[.slice ah ab.length af, .slice ao aa.length ai]] ?_;(refine(Fe.calls kj42 _ _ ab _ _ aa cq2 da8 li1 _ (uC_ dp) ec.out (uC_ df) ee.out li2.out).mono ?_);rintro e im6 ⟨np4,np5,rfl,ae,ax,hb⟩;refine⟨_,rfl,?_⟩;have ez7:=A_ (Kd.R_lower ae (Gz (ld)));have ez8:=A_ (Kd.S_lower ax (Gz (ld)));replace gf:=bb_ gf hb;replace fl:=bb_ fl hb;replace fa:=bb_ fa hb;replace HB:=hs_ (ld) hb)|((with_reducible refine gd_ 8 ?_);refine bx_ (N:=8) #[.slice none 0 0, .slice none 0 0] 25 ?_;intro ay9 hg ke hbox hb;replace ez7:=rb_ ez7 hb;replace ez8:=sb_ ez8 hb;have gi4:=A_ (hbox);have np6:=A_ ((g31_:w.heap.size<=ay9));have la6:=np6;replace HB:=hs_ (ld) hb;have li5:=nl_ gf hg;have li6:=nr_ gf hg;replace gf:=bb_ gf hb;have li7:=nl_ fl hg;have li8:=nr_ fl hg;replace fl:=bb_ fl hb;have gi5:=nl_ fa hg;have li9:=nr_ fa hg;replace fa:=bb_ fa hb;clear hb hbox hg;obtain⟨dw,dx,da9⟩:=Kd.R_slice ez7.out;subst da9;have hu6:=li6.out;have hu7:=li5.out;have lj0:=li8.out;have lj1:=li7.out;have kg6:=li9.out;have kg7:=gi5.out;obtain⟨np7,np8,np9,nq0⟩:=blk2_ gi4;obtain⟨bl2,bl3,gi6⟩:=Kd.S_slice ez8.out;subst gi6;obtain⟨nq1,nq2,nq3,nq4⟩:=blk2_ fa))
   refine bodyPost_ret (Jm rfl _ _ ki 25 #[.slice dw cq2.length dx, .slice bl2 da8.length bl3] (0,0) _ rfl (ba_ fa) Try.underlying25 rfl (g0_)) rfl ?_
   exact⟨_,_,g4_,ra_ ez7,sa_ ez8,ld⟩
  rw[if_neg bg0] at H
  have lh8:(b4 == 3 && (bk == 0 && (bn == 0 && (bw == 0))))=false:=by simpa using bg0
  (try(have lh9:decide (b4=3 && (bk == 0 && (bn == 0 && (bw == 0))))=false:=by simpa using bg0))
  (try(have li0:(b4 == 3 && (bk == 0 && (bn == 0 && (bw == 0))))=false:=by simpa using bg0))
  (try(have nq5:¬ (b4=3 && (bk == 0 && (bn == 0 && (bw == 0)))):=by simpa using bg0))
  clear bg0
  simp only[Option.some.injEq,Prod.mk.injEq] at H
  obtain⟨rfl,rfl,rfl⟩:=H
  have lj2:=ay7.out
  have lj3:=ay6.out
  have hu8:=ai2.out
  have hu9:=ai3.out
  obtain⟨kg9,kh0,nq6,nq7,kh1,kh2,nq8,nq9⟩:=blk4_ fl
  have lj4:=as5.out
  have lj5:=as4.out
  obtain⟨lj6,lj7,lj8,lj9⟩:=blk2_ fa
  go_wp2
  refine bodyPost_ret (Jm rfl _ _ ki 25 #[.slice none 0 0, .slice none 0 0] (0,0) _ rfl (ba_ fa) Try.underlying25 rfl (g0_)) rfl ?_
  exact⟨_,_,g4_,g24_,g33_,ld⟩
 subst c77
 replace H:=ifp_ H
 replace H:=Option.bind_eq_some_iff.mp H
 obtain⟨⟨oo,oc⟩,il5,H⟩:=H
 try dsimp only at H
 have A78:=A_ il5
 clear il5
 obtain⟨il6,H⟩:=pd_ H
 obtain⟨nm0,H⟩:=pd_ H
 obtain⟨nm1,H⟩:=pd_ H
 obtain⟨nm2,H⟩:=pd_ H
 obtain⟨gi1,hyq⟩:∃y_:List Int,y_=((Jb oc bk).set (bn:Int).toNat bw):=⟨_,rfl⟩
 replace H:((some (oc.set (bk:Int).toNat gi1:List (List Int))).bind fun as3=>((Fi.f kj42 oo as3).bind fun cp7=>(some (oo,as3,cp7))))=some (r1,r2,r3):=qh_
 have ld9:=A_ hyq
 clear hyq
 obtain⟨as3,hyq⟩:∃y_:List (List Int),y_=(oc.set (bk:Int).toNat gi1):=⟨_,rfl⟩
 replace H:((Fi.f kj42 oo as3).bind fun cp7=>(some (oo,as3,cp7)))=some (r1,r2,r3):=qh_
 have le0:=A_ hyq
 clear hyq
 obtain⟨cp7,A84,H⟩:=bind_ H
 simp only[Option.some.injEq,Prod.mk.injEq] at H
 obtain⟨rfl,rfl,rfl⟩:=H
 have nm3:=ay6.out
 have nm4:=ay7.out
 have kn6:=as4.out
 have kn7:=as5.out
 obtain⟨kn8,kn9,ko0,ko1⟩:=blk2_ gf
 try go_wp2_with (first|((with_reducible refine gc_ 111 ?_);refine gl_ 58 Try.func111 #[.agg #[.slice ah ab.length af, .slice ao aa.length ai]] ?_;(refine(Fo.calls kj42 _ _ ab _ _ aa oo oc _ (uC_ dp) ec.out (uC_ df) ee.out A78.out).mono ?_);rintro e w88 ⟨nm5,nm6,rfl,ae,ax,hb⟩;refine⟨_,rfl,?_⟩;have xg:=A_ (Kd.R_lower ae (Gz (ld)));have rb:=A_ (Kd.S_lower ax (Gz (ld)));replace gf:=bb_ gf hb;replace fl:=bb_ fl hb;replace fa:=bb_ fa hb;replace HB:=hs_ (ld) hb)|((with_reducible refine gd_ 7 ?_);refine bx_ (N:=7) #[.slice none 0 0, .slice none 0 0] 25 ?_;intro nw hg w89 hbox hb;replace xg:=rb_ xg hb;replace rb:=sb_ rb hb;have tl:=A_ (hbox);have nm7:=A_ ((g31_:w.heap.size<=nw));have la5:=nm7;replace HB:=hs_ (ld) hb;have gi2:=nl_ gf hg;have le1:=nr_ gf hg;replace gf:=bb_ gf hb;have gi3:=nl_ fl hg;have le2:=nr_ fl hg;replace fl:=bb_ fl hb;have dx8:=nl_ fa hg;have cq1:=nr_ fa hg;replace fa:=bb_ fa hb;clear hb hbox hg;obtain⟨tm,tn,le3⟩:=Kd.R_slice xg.out;subst le3;have le4:=le1.out;have le5:=gi2.out;have le6:=le2.out;have le7:=gi3.out;have fz0:=cq1.out;have fz1:=dx8.out;obtain⟨le8,le9,lf0,lf1⟩:=blk2_ tl;obtain⟨ay8,xh,lf2⟩:=Kd.S_slice rb.out;subst lf2))
 generalize hw_:((w89.setCell ⟨nw,0,none⟩ (.slice tm oo.length tn)).setCell ⟨nw,1,none⟩ (.slice ay8 oc.length xh))=w96
 have n0_:Gx (Kd.R (Kd.int .i64) 3 w96 w.heap.size (fun _=>True) (.slice tm oo.length tn) oo):=A_ (by rw[<- hw_];exact ra_ xg)
 have n1_:Gx (Kd.S (Kd.slice 3 (Kd.int .i64)) 22 w96 w.heap.size (fun k_=>some k_≠(.slice tm oo.length tn:Value).ownBlock) (.slice ay8 oc.length xh) oc):=A_ (by rw[<- hw_];exact sa_ rb)
 have n2_:Gx (hc_ w96 yk #[.slice ah ab.length af, .slice ao aa.length ai] 25):=A_ (by rw[<- hw_];exact ba_ gf)
 have n3_:Gx (hc_ w96 tv #[.int .i64 b4, .int .i64 bk, .int .i64 bn, .int .i64 bw] 69):=A_ (by rw[<- hw_];exact ba_ fl)
 have n4_:Gx (hc_ w96 ki #[.slice none 0 0, .slice none 0 0] 25):=A_ (by rw[<- hw_];exact ba_ fa)
 have n5_:Gx (hc_ w96 nw #[.slice tm oo.length tn, .slice ay8 oc.length xh] 25):=A_ (by rw[<- hw_];exact ba_ tl)
 have n6_:Gx (Below w.heap.size w w96):=A_ (by rw[<- hw_];exact ld)
 clear hw_
 have xg:=n0_
 have rb:=n1_
 have gf:=n2_
 have fl:=n3_
 have fa:=n4_
 have tl:=n5_
 have HB:=n6_
 clear n0_ n1_ n2_ n3_ n4_ n5_ n6_
 replace xg:=rd_ xg
 replace rb:=sd_ rb
 replace gf:=bd_ gf
 replace fl:=bd_ fl
 replace fa:=bd_ fa
 replace tl:=bd_ tl
 replace HB:=A_ (G1 HB.out)
 have ez1:0<=(bk:Int):=od_
 have ez2:bk < (oc.length:Int):=od_
 obtain⟨bu3,nm8,lf3,lf4,ez3,il7,il8⟩:=at_L1 (Kd.S_reads' rb.out).2.2 bk ez1 ez2
 cases lf4
 obtain⟨ce469,hce469,hMe469,hcc469⟩:=Kd.S_get rb.out [] bk ez1 (by first|exact ez2|exact od_|(have e_:=(Kd.S_reads' rb.out).1;omega))
 obtain⟨ve469_0,rfl,ge469_0⟩:=hMe469
 have hv469_0:=hcc469 0 _ rfl
 rw[Nat.add_zero,show((Kd.slice 3 (Kd.int .i64))).sz=1 from rfl,Nat.mul_one] at hv469_0
 replace hv469_0:=Option.some.inj (hv469_0.symm.trans ez3)
 rw[hv469_0] at ge469_0
 have ce0:=A_ (show Kd.R (Kd.int .i64) 3 _ _ _ _ (Jb oc bk) from ge469_0)
 clear hv469_0 ge469_0
 have HX469_0:=A_ ez3
 clear hcc469 hce469
 have lf5:=A_ il8
 have nm9:=A_ il7
 clear il8 il7
 replace ez1:=eq_true ez1
 replace ez2:=eq_true ez2
 have p83:0<=(bn:Int):=od_
 have q83:(bn:Int) < (((Jb oc bk).length:Int):Int):=od_
 obtain⟨bl1,nn0,il9,im0,gl83,cl83,HG83⟩:=Kd.R_form ce0.out (by omega)
 (first|cases il9|(injection il9 with ea_ en_ ec_;(first|subst ea_|(injection ea_ with ea_;subst ea_));subst ec_;clear en_))
 have GB83:=A_ im0
 have GG83:=A_ HG83
 clear im0 gl83 HG83
 obtain⟨lf6,hf83_0⟩:=Kd.R_celln 0 ce0.out (bn:Int) p83 q83
 replace p83:=eq_true p83
 replace q83:=eq_true q83
 have hq98:(bk:Int) < (oc.length:Int):=(by have h_:(bk:Int) < ((oc.length:Int):Int):=od_;first|exact h_|(have e_:=(Kd.S_reads' rb.out).1;omega)|simpa only[List.length_set,List.length_set] using h_)
 obtain⟨oki98,ce98,hcl98,hM98,hcc98,hok98,hbk98⟩:=Kd.S_borrow rb.out [] (bk:Int) (od_) (by first|exact hq98|exact od_|(have e_:=(Kd.S_reads' rb.out).1;omega))
 obtain⟨ve98_0,rfl,ge98_0⟩:=hM98
 have hv98:=hcc98 0 _ rfl
 rw[Nat.add_zero,show((Kd.slice 3 (Kd.int .i64))).sz=1 from rfl,Nat.mul_one] at hv98
 replace hv98:=Option.some.inj (hv98.symm.trans HX469_0.out)
 subst hv98
 clear hcc98 hcl98
 replace ge98_0:=(show Kd.R (Kd.int .i64) 3 _ _ _ _ (Jb oc bk) from ge98_0)
 have HP98:=Kd.R_putg ge98_0 (bn:Int) bw
 rw[<- ld9.out] at HP98
 have HS98:=hbk98 HP98.2 (fun k_ e_=>by injection e_ with e_;subst e_;exact ge98_0.1 _ rfl) (x':=gi1) (Kd.M_row HP98.1)
 rw[<- le0.out] at HS98
 have HQ98:=A_ HS98
 clear HP98 HS98 hbk98 hok98
 refine start_ (n:=12) (S:=fun w'=>w'.cell? ⟨nw,0,none⟩=some (.slice tm oo.length tn)/\w'.cell? ⟨nw,1,none⟩=some (.slice (some bu3) oc.length xh)/\w'.cell? ⟨tv,0,none⟩=some (.int .i64 b4)/\w'.cell? ⟨tv,1,none⟩=some (.int .i64 bk)/\w'.cell? ⟨tv,2,none⟩=some (.int .i64 bn)/\w'.cell? ⟨tv,3,none⟩=some (.int .i64 bw)/\w'.cell? (bu3.add (bk).toNat)=some (.slice (some ⟨bl1,0,none⟩) (Jb oc bk).length lf3)) (ds:=[11]) (tl_ 12 0) (g0_) rfl (g0_) ⟨(Gy tl.out 0).trans rfl,(Gy tl.out 1).trans rfl,(Gy fl.out 0).trans rfl,(Gy fl.out 1).trans rfl,(Gy fl.out 2).trans rfl,(Gy fl.out 3).trans rfl,ez3⟩ (fun hHeld=>?_);refine Jl Fs.tab6 Fs.bits6 (fun HT_ HW_=>?_)
 generalize w96.drew=w97 at xg rb gf fl fa tl HB GG83 ce0 HQ98 lf5 HX469_0 hf83_0 ez3 lf6 hHeld |-
 refine pw_ 0 59 (tl_ 12 1) ?_
 refine pw_ 2 61 (tl_ 12 5) ?_
 refine pw_ 6 65 (tl_ 12 69) ?_
 refine pw_ 8 67 (tl_ 12 325) ?_
 refine tk4_ 1 60 (tl_ 12 327) hHeld ?_
 refine tk4_ 3 62 (tl_ 12 335) hHeld ?_
 refine pw_ 4 63 (tl_ 12 351) ?_
 refine tk4_ 5 64 (tl_ 12 383) hHeld ?_
 refine tk4_ 7 66 (tl_ 12 511) hHeld ?_
 refine tk4_ 9 68 (tl_ 12 1023) hHeld ?_
 refine pw_ 10 69 (tl_ 12 2047) ?_
 refine last_ (i:=11) (N:=none) (tl_ 12 4095) rfl rfl (Jn HT_.out (g0_)) (by decide) (fun K hK=>?_)
 refine skip_ (w1:=?_) (by rfl) rfl ?_ ?_
 rotate_left
 ·go_simp
  rfl
 refine hK.out _ _ ?_
 clear hK K
 refine done_ (done_of HT_.out (g0_)) ?_
 have n0_:Gx (Kd.R (Kd.int .i64) 3 (w97.setCell ⟨bl1,(bn:Int).toNat,none⟩ (.int .i64 bw)) w.heap.size (fun _=>True) (.slice tm oo.length tn) oo):=⟨by(with_reducible repeat(first|apply Kd.R_alloc|apply Kd.R_drewN|apply Kd.R_drew));exact Kd.R_mono (Kd.R_far (p:=⟨bl1,(bn:Int).toNat,none⟩) (Kd.R_far1 xg.out rfl ((ce0.out.1 _ rfl).1)) (fun _ hk=>hk.2) (.int .i64 bw)) (fun _ hk=>trivial)⟩
 have n1_:Gx (Kd.S (Kd.slice 3 (Kd.int .i64)) 22 (w97.setCell ⟨bl1,(bn:Int).toNat,none⟩ (.int .i64 bw)) w.heap.size (fun k_=>some k_≠(.slice tm oo.length tn:Value).ownBlock) (.slice (some bu3) oc.length xh) as3):=⟨uS_ HQ98⟩
 have n2_:Gx ((w97.setCell ⟨bl1,(bn:Int).toNat,none⟩ (.int .i64 bw)).heap[yk]? = some (.cells #[.slice ah ab.length af, .slice ao aa.length ai] 25 (0,0))):=⟨by(with_reducible repeat(first|refine G5 ?_ _|refine G6 ?_|refine G4 ?_ _));refine Je ?_ (by have h_:=Kd.R_ne ce0.out gf.out (by decide);intro e_;exact h_ (g6_)) _;exact uB_ gf⟩
 have n3_:Gx ((w97.setCell ⟨bl1,(bn:Int).toNat,none⟩ (.int .i64 bw)).heap[tv]? = some (.cells #[.int .i64 b4, .int .i64 bk, .int .i64 bn, .int .i64 bw] 69 (0,0))):=⟨by(with_reducible repeat(first|refine G5 ?_ _|refine G6 ?_|refine G4 ?_ _));refine Je ?_ (by have h_:=Kd.R_ne ce0.out fl.out (by decide);intro e_;exact h_ (g6_)) _;exact uB_ fl⟩
 have n4_:Gx ((w97.setCell ⟨bl1,(bn:Int).toNat,none⟩ (.int .i64 bw)).heap[ki]? = some (.cells #[.slice none 0 0, .slice none 0 0] 25 (0,0))):=⟨by(with_reducible repeat(first|refine G5 ?_ _|refine G6 ?_|refine G4 ?_ _));refine Je ?_ (by have h_:=Kd.R_ne ce0.out fa.out (by decide);intro e_;exact h_ (g6_)) _;exact uB_ fa⟩
 have n5_:Gx ((w97.setCell ⟨bl1,(bn:Int).toNat,none⟩ (.int .i64 bw)).heap[nw]? = some (.cells #[.slice tm oo.length tn, .slice (some bu3) oc.length xh] 25 (0,0))):=⟨by(with_reducible repeat(first|refine G5 ?_ _|refine G6 ?_|refine G4 ?_ _));refine Je ?_ (by have h_:=Kd.R_ne ce0.out tl.out (by decide);intro e_;exact h_ (g6_)) _;exact uB_ tl⟩
 have n6_:Gx (Below w.heap.size w (w97.setCell ⟨bl1,(bn:Int).toNat,none⟩ (.int .i64 bw))):=⟨ld⟩
 generalize (w97.setCell ⟨bl1,(bn:Int).toNat,none⟩ (.int .i64 bw))=ia8 at n0_ n1_ n2_ n3_ n4_ n5_ n6_ |-
 have xg:=n0_
 have rb:=n1_
 have gf:=n2_
 have fl:=n3_
 have fa:=n4_
 have tl:=n5_
 have HB:=n6_
 clear n0_ n1_ n2_ n3_ n4_ n5_ n6_
 try go_wp2
 replace xg:=rd_ xg
 replace rb:=sd_ rb
 replace gf:=bd_ gf
 replace fl:=bd_ fl
 replace fa:=bd_ fa
 replace tl:=bd_ tl
 replace HB:=A_ (G1 HB.out)
 refine start_ (n:=5) (S:=fun w'=>w'.cell? ⟨nw,0,none⟩=some (.slice tm oo.length tn)/\w'.cell? ⟨nw,1,none⟩=some (.slice (some bu3) oc.length xh)) (ds:=[]) (tl_ 5 0) (g0_) rfl (g0_) ⟨(Gy tl.out 0).trans rfl,(Gy tl.out 1).trans rfl⟩ (fun hHeld=>?_)
 generalize ia8.drew=ko8 at xg rb gf fl fa tl HB hHeld |-
 refine take_ (i:=0) (N:=some 70) (v:=?_) (a':=?_) (tl_ 5 1) rfl rfl (g0_) (fun _ _ _ h=>h) (Or.inl ⟨by rfl,?_⟩) hHeld ?_ ?_
 rotate_left
 ·rintro w' ⟨s0,s1⟩
  go_simp
  with_reducible rfl
 rotate_left
 · exact sp_
 refine take_ (i:=1) (N:=some 71) (v:=?_) (a':=?_) (tl_ 5 3) rfl rfl (g0_) (fun _ _ _ h=>h) (Or.inl ⟨by rfl,?_⟩) hHeld ?_ ?_
 rotate_left
 ·rintro w' ⟨s0,s1⟩
  go_simp
  with_reducible rfl
 rotate_left
 · exact sp_
 refine one_ (i:=2) (N:=some 72) (tl_ 5 7) rfl rfl (g0_) (by decide) (fun K hK=>?_)
 refine goes_ Try.func73 (g0_) rfl #[.agg #[.slice tm oo.length tn, .slice (some bu3) as3.length xh]] (by rfl) rfl rfl (by(try simp only[List.map_toArray,List.map_cons,List.map_nil]);first|done|(rw[show as3.length=oc.length from(Kd.S_reads' rb.out).1.symm] <;> rfl)|rfl|(simp only[List.length_drop,List.length_take];rfl)) ?_
 with_reducible refine(Fi.calls kj42 _ _ oo _ _ as3 cp7 _ ?side1 ?side2 ?side3 ?side4 A84.out).mono ?_
 (case side1=>exact cR_ xg)
 (case side2=>exact lR_ xg)
 (case side3=>exact cS_ rb)
 (case side4=>rw[show as3.length=oc.length from(Kd.S_reads' rb.out).1.symm];exact(Kd.S_reads' rb.out).2.1)
 rintro e im1 ⟨rfl,hb⟩
 refine⟨_,rfl,?_⟩
 replace xg:=rb_ xg hb
 replace rb:=sb_ rb hb
 replace gf:=bb_ gf hb
 replace fl:=bb_ fl hb
 replace fa:=bb_ fa hb
 replace tl:=bb_ tl hb
 replace HB:=hs_ (ld) hb
 refine hK.out _ _ ⟨(Gy tl.out 0).trans rfl,(Gy tl.out 1).trans rfl⟩ (fun hHeld=>?_)
 clear hK K
 refine nm_ ?_
 refine one_ (i:=3) (N:=none) (tl_ 5 15) rfl rfl (g0_) (by decide) (fun K hK=>?_)
 have nn1:im1.cell? ⟨ki,0,none⟩=some (.slice none 0 0):=(Gy fa.out 0).trans rfl
 have nn2:=G7 fa.out 0
 have nn4:=ai2.out
 have nn5:=cq1.out
 have nn7:=ai3.out
 have nn8:=dx8.out
 have lf7:im1.cell? ⟨ki,1,none⟩=some (.slice none 0 0):=(Gy fa.out 1).trans rfl
 have lf8:=G7 fa.out 1
 refine skip_ (w1:=?_) (by rfl) rfl ?_ ?_
 rotate_left
 ·go_simp
  rfl
 refine hK.out _ _ ⟨(cf_ cq1 ((cf_ cq1 (hHeld.1)))),(cf_ cq1 ((cf_ cq1 (hHeld.2))))⟩ (fun hHeld=>?_)
 clear hK K
 refine pure_ (i:=4) (N:=some 5) (v:=?_) (a':=?_) (tl_ 5 31) rfl rfl (g0_) (fun _ _ _ h=>h) (Or.inl ⟨by rfl,?_⟩) ?_ ?_
 rotate_left
 ·intro w'
  go_simp
  with_reducible rfl
 rotate_left
 · exact sp_
 refine done_ (g0_) ?_
 try go_wp2
 refine bodyPost_ret (Jm rfl _ _ ki 25 #[.slice tm oo.length tn, .slice (some bu3) oc.length xh] (0,0) _ rfl (ba_ fa) Try.underlying25 rfl (g0_)) rfl ?_
 exact⟨_,_,g4_,ra_ xg,sa_ rb,ld⟩
def Fx.l0:Nat->List Int->List Int->Int->Int->Option (Bool)
 | 0,_,_,_,_=>none
 | k + 1,x0,x1,x12,nh=>if nh < x12 then(if 0<=nh then(if nh < (x0.length:Int) then(if nh < (x1.length:Int) then(if (rd x0 nh)=(rd x1 nh) then(Fx.l0 k x0 x1 x12 (wrap64 (nh + 1))) else(some false)) else(none)) else(none)) else(none)) else(some true)
def Fx.f (k:Nat) (l0:List Int) (l1:List Int):Option (Bool):=if (l0.length:Int)=(l1.length:Int) then(Fx.l0 k l0 l1 (l0.length:Int) 0) else(some false)
set_option maxHeartbeats 8000000 in
set_option maxRecDepth 100000 in
theorem Fx.calls (k:Nat) (A0:Option Addr) (c0:Nat) (l0:List Int) (A1:Option Addr) (c1:Nat) (l1:List Int) (r:Bool) (w:World) (gq:Kd.C (Kd.int .i64) w A0 l0.length l0) (i2:l0.length<=c0) (k0:Kd.C (Kd.int .i64) w A1 l1.length l1) (lh:l1.length<=c1) (h:Fx.f k l0 l1=some r) :
  Calls Try.prog 131 #[.slice A0 l0.length c0, .slice A1 l1.length c1] w fun e w'=>e = .returned (.bool r)/\Drawn0 w w':=by
 have ks:=A_ gq
 have uc:=A_ i2
 clear gq i2
 have i8:=A_ k0
 have HC1:=A_ lh
 clear k0 lh
 have H:=h
 unfold Fx.f at H
 clear h
 by_cases c3:(l0.length:Int)=(l1.length:Int)
 case neg=>
  rw[if_neg c3] at H
  have nt:((l0.length:Int) == (l1.length:Int))=false:=beq_eq_false_iff_ne.mpr c3
  have xz:((l0.length:Int) != (l1.length:Int))=true:=bne_iff_ne.mpr c3
  have ac8:(l0.length == l1.length)=false:=by first|simpa using c3|(simp at c3 |-;omega)
  obtain rfl:=Option.some.inj H
  go_enter Try.func131,Try.ntmps131
  go_wp2
  repeat(go_quiet (fail);try go_wp2)
  go_ret
  exact⟨g3_,g5_⟩
 rw[if_pos c3] at H
 have nt:((l0.length:Int) == (l1.length:Int))=true:=beq_iff_eq.mpr c3
 have xz:((l0.length:Int) != (l1.length:Int))=false:=bne_eq_false_iff_eq.mpr c3
 have ac8:(l0.length == l1.length)=true:=by first|simpa using c3|(simp at c3 |-;omega)
 clear c3
 have H':=A_ H
 clear H
 go_enter Try.func131,Try.ntmps131
 go_wp2
 repeat(go_quiet (fail);try go_wp2)
 go_loopg [13] k (fun kq v13 w'=>∃(cw:Int),v13 = .int .i64 cw/\Gx (Fx.l0 kq l0 l1 (l0.length:Int) cw=some r)/\Gx (kq<=k)/\Drawn0 w w')
 case atStart=>exact⟨(0),(g3_),H',⟨Nat.le_refl _⟩,g5_⟩
 clear H'
 obtain⟨cw,rfl,HA,HK1,⟨m1,rfl⟩⟩:=hrel
 cases gk with
 | zero=>exact absurd HA.out (by simp[Fx.l0])
 | succ k1=>?_
 have H:=HA.out
 clear HA
 simp only[Fx.l0] at H
 by_cases c4:cw < (l0.length:Int)
 case neg=>
  rw[if_neg c4] at H
  have qh:=decide_eq_false c4
  clear c4
  obtain rfl:=Option.some.inj H
  go_wp2
  repeat(go_quiet (fail);try go_wp2)
  go_ret
  exact⟨g3_,g5_⟩
 rw[if_pos c4] at H
 have qh:=decide_eq_true c4
 clear c4
 obtain⟨j9,H⟩:=pd_ H
 obtain⟨qu,H⟩:=pd_ H
 obtain⟨aa6,H⟩:=pd_ H
 by_cases c8:(rd l0 cw)=(rd l1 cw)
 ·rw[if_pos c8] at H
  have ag8:((rd l0 cw) == (rd l1 cw))=true:=beq_iff_eq.mpr c8
  have cc2:((rd l0 cw) != (rd l1 cw))=false:=bne_eq_false_iff_eq.mpr c8
  clear c8
  have H':=A_ H
  clear H
  obtain⟨⟨lk0,gi7,lk1⟩,cq3,cq4⟩:=rdp_ (Kd.at_int ks.out cw)
  cases gi7
  obtain⟨⟨lk2,gi8,lk3⟩,cq5,cq6⟩:=rdp_ (Kd.at_int i8.out cw)
  cases gi8
  go_wp2
  repeat(go_quiet (fail);try go_wp2)
  go_roundg k1
  case measure=>have:=HK1.out;omega
  case rel=>exact⟨(wrap64 (cw + 1)),(g3_),H',⟨g17_⟩,g5_⟩
 rw[if_neg c8] at H
 have ag8:((rd l0 cw) == (rd l1 cw))=false:=beq_eq_false_iff_ne.mpr c8
 have cc2:((rd l0 cw) != (rd l1 cw))=true:=bne_iff_ne.mpr c8
 obtain rfl:=Option.some.inj H
 obtain⟨⟨lk0,gi7,lk1⟩,cq3,cq4⟩:=rdp_ (Kd.at_int ks.out cw)
 cases gi7
 obtain⟨⟨lk2,gi8,lk3⟩,cq5,cq6⟩:=rdp_ (Kd.at_int i8.out cw)
 cases gi8
 go_wp2
 repeat(go_quiet (fail);try go_wp2)
 go_ret
 exact⟨g3_,g5_⟩
def F9.el (k:Nat):List (List Int)->List (List Int)->Option Bool
 | x :: r,y :: s=>(Fx.f k x y).bind fun t=>if t=true then F9.el k r s else some false
 | _,_=>some true
def F9.f (k:Nat) (l0:List (List Int)) (l1:List (List Int)):Option (Bool):=if (l0.length:Int)=(l1.length:Int) then F9.el k l0 l1 else some false
theorem F9.at {w:World} {A:Option Addr} {n:Nat} {xs:List (List Int)} (h:Kd.C (Kd.slice 3 (Kd.int .i64)) w A n xs) (j:Nat) (hj:j < n) :
  ∃ad A0 c0,A=some ad/\w.cell? (ad.add j)=some (.slice A0 (xs.getD j []).length c0)/\(xs.getD j []).length<=c0/\(Kd.int .i64).C w A0 (xs.getD j []).length (xs.getD j []):=by
 obtain⟨ad,c,rfl,hcl,⟨A0,c0,rfl,hl,hC⟩,hcc⟩:=Kd.C_get h [] (j:Int) (by omega) (by omega)
 refine⟨ad,A0,c0,rfl,?_,hl,hC⟩
 have:=hcc 0 _ rfl
 have hs:(Kd.slice 3 (Kd.int .i64)).sz=1:=rfl
 rw[hs] at this
 simpa using this
set_option maxHeartbeats 4000000 in
set_option maxRecDepth 100000 in
theorem F9.calls (k:Nat) (A0:Option Addr) (c0:Nat) (l0:List (List Int)) (A1:Option Addr) (c1:Nat) (l1:List (List Int)) (r:Bool) (w:World) (gq:Kd.C (Kd.slice 3 (Kd.int .i64)) w A0 l0.length l0) (i2:l0.length<=c0) (k0:Kd.C (Kd.slice 3 (Kd.int .i64)) w A1 l1.length l1) (lh:l1.length<=c1) (h:F9.f k l0 l1=some r) :
  Calls Try.prog 132 #[.slice A0 l0.length c0, .slice A1 l1.length c1, .func (.func 131) #[] #[]] w fun e w'=>e = .returned (.bool r)/\Drawn0 w w':=by
 have hn:l0.length<=9223372036854775807:=gq.2.1
 have ks:=A_ gq
 have i8:=A_ k0
 clear gq k0
 unfold F9.f at h
 by_cases hl:(l0.length:Int)=(l1.length:Int)
 case neg=>
  rw[if_neg hl] at h
  obtain rfl:=Option.some.inj h
  have nt:((l0.length:Int) == (l1.length:Int))=false:=beq_eq_false_iff_ne.mpr hl
  have xz:((l0.length:Int) != (l1.length:Int))=true:=bne_iff_ne.mpr hl
  have ac8:(l0.length == l1.length)=false:=by first|simpa using hl|(simp at hl |-;omega)
  clear h hl
  go_enter Try.func132,Try.ntmps132
  go_wp2
  repeat(go_quiet (fail);try go_wp2)
  go_ret
  exact⟨rfl,g5_⟩
 rw[if_pos hl] at h
 have H:=A_ h
 have nt:((l0.length:Int) == (l1.length:Int))=true:=beq_iff_eq.mpr hl
 have xz:((l0.length:Int) != (l1.length:Int))=false:=bne_eq_false_iff_eq.mpr hl
 have ac8:(l0.length == l1.length)=true:=by first|simpa using hl|(simp at hl |-;omega)
 have HL:Gx (l1.length=l0.length):=⟨by omega⟩
 clear h hl
 go_enter Try.func132,Try.ntmps132
 go_wp2
 repeat(go_quiet (fail);try go_wp2)
 go_loopg [17] (l0.length) (fun kq v17 w'=>∃j:Nat,kq + j=l0.length/\v17 = .int .i64 j/\Gx (F9.el k (l0.drop j) (l1.drop j)=some r)/\Drawn0 w w')
 case atStart=>exact⟨0,by omega,rfl,⟨H.out⟩,g5_⟩
 clear H
 obtain⟨j,hj,rfl,HA,⟨m1,rfl⟩⟩:=hrel
 by_cases hlt:j < l0.length
 case neg=>
  obtain rfl:j=l0.length:=by omega
  have hr:Gx (true=r):=⟨by
   have:=HA.out
   rw[List.drop_of_length_le (Nat.le_refl _)] at this
   simp only[F9.el] at this
   exact Option.some.inj this⟩
  have qh:decide ((l0.length:Int) < (l0.length:Int))=false:=decide_eq_false (by omega)
  clear HA
  go_wp2
  repeat(go_quiet (fail);try go_wp2)
  go_ret
  exact⟨by rw[<- hr.out];try rfl,g5_⟩
 obtain⟨k1,rfl⟩:∃k1,gk=k1 + 1:=⟨gk - 1,by omega⟩
 have hd0:l0.drop j=l0.getD j [] :: l0.drop (j + 1):=by
  rw[List.drop_eq_getElem_cons hlt];simp[List.getD_eq_getElem?_getD,List.getElem?_eq_getElem hlt]
 have hlt1:j < l1.length:=by rw[HL.out];exact hlt
 have hd1:l1.drop j=l1.getD j [] :: l1.drop (j + 1):=by
  rw[List.drop_eq_getElem_cons hlt1];simp[List.getD_eq_getElem?_getD,List.getElem?_eq_getElem hlt1]
 have HX:=HA.out
 rw[hd0,hd1] at HX
 simp only[F9.el] at HX
 clear HA
 obtain⟨ad0,B0,b0,e0,hx0,hm0,hi0⟩:=F9.at ks.out j hlt
 obtain⟨ad1,B1,b1,e1,hx1,hm1,hi1⟩:=F9.at i8.out j hlt1
 cases e0
 cases e1
 have HI0:=A_ hi0
 have HI1:=A_ hi1
 have p5:(0<=(j:Int))=True:=eq_true (by omega)
 have q5:((j:Int) < (l0.length:Int))=True:=eq_true (by omega)
 have q6:((j:Int) < (l1.length:Int))=True:=eq_true (by have:=HL.out;omega)
 have qh:decide ((j:Int) < (l0.length:Int))=true:=decide_eq_true (by omega)
 clear hi0 hi1 hd0 hd1
 generalize l0.getD j []=x at hx0 hm0 HI0 HX
 generalize l1.getD j []=y at hx1 hm1 HI1 HX
 obtain⟨t,hT,HX⟩:=Option.bind_eq_some_iff.mp HX
 have HT:=A_ hT
 clear hT
 have hx0':w.cell? (ad0.add j)=some (.slice B0 x.length b0):=hx0
 have hx1':w.cell? (ad1.add j)=some (.slice B1 y.length b1):=hx1
 by_cases ht:t=true
 ·subst ht
  rw[if_pos rfl] at HX
  have HX':=A_ HX
  clear HX
  go_wp2_with (go_at_call 131;refine(Fx.calls k _ _ x _ _ y true _ ?s1 ?s2 ?s3 ?s4 HT.out).mono ?_;(case s1=>repeat(first|exact HI0.out|(with_reducible refine Kd.C_drewN ?_ _)|(with_reducible refine Kd.C_drew ?_)));(case s2=>exact hm0);(case s3=>repeat(first|exact HI1.out|(with_reducible refine Kd.C_drewN ?_ _)|(with_reducible refine Kd.C_drew ?_)));(case s4=>exact hm1);rintro e w9 ⟨rfl,⟨nd,rfl⟩⟩)
  go_roundg k1
  case measure=>omega
  case rel=>exact⟨j + 1,by omega,by go_num,HX',g150_⟩
 obtain rfl:t=false:=by simpa using ht
 rw[if_neg (by decide)] at HX
 obtain rfl:=Option.some.inj HX
 clear HX ht
 go_wp2_with (go_at_call 131;refine(Fx.calls k _ _ x _ _ y false _ ?s1 ?s2 ?s3 ?s4 HT.out).mono ?_;(case s1=>repeat(first|exact HI0.out|(with_reducible refine Kd.C_drewN ?_ _)|(with_reducible refine Kd.C_drew ?_)));(case s2=>exact hm0);(case s3=>repeat(first|exact HI1.out|(with_reducible refine Kd.C_drewN ?_ _)|(with_reducible refine Kd.C_drew ?_)));(case s4=>exact hm1);rintro e w9 ⟨rfl,⟨nd,rfl⟩⟩)
 go_ret
 exact⟨rfl,g150_⟩
def Gs.f (k:Nat) (ab:List Int) (aa:List (List Int)) (cm:List Int) (cx:List (List Int)):Option (Bool):=(Fx.f k ab cm).bind fun dy0=>(if dy0=true then((F9.f k aa cx).bind fun dy1=>(some dy1)) else(some false))
theorem bw7 {p:Prop} (h:p:=by repeat(first|(with_reducible first|exact HB.out|apply G3|apply G2|apply G1|refine G0 ?_ im7.out|refine G0 ?_ im8.out)|exact HB.out)):p:=h
set_option maxHeartbeats 8000000 in
set_option maxRecDepth 100000 in
theorem Gs.calls (k:Nat) (ah:Option Addr) (af:Nat) (ab:List Int) (ao:Option Addr) (ai:Nat) (aa:List (List Int)) (ff:Option Addr) (fj:Nat) (cm:List Int) (fx:Option Addr) (fy:Nat) (cx:List (List Int)) (r:Bool) (w:World) (d4:Kd.C (Kd.int .i64) w ah ab.length ab) (d9:ab.length<=af) (d5:Kd.C (Kd.slice 3 (Kd.int .i64)) w ao aa.length aa) (ea:aa.length<=ai) (zt:Kd.C (Kd.int .i64) w ff cm.length cm) (zu:cm.length<=fj) (zv:Kd.C (Kd.slice 3 (Kd.int .i64)) w fx cx.length cx) (zw:cx.length<=fy) (h:Gs.f k ab aa cm cx=some r) :
  Calls Try.prog 124 #[.agg #[.slice ah ab.length af, .slice ao aa.length ai], .agg #[.slice ff cm.length fj, .slice fx cx.length fy]] w fun e w'=>e = .returned (.bool r)/\Below w.heap.size w w':=by
 have hu25:=Try.underlying25
 have dp:=A_ d4
 have ec:=A_ d9
 clear d4 d9
 have df:=A_ d5
 have ee:=A_ ea
 clear d5 ea
 have ao5:=A_ zt
 have ba2:=A_ zu
 clear zt zu
 have ba3:=A_ zv
 have bm2:=A_ zw
 clear zv zw
 have HB:=A_ (Below.refl w.heap.size w)
 have H:=h
 unfold Gs.f at H
 clear h
 obtain⟨dy0,A3,H⟩:=bind_ H
 by_cases c4:dy0=true
 ·subst c4
  replace H:=ifp_ H
  obtain⟨dy1,A5,H⟩:=bind_ H
  obtain rfl:=Option.some.inj H
  go_enter Try.func124,Try.ntmps124
  go_wp2_with (first|((with_reducible refine gd_ 2 ?_);refine bx_ (N:=2) #[.slice ah ab.length af, .slice ao aa.length ai] 25 ?_;intro as6 hg w6 hbox hb;have bg1:=A_ (hbox);have lk4:=A_ ((g53_:w.heap.size<=as6));have im7:=lk4;replace HB:=hs_ (bw7) hb;clear hb hbox hg)|((with_reducible refine gd_ 3 ?_);refine bx_ (N:=3) #[.slice ff cm.length fj, .slice fx cx.length fy] 25 ?_;intro bu4 hg w7 hbox hb;have gi9:=A_ (hbox);have lk5:=A_ ((g53_:w.heap.size<=bu4));have im8:=lk5;replace HB:=hs_ (bw7) hb;have gj0:=nl_ bg1 hg;have gj1:=nr_ bg1 hg;replace bg1:=bb_ bg1 hb;clear hb hbox hg;have ef6:=gj0.out;have ef7:=gj1.out;obtain⟨at5,at6,at7,at8⟩:=blk2_ bg1;obtain⟨aj7,aj8,aj9,ak0⟩:=blk2_ gi9)|((with_reducible refine gc_ 131 ?_);refine gl_ 9 Try.func131 #[.slice ah ab.length af, .slice ff cm.length fj] ?_;(refine(Fx.calls k _ _ ab _ _ cm true _ (uC_ dp) ec.out (uC_ ao5) ba2.out A3.out).mono ?_);rintro e w' ⟨rfl,⟨nd,rfl⟩⟩;refine⟨_,rfl,?_⟩)|(go_at_call 132;(refine(F9.calls k _ _ aa _ _ cx dy1 _ (cu_ (Kd.C_below df.out (bw7))) ee.out (cu_ (Kd.C_below ba3.out (bw7))) bm2.out A5.out).mono ?_);rintro e w' ⟨rfl,⟨nd,rfl⟩⟩))
  go_ret
  exact⟨g4_,bw7⟩
 replace c4:=Bool.eq_false_iff.mpr c4
 subst c4
 replace H:=ifn_ H
 obtain rfl:=Option.some.inj H
 go_enter Try.func124,Try.ntmps124
 go_wp2_with (first|((with_reducible refine gd_ 2 ?_);refine bx_ (N:=2) #[.slice ah ab.length af, .slice ao aa.length ai] 25 ?_;intro as6 hg w11 hbox hb;have bg1:=A_ (hbox);have lk4:=A_ ((g53_:w.heap.size<=as6));have im7:=lk4;replace HB:=hs_ (bw7) hb;clear hb hbox hg)|((with_reducible refine gd_ 3 ?_);refine bx_ (N:=3) #[.slice ff cm.length fj, .slice fx cx.length fy] 25 ?_;intro bu4 hg w12 hbox hb;have gi9:=A_ (hbox);have lk5:=A_ ((g53_:w.heap.size<=bu4));have im8:=lk5;replace HB:=hs_ (bw7) hb;have gj0:=nl_ bg1 hg;have gj1:=nr_ bg1 hg;replace bg1:=bb_ bg1 hb;clear hb hbox hg;have cu5:=gj0.out;have cu6:=gj1.out;obtain⟨xv,xw,xx,xy⟩:=blk2_ bg1;obtain⟨bw8,bw9,bx0,bx1⟩:=blk2_ gi9)|((with_reducible refine gc_ 131 ?_);refine gl_ 9 Try.func131 #[.slice ah ab.length af, .slice ff cm.length fj] ?_;(refine(Fx.calls k _ _ ab _ _ cm false _ (uC_ dp) ec.out (uC_ ao5) ba2.out A3.out).mono ?_);rintro e w' ⟨rfl,⟨nd,rfl⟩⟩;refine⟨_,rfl,?_⟩))
 go_ret
 exact⟨g4_,bw7⟩
attribute [local go_sem high] eqA69
def F6.j0:Nat->Bool->List Int->List (List Int)->List (S25)->List Int->List (List Int)->Option (List Int × (List (List Int)) × (List (S25)) × Bool)
 | 0,_,_,_,_,_,_=>none
 | k + 1,x48,im9,in0,gj2,in1,in2=>if x48=true then(some (im9,in0,gj2,false)) else(if gj2.length < 2932031007402 then((some (gj2 ++ [(⟨im9,in0⟩:S25)]:List (S25))).bind fun yl=>(if (yl.length:Int) > 8 then(if 1<=(yl.length:Int) then((Fp.f k in1 in2 (yl.drop (1:Int).toNat)).bind fun bt536=>(some (bt536.1,bt536.2.1,bt536.2.2,true))) else(none)) else((Fp.f k in1 in2 yl).bind fun bt545=>(some (bt545.1,bt545.2.1,bt545.2.2,true))))) else(none))
def F6.f (k:Nat) (ab:List Int) (aa:List (List Int)) (av:List (S25)) (b4:Int) (bk:Int) (bn:Int) (bw:Int):Option (List Int × (List (List Int)) × (List (S25)) × Bool):=(Fp.f k ab aa av).bind fun bt497=>(if (b4 == 4 && (bk == 0 && (bn == 0 && (bw == 0))))=true then(if (wrap64 ((bt497.2.2.length:Int) - 1)) < 0 then(some (bt497.1,bt497.2.1,bt497.2.2,false)) else(if 0<=(wrap64 ((bt497.2.2.length:Int) - 1)) then(if (wrap64 ((bt497.2.2.length:Int) - 1)) < (bt497.2.2.length:Int) then(if (wrap64 ((bt497.2.2.length:Int) - 1))<=(bt497.2.2.length:Int) then((Fp.f k ((Jc bt497.2.2 (wrap64 ((bt497.2.2.length:Int) - 1))).f0) ((Jc bt497.2.2 (wrap64 ((bt497.2.2.length:Int) - 1))).f1) (bt497.2.2.take ((wrap64 ((bt497.2.2.length:Int) - 1)):Int).toNat)).bind fun bt512=>(some (bt512.1,bt512.2.1,bt512.2.2,true))) else(none)) else(none)) else(none))) else((Fs.f k ab aa b4 bk bn bw).bind fun bt521=>(if bt521.2.2=true then((Gs.f k bt521.1 bt521.2.1 ab aa).bind fun db0=>(F6.j0 k db0 bt497.1 bt497.2.1 bt497.2.2 bt521.1 bt521.2.1)) else(F6.j0 k true bt497.1 bt497.2.1 bt497.2.2 bt521.1 bt521.2.1))))
def F6.T6:Bool × List (List Nat × List Nat):=(true,[([],[]),([0],[0]),([],[]),([1,2],[1,2]),([3],[3]),([],[]),([5],[5]),([],[]),([6,7],[6,7]),([4,8],[4,8]),([9],[9]),([10,10,0,1,2,3,4,5,6,7,8,9,10],[10]),([11,0,1,2,3,4,5,6,7,8,9,10,11],[])])
def F6.B6:List Nat:=[0,1,0,7,15,0,32,0,224,511,1023,2047,4095]
theorem F6.tab6:rtab .any (opsOf Try.f102 6)=F6.T6:=by kernel_rfl
theorem F6.bits6:waitsOk F6.T6.2 F6.B6=true:=by kernel_rfl
theorem ir {p:Prop} (h:p:=by repeat(first|(with_reducible first|exact HB.out|apply G3|apply G2|apply G1|refine G0 ?_ gj3.out|refine G0 ?_ gj4.out|refine G0 ?_ gj5.out|refine G0 ?_ gj6.out|refine G0 ?_ lk6.out)|exact HB.out)):p:=h
set_option maxHeartbeats 8000000 in
set_option maxRecDepth 100000 in
theorem F6.calls (k:Nat) (ah:Option Addr) (af:Nat) (ab:List Int) (ao:Option Addr) (ai:Nat) (aa:List (List Int)) (cy:Option Addr) (cu:Nat) (av:List (S25)) (b4:Int) (bk:Int) (bn:Int) (bw:Int) (r1:List Int) (r2:List (List Int)) (r3:List (S25)) (r4:Bool) (w:World) (d4:Kd.C (Kd.int .i64) w ah ab.length ab) (d9:ab.length<=af) (d5:Kd.C (Kd.slice 3 (Kd.int .i64)) w ao aa.length aa) (ea:aa.length<=ai) (l6:Kd.C k25 w cy av.length av) (l7:av.length<=cu) (h:F6.f k ab aa av b4 bk bn bw=some (r1,r2,r3,r4)) :
  Calls Try.prog 102 #[.agg #[.slice ah ab.length af, .slice ao aa.length ai, .slice cy av.length cu], .agg #[.int .i64 b4, .int .i64 bk, .int .i64 bn, .int .i64 bw]] w fun e w'=>∃v0_ v1_ v2_:Value,e = .returned (.tuple #[.agg #[v0_,v1_,v2_], .bool r4])/\Kd.R (Kd.int .i64) 3 w' w.heap.size (fun _=>True) v0_ r1/\Kd.S (Kd.slice 3 (Kd.int .i64)) 22 w' w.heap.size (fun k_=>some k_≠(v0_:Value).ownBlock) v1_ r2/\Kd.R k25 25 w' w.heap.size (fun k_=>some k_≠(v0_:Value).ownBlock/\some k_≠(v1_:Value).ownBlock) v2_ r3/\Below w.heap.size w w':=by
 have hu28:=Try.underlying28
 have hu69:=Try.underlying69
 have hu25:=Try.underlying25
 have dp:=A_ d4
 have ec:=A_ d9
 clear d4 d9
 have df:=A_ d5
 have ee:=A_ ea
 clear d5 ea
 have m8:=A_ l6
 have re:=A_ l7
 clear l6 l7
 have HB:=A_ (Below.refl w.heap.size w)
 have H:=h
 unfold F6.f at H
 clear h
 replace H:=Option.bind_eq_some_iff.mp H
 obtain⟨⟨gv,il,fw⟩,nu,H⟩:=H
 try dsimp only at H
 have A3:=A_ nu
 clear nu
 by_cases c4:(b4 == 4 && (bk == 0 && (bn == 0 && (bw == 0))))=true
 case neg=>
  rw[if_neg c4] at H
  have qh:(b4 == 4 && (bk == 0 && (bn == 0 && (bw == 0))))=false:=by simpa using c4
  (try(have in3:decide (b4=4 && (bk == 0 && (bn == 0 && (bw == 0))))=false:=by simpa using c4))
  (try(have in4:(b4 == 4 && (bk == 0 && (bn == 0 && (bw == 0))))=false:=by simpa using c4))
  (try(have ns5:¬ (b4=4 && (bk == 0 && (bn == 0 && (bw == 0)))):=by simpa using c4))
  clear c4
  replace H:=Option.bind_eq_some_iff.mp H
  obtain⟨⟨kf,ls,ip6⟩,ip7,H⟩:=H
  try dsimp only at H
  have A57:=A_ ip7
  clear ip7
  have cn4:=A_ H
  clear H
  go_enter Try.func102,Try.ntmps102
  go_upto_region 8 with(first|((with_reducible refine gd_ 2 ?_);refine bx_ (N:=2) #[.slice ah ab.length af, .slice ao aa.length ai, .slice cy av.length cu] 28 ?_;intro m5 hg w59 hbox hb;have ib:=A_ (hbox);have in5:=A_ ((g11_:w.heap.size<=m5));have gj3:=in5;replace HB:=hs_ (ir) hb;clear hb hbox hg)|((with_reducible refine gd_ 3 ?_);refine bx_ (N:=3) #[.int .i64 b4, .int .i64 bk, .int .i64 bn, .int .i64 bw] 69 ?_;intro m6 hg w60 hbox hb;have jj:=A_ (hbox);have in6:=A_ ((g11_:w.heap.size<=m6));have gj4:=in6;replace HB:=hs_ (ir) hb;have db1:=nl_ ib hg;have db2:=nr_ ib hg;replace ib:=bb_ ib hb;clear hb hbox hg)|((with_reducible refine gd_ 4 ?_);refine bx_ (N:=4) #[.slice none 0 0, .slice none 0 0, .slice none 0 0] 28 ?_;intro em hg w61 hbox hb;have fs:=A_ (hbox);have in7:=A_ ((g11_:w.heap.size<=em));have gj5:=in7;replace HB:=hs_ (ir) hb;have az0:=nl_ ib hg;have az1:=nr_ ib hg;replace ib:=bb_ ib hb;have bg2:=nl_ jj hg;have bg3:=nr_ jj hg;replace jj:=bb_ jj hb;clear hb hbox hg;have ey9:=db1.out;have ez0:=db2.out;have ip8:=az0.out;have ip9:=az1.out;obtain⟨gj8,gj9,iq0,gk0,gk1,iq1⟩:=blk3_ ib)|((with_reducible refine gc_ 104 ?_);refine gl_ 12 Try.func104 #[.agg #[.slice ah ab.length af, .slice ao aa.length ai, .slice cy av.length cu]] ?_;(refine(Fp.calls k _ _ ab _ _ aa _ _ av gv il fw _ (uC_ dp) ec.out (uC_ df) ee.out (uC_ m8) re.out A3.out).mono ?_);rintro e w65 ⟨in8,in9,io0,rfl,ae,ax,bm,hb⟩;refine⟨_,rfl,?_⟩;have o5:=A_ (Kd.R_lower ae (Gz (ir)));have o6:=A_ (Kd.S_lower ax (Gz (ir)));have kj:=A_ (Kd.R_lower bm (Gz (ir)));replace ib:=bb_ ib hb;replace jj:=bb_ jj hb;replace fs:=bb_ fs hb;replace HB:=hs_ (ir) hb)|((with_reducible refine gd_ 6 ?_);refine bx_ (N:=6) #[.slice none 0 0, .slice none 0 0, .slice none 0 0] 28 ?_;intro ej hg w66 hbox hb;replace o5:=rb_ o5 hb;replace o6:=sb_ o6 hb;replace kj:=rb_ kj hb;have jc:=A_ (hbox);have io1:=A_ ((g11_:w.heap.size<=ej));have gj6:=io1;replace HB:=hs_ (ir) hb;have ai5:=nl_ ib hg;have bu5:=nr_ ib hg;replace ib:=bb_ ib hb;have an1:=nl_ jj hg;have ce1:=nr_ jj hg;replace jj:=bb_ jj hb;have xi:=nl_ fs hg;have xj:=nr_ fs hg;replace fs:=bb_ fs hb;clear hb hbox hg;obtain⟨qn,qo,ln1⟩:=Kd.R_slice o5.out;subst ln1;have ld3:=bu5.out;have ld4:=ai5.out;have et2:=ce1.out;have et3:=an1.out;have fw0:=xj.out;have fw1:=xi.out;obtain⟨ln2,ln3,ln4,ln5,ln6,ln7⟩:=blk3_ jc;obtain⟨oa,ob,dw0⟩:=Kd.S_slice o6.out;subst dw0;obtain⟨xk,xl,ln8⟩:=Kd.R_slice kj.out;subst ln8;have es2:=bg2.out;have es3:=bg3.out;obtain⟨fy2,fy3,fy4,fy5,fy6,fy7,fy8,fy9⟩:=blk4_ jj;obtain⟨gh5,gh6,gh7,gh8,gh9,gi0⟩:=blk3_ ib)|((with_reducible refine gc_ 123 ?_);refine gl_ 38 Try.func123 #[.agg #[.slice ah ab.length af, .slice ao aa.length ai], .agg #[.int .i64 b4, .int .i64 bk, .int .i64 bn, .int .i64 bw]] ?_;(refine(Fs.calls k _ _ ab _ _ aa b4 bk bn bw kf ls ip6 _ (Kd.C_below dp.out (ir)) ec.out (Kd.C_below df.out (ir)) ee.out A57.out).mono ?_);rintro e w77 ⟨ns6,ns7,rfl,ae,ax,hb⟩;refine⟨_,rfl,?_⟩;replace kj:=A_ (Kd.R_mono (Kd.R_told (Kd.R_told (Kd.R_old (ra_ kj) hb) (Kd.R_base ae)) (Kd.S_base ax)) (fun _ h_=>h_.1));have bu6:=A_ (Kd.R_lower (Kd.R_new' ae (Kd.R_lt (ra_ o5))) (Gz (ir)));have bu7:=A_ (Kd.S_lower (Kd.S_new' (Kd.S_new' ax (Kd.R_lt (ra_ o5))) (Kd.S_lt (sa_ o6))) (Gz (ir)));replace o5:=A_ (Kd.R_elder' (ra_ o5) (Kd.R_base ae) hb);replace o6:=A_ (Kd.S_mono (Kd.S_told (Kd.S_told (Kd.S_old (sa_ o6) hb) (Kd.R_base ae)) (Kd.S_base ax)) (fun _ h_=>h_.1));replace ib:=A_ (G8 (g:=m5) (o:=.cells #[.slice ah ab.length af, .slice ao aa.length ai, .slice cy av.length cu] 28 (0,0)) (ba_ ib) hb);replace jj:=A_ (G8 (g:=m6) (o:=.cells #[.int .i64 b4, .int .i64 bk, .int .i64 bn, .int .i64 bw] 69 (0,0)) (ba_ jj) hb);replace fs:=A_ (G8 (g:=em) (o:=.cells #[.slice none 0 0, .slice none 0 0, .slice none 0 0] 28 (0,0)) (ba_ fs) hb);replace jc:=A_ (G8 (g:=ej) (o:=.cells #[.slice qn gv.length qo, .slice oa il.length ob, .slice xk fw.length xl] 28 (0,0)) (ba_ jc) hb);replace HB:=hs_ (ir) hb)|((with_reducible refine gd_ 8 ?_);refine bx_ (N:=8) #[.slice none 0 0, .slice none 0 0] 25 ?_;intro jl hg w78 hbox hb;replace o5:=rb_ o5 hb;replace o6:=sb_ o6 hb;replace kj:=A_ (Kd.R_below (Kd.R_elderB (uR_ kj) jl (Nat.le_of_eq hg.symm)) hb);replace bu6:=rb_ bu6 hb;replace bu7:=sb_ bu7 hb;have ni:=A_ (hbox);have ns8:=A_ ((g11_:w.heap.size<=jl));have lk6:=ns8;replace HB:=hs_ (ir) hb;have ce2:=nl_ ib hg;have fa7:=nr_ ib hg;replace ib:=bb_ ib hb;have ce3:=nl_ jj hg;have fa8:=nr_ jj hg;replace jj:=bb_ jj hb;have bu8:=nl_ fs hg;have dy7:=nr_ fs hg;replace fs:=bb_ fs hb;have bu9:=nl_ jc hg;have dy8:=nr_ jc hg;replace jc:=bb_ jc hb;clear hb hbox hg;obtain⟨mm,me,fa9⟩:=Kd.R_slice bu6.out;subst fa9;have hr3:=fa7.out;have hr4:=ce2.out;have hz6:=fa8.out;have hz7:=ce3.out;have fw4:=dy7.out;have fw5:=bu8.out;have hr5:=dy8.out;have hr6:=bu9.out;obtain⟨ln9,lo0,lo1,lo2⟩:=blk2_ ni;obtain⟨pj,o7,lo3⟩:=Kd.S_slice bu7.out;subst lo3))
  (try simp only[Act.put,List.setIfInBounds_toArray,List.set_cons_zero,List.set_cons_succ])
  go_cut [48] (fun v48 wc=>∃(kq:Nat) (fb0:Bool),v48 = .bool fb0/\Gx (F6.j0 kq fb0 gv il fw kf ls=some (r1,r2,r3,r4))/\Gx (kq<=k)/\Gx (Kd.R (Kd.int .i64) 3 wc w.heap.size (fun k_=>some k_≠((.slice mm kf.length me):Value).ownBlock) (.slice qn gv.length qo) gv)/\Gx (Kd.S (Kd.slice 3 (Kd.int .i64)) 22 wc w.heap.size (fun k_=>some k_≠((.slice qn gv.length qo):Value).ownBlock/\some k_≠((.slice mm kf.length me):Value).ownBlock/\some k_≠((.slice pj ls.length o7):Value).ownBlock) (.slice oa il.length ob) il)/\Gx (Kd.R k25 25 wc w.heap.size (fun k_=>some k_≠((.slice qn gv.length qo):Value).ownBlock/\some k_≠((.slice oa il.length ob):Value).ownBlock/\some k_≠((.slice mm kf.length me):Value).ownBlock/\some k_≠((.slice pj ls.length o7):Value).ownBlock/\k_≠jl) (.slice xk fw.length xl) fw)/\Gx (Kd.R (Kd.int .i64) 3 wc w.heap.size (fun k_=>some k_≠((.slice qn gv.length qo):Value).ownBlock) (.slice mm kf.length me) kf)/\Gx (Kd.S (Kd.slice 3 (Kd.int .i64)) 22 wc w.heap.size (fun k_=>some k_≠((.slice qn gv.length qo):Value).ownBlock/\some k_≠((.slice oa il.length ob):Value).ownBlock/\some k_≠((.slice mm kf.length me):Value).ownBlock) (.slice pj ls.length o7) ls)/\Gx (hc_ wc m5 #[(.slice ah ab.length af),(.slice ao aa.length ai),(.slice cy av.length cu)] 28)/\Gx (hc_ wc m6 #[.int .i64 b4, .int .i64 bk, .int .i64 bn, .int .i64 bw] 69)/\Gx (hc_ wc em #[(.slice none 0 0),(.slice none 0 0),(.slice none 0 0)] 28)/\Gx (hc_ wc ej #[(.slice qn gv.length qo),(.slice oa il.length ob),(.slice xk fw.length xl)] 28)/\Gx (hc_ wc jl #[(.slice mm kf.length me),(.slice pj ls.length o7)] 25)/\Gx (Below w.heap.size w wc))
  case first=>
   have H:=cn4.out
   clear cn4
   by_cases c86:ip6=true
   case neg=>
    replace c86:=Bool.eq_false_iff.mpr c86
    subst c86
    replace H:=ifn_ H
    have H':=A_ H
    clear H
    go_wp2
    go_meet
    case rel=>exact⟨_,(true),(g3_),H',⟨g9_⟩,⟨ra_ o5⟩,⟨sa_ o6⟩,⟨ra_ kj⟩,⟨ra_ bu6⟩,⟨sa_ bu7⟩,⟨ba_ ib⟩,⟨ba_ jj⟩,⟨ba_ fs⟩,⟨ba_ jc⟩,⟨ba_ ni⟩,⟨ir⟩⟩
   subst c86
   replace H:=ifp_ H
   obtain⟨db0,A87,H⟩:=bind_ H
   have H':=A_ H
   clear H
   have ns9:=fa7.out
   have nt0:=ce2.out
   have nt1:=fa8.out
   have nt2:=ce3.out
   have nt3:=dy7.out
   have nt4:=bu8.out
   have le4:=dy8.out
   have le5:=bu9.out
   obtain⟨hz8,hz9,ia0,ia1⟩:=blk2_ ni
   have fz0:=db1.out
   have fz1:=db2.out
   have ko2:=az0.out
   have ko3:=az1.out
   have ko4:=ai5.out
   have ko5:=bu5.out
   obtain⟨ia2,ia3,ia4,ia5,ia6,ia7⟩:=blk3_ ib
   go_wp2_with (first|(go_at_call 124;(with_reducible refine(Gs.calls k _ _ kf _ _ ls _ _ ab _ _ aa db0 _ ?side1 ?side2 ?side3 ?side4 ?side5 ?side6 ?side7 ?side8 A87.out).mono ?_);(case side1=>refine(Kd.R_reads' (e:=3) (base:=w.heap.size) (ok:=fun k_=>(True/\some k_≠(.slice qn gv.length qo:Value).ownBlock)) (n:=kf.length) (c:=me) ?_).2.2;exact(ra_ bu6));(case side2=>exact lR_ bu6);(case side3=>refine(Kd.S_reads' (e:=22) (base:=w.heap.size) (ok:=fun k_=>((some k_≠(.slice mm kf.length me:Value).ownBlock/\some k_≠(.slice qn gv.length qo:Value).ownBlock)/\some k_≠(.slice oa il.length ob:Value).ownBlock)) (n:=ls.length) (c:=o7) ?_).2.2;exact(sa_ bu7));(case side4=>exact lS_ bu7);(case side5=>exact Kd.C_below dp.out (ir));(case side6=>exact ec.out);(case side7=>exact Kd.C_below df.out (ir));(case side8=>exact ee.out);rintro e w97 ⟨rfl,hb⟩;replace o5:=A_ (Kd.R_below (ra_ o5) hb);replace o6:=A_ (Kd.S_below (sa_ o6) hb);replace kj:=A_ (Kd.R_below (ra_ kj) hb);replace bu6:=A_ (Kd.R_below (ra_ bu6) hb);replace bu7:=A_ (Kd.S_below (sa_ bu7) hb);replace ib:=A_ (G8 (g:=m5) (o:=.cells #[.slice ah ab.length af, .slice ao aa.length ai, .slice cy av.length cu] 28 (0,0)) (ba_ ib) hb);replace jj:=A_ (G8 (g:=m6) (o:=.cells #[.int .i64 b4, .int .i64 bk, .int .i64 bn, .int .i64 bw] 69 (0,0)) (ba_ jj) hb);replace fs:=A_ (G8 (g:=em) (o:=.cells #[.slice none 0 0, .slice none 0 0, .slice none 0 0] 28 (0,0)) (ba_ fs) hb);replace jc:=A_ (G8 (g:=ej) (o:=.cells #[.slice qn gv.length qo, .slice oa il.length ob, .slice xk fw.length xl] 28 (0,0)) (ba_ jc) hb);replace ni:=A_ (G8 (g:=jl) (o:=.cells #[.slice mm kf.length me, .slice pj ls.length o7] 25 (0,0)) (ba_ ni) hb);replace HB:=hs_ (ir) hb))
   go_meet
   case rel=>exact⟨_,(db0),(g3_),H',⟨g9_⟩,⟨by(with_reducible repeat(first|apply Kd.R_alloc|apply Kd.R_drewN|apply Kd.R_drew));exact Kd.R_mono o5.out (fun _ hk=>hk.2)⟩,⟨by(with_reducible repeat(first|apply Kd.S_alloc|apply Kd.S_drewN|apply Kd.S_drew));exact Kd.S_mono o6.out (fun _ hk=>⟨hk.1.1,⟨hk.1.2,hk.2⟩⟩)⟩,⟨by(with_reducible repeat(first|apply Kd.R_alloc|apply Kd.R_drewN|apply Kd.R_drew));exact Kd.R_mono kj.out (fun _ hk=>⟨hk.1.1.1.1,⟨hk.1.1.1.2,⟨hk.1.1.2,⟨hk.1.2,hk.2⟩⟩⟩⟩)⟩,⟨by(with_reducible repeat(first|apply Kd.R_alloc|apply Kd.R_drewN|apply Kd.R_drew));exact Kd.R_mono bu6.out (fun _ hk=>hk.2)⟩,⟨by(with_reducible repeat(first|apply Kd.S_alloc|apply Kd.S_drewN|apply Kd.S_drew));exact Kd.S_mono bu7.out (fun _ hk=>⟨hk.1.2,⟨hk.2,hk.1.1⟩⟩)⟩,⟨uB_ ib⟩,⟨uB_ jj⟩,⟨uB_ fs⟩,⟨uB_ jc⟩,⟨uB_ ni⟩,⟨ir⟩⟩
  clear cn4
  obtain⟨kq,fb0,rfl,HA,HJ57,dy9,dz0,tx,xm,xn,ib,jj,fs,jc,ni,HB⟩:=hcut
  cases kq with
  | zero=>exact absurd HA.out (by simp[F6.j0])
  | succ kj57=>?_
  have H:=HA.out
  clear HA
  simp only[F6.j0] at H
  by_cases c98:fb0=true
  ·subst c98
   replace H:=ifp_ H
   simp only[Option.some.injEq,Prod.mk.injEq] at H
   obtain⟨rfl,rfl,rfl,rfl⟩:=H
   have nt6:=bu5.out
   have nt7:=ai5.out
   have lo4:=ce1.out
   have lo5:=an1.out
   have nt8:=xj.out
   have nt9:=xi.out
   have nu0:=bu9.out
   have nu1:=dy8.out
   obtain⟨nu2,nu3,nu4,nu5,nu6,nu7⟩:=blk3_ jc
   have hs8:=az1.out
   have ht1:=az0.out
   have fw7:=bg3.out
   have fw8:=bg2.out
   have fw9:=bu8.out
   have fx0:=dy7.out
   obtain⟨ht3,ht4,ke6,ht5,ht6,ke7⟩:=blk3_ fs
   go_wp2
   refine bodyPost_ret (Jm rfl _ _ em 28 #[.slice qn gv.length qo, .slice oa il.length ob, .slice xk fw.length xl] (0,0) _ rfl (ba_ fs) Try.underlying28 rfl (g0_)) rfl ?_
   exact⟨_,_,_,g4_,ra_ dy9,sa_ dz0,ra_ tx,ir⟩
  replace c98:=Bool.eq_false_iff.mpr c98
  subst c98
  replace H:=ifn_ H
  obtain⟨iq2,H⟩:=pos_ H
  have iq3:=A_ iq2
  clear iq2
  obtain⟨yl,hyq⟩:∃y_:List (S25),y_=(fw ++ [(⟨gv,il⟩:S25)]):=⟨_,rfl⟩
  replace H:(if (yl.length:Int) > 8 then(if 1<=(yl.length:Int) then((Fp.f kj57 kf ls (yl.drop (1:Int).toNat)).bind fun bt536=>(some (bt536.1,bt536.2.1,bt536.2.2,true))) else(none)) else((Fp.f kj57 kf ls yl).bind fun bt545=>(some (bt545.1,bt545.2.1,bt545.2.2,true))))=some (r1,r2,r3,r4):=qh_
  have iq4:=A_ hyq
  clear hyq
  by_cases db8:(yl.length:Int) > 8
  ·rw[if_pos db8] at H
   have lo6:=decide_eq_true db8
   have lo7:decide (8 < yl.length)=true:=decide_eq_true (by omega)
   clear db8
   obtain⟨gk2,H⟩:=pos_ H
   have nu8:=eq_true gk2
   have nu9:=decide_eq_true gk2
   clear gk2
   obtain⟨cq9,hyq⟩:∃y_:List (S25),y_=(yl.drop (1:Int).toNat):=⟨_,rfl⟩
   replace H:((Fp.f kj57 kf ls cq9).bind fun bt536=>(some (bt536.1,bt536.2.1,bt536.2.2,true)))=some (r1,r2,r3,r4):=qh_
   have iq5:=A_ hyq
   clear hyq
   replace H:=Option.bind_eq_some_iff.mp H
   obtain⟨⟨cr0,db9,dz1⟩,iq6,H⟩:=H
   try dsimp only at H
   have lo8:=A_ iq6
   clear iq6
   simp only[Option.some.injEq,Prod.mk.injEq] at H
   obtain⟨rfl,rfl,rfl,rfl⟩:=H
   have lo9:=bu5.out
   have lp0:=ai5.out
   have ht9:=ce1.out
   have hu3:=an1.out
   have lp1:=xj.out
   have lp2:=xi.out
   have kp3:=bu9.out
   have kp4:=dy8.out
   obtain⟨nv0,nv1,nv2,nv3,nv4,nv5⟩:=blk3_ jc
   go_wp2_with (first|((with_reducible refine gate_builtin (b:=.append) (xs:=#[.tmp 51, .tmp 54]) rfl ?_);at_builtin;refine Kd.R_append k25 (w0:=w) w.heap.size rfl (.tmp 51) (.tmp 54) 26 25 (.agg #[(.slice none 0 0),(.slice none 0 0)]) 48 rfl Try.underlying26 info25 rfl (by decide) (by omega) (.slice xk fw.length xl) fw (⟨gv,il⟩:S25) [.slice qn gv.length qo, .slice oa il.length ob] (fun k_=>some k_≠(.slice mm kf.length me:Value).ownBlock/\some k_≠(.slice pj ls.length o7:Value).ownBlock/\k_≠jl) (fun k_=>((fun k_=>some k_≠(.slice mm kf.length me:Value).ownBlock/\some k_≠(.slice pj ls.length o7:Value).ownBlock/\k_≠jl)) k_/\some k_≠(.slice xk fw.length xl:Value).ownBlock) rfl rfl ?aP (fun _ hk=>hk) ?aF ?aO ?aB ?aS ?aL ?_;(case aP=>exact k25_mkM _ _ _ (⟨gv,il⟩:S25) (Kd.R_mono (Kd.R_types (Kd.R_apart' (Kd.R_apart' (dy9.out) (Kd.S_typed xn.out) (by decide)) (Kd.R_typed tx.out) (by decide)) ni.out (by decide)) (fun k_ hk=>⟨⟨hk.1.1.1,⟨hk.1.1.2,hk.2⟩⟩,hk.1.2⟩)) (Kd.R_mono (Kd.R_types (Kd.R_apart' ((Kd.S_R dz0.out)) (Kd.R_typed tx.out) (by decide)) ni.out (by decide)) (fun k_ hk=>⟨⟨hk.1.1.2.1,⟨hk.1.1.2.2,hk.2⟩⟩,hk.1.2⟩)));(case aB=>exact(ir));(case aF=>exact(fun k_ hk=>⟨Kd.fresh' (Kd.R_lt (uR_ xm)) k_ hk,Kd.fresh' (Kd.S_lt (uS_ xn)) k_ hk,Kd.freshB (g:=jl) (o:=.cells #[.slice mm kf.length me, .slice pj ls.length o7] 25 (0,0)) (uB_ ni) k_ hk⟩));(case aO=>exact(yR_ tx (fun _ hk=>⟨hk.2.2.1,⟨hk.2.2.2.1,hk.2.2.2.2⟩⟩)));(case aS=>exact(Gz (ir)));(case aL=>have:=iq3.out;omega);intro lp3 hu4 ho hb hg hat;rw[<- iq4.out] at ho;replace xm:=A_ (Kd.R_over' (uR_ xm) (Kd.R_typed (uR_ tx)) (by decide) hg);replace xn:=A_ (Kd.S_over' (uS_ xn) (Kd.R_typed (uR_ tx)) (by decide) hg);replace ib:=(bg_ ib hg (Kd.R_ne tx.out ib.out (by decide)));replace jj:=(bg_ jj hg (Kd.R_ne tx.out jj.out (by decide)));replace fs:=(bg_ fs hg (Kd.R_ne tx.out fs.out (by decide)));replace jc:=(bg_ jc hg (Kd.R_ne tx.out jc.out (by decide)));replace ni:=(bg_ ni hg (Kd.R_away tx.out (fun _ hk=>hk.2.2.2.2)));replace HB:=A_ (hb);have bl4:=A_ (ho);clear tx dy9 dz0;clear ho hb hg hat;obtain⟨dz2,fb1,lp4⟩:=Kd.R_slice bl4.out;subst lp4;have gk3:(1:Int)<=((yl.length:Int):Int):=od_;obtain⟨i0119,iq7,_,hsz119,_⟩:=info_parts info25;have hcut119:=cut_from (P:=Try.prog) 26 25 .i64 Try.underlying26 iq7 2 hsz119 dz2 yl.length fb1 1 (by omega) gk3;have dz3:=Kd.Q_drop (k:=(1:Int).toNat) (Kd.Q_of_R bl4.out) (by omega);obtain⟨gk4,hA119⟩:∃A1,A1=(if fb1=(1:Int).toNat then dz2 else(dz2:Option Addr).map (·.add ((1:Int).toNat * 2))):=⟨_,rfl⟩;obtain⟨gk5,gk6⟩:∃c1,c1=fb1 - (1:Int).toNat:=⟨_,rfl⟩;have hy119:cq9.length=yl.length - (1:Int).toNat:=(by rw[iq5.out,List.length_drop]);rw[<- iq5.out] at dz3;rw[<- hy119, <- hA119, <- gk6] at hcut119;replace dz3:Kd.Q k25 25 hu4 w.heap.size (fun k_=>some k_≠(.slice mm kf.length me:Value).ownBlock/\some k_≠(.slice pj ls.length o7:Value).ownBlock/\k_≠jl) (.slice gk4 cq9.length gk5) cq9:=(by rw[hA119,gk6,hy119];exact dz3);have HE119:Gx ((Value.slice gk4 cq9.length gk5).ownBlock=(.slice dz2 yl.length fb1:Value).ownBlock):=⟨by rw[hA119];split <;> (cases(dz2:Option Addr) <;> rfl)⟩;clear hy119 iq7 hsz119 bl4 hA119 gk6;have dz4:=A_ dz3;clear dz3;replace gk3:=eq_true gk3;have nv6:=fa7.out;have nv7:=ce2.out;have li3:=fa8.out;have li4:=ce3.out;have nv8:=dy7.out;have nv9:=bu8.out;obtain⟨nw0,nw1,nw2,nw3⟩:=blk2_ ni)|((with_reducible refine gc_ 104 ?_);refine gl_ 64 Try.func104 #[.agg #[.slice mm kf.length me, .slice pj ls.length o7, .slice gk4 cq9.length gk5]] ?_;(refine(Fp.calls kj57 _ _ kf _ _ ls _ _ cq9 cr0 db9 dz1 _ (cR_ xm) (lR_ xm) (cS_ xn) (lS_ xn) (cQ_ dz4) (lQ_ dz4) lo8.out).mono ?_);rintro e ke ⟨nw4,nw5,nw6,rfl,ae,ax,bm,hb⟩;refine⟨_,rfl,?_⟩;have iq8:=A_ (Kd.R_lower (Kd.R_new' ae (Kd.R_lt (uR_ xm))) (Gz (ir)));have iq9:=A_ (Kd.S_lower (Kd.S_new' (Kd.S_new' ax (Kd.R_lt (uR_ xm))) (Kd.S_lt (uS_ xn))) (Gz (ir)));have ir0:=A_ (Kd.R_lower (Kd.R_newB (Kd.R_new' (Kd.R_new' (Kd.R_new' bm (Kd.R_lt (uR_ xm))) (Kd.S_lt (uS_ xn))) (Kd.Q_lt (uQ_ dz4))) (g:=jl) (o:=.cells #[.slice mm kf.length me, .slice pj ls.length o7] 25 (0,0)) (uB_ ni)) (Gz (ir)));replace xm:=A_ (Kd.R_elder' (uR_ xm) (Kd.R_base ae) hb);replace xn:=A_ (Kd.S_mono (Kd.S_told (Kd.S_told (Kd.S_old (uS_ xn) hb) (Kd.R_base ae)) (Kd.S_base ax)) (fun _ h_=>h_.1));replace dz4:=A_ (Kd.Q_mono (Kd.Q_told (Kd.Q_told (Kd.Q_told (Kd.Q_old (uQ_ dz4) hb) (Kd.R_base ae)) (Kd.S_base ax)) (Kd.R_base bm)) (fun _ h_=>h_.1));replace ib:=bb_ ib hb;replace jj:=bb_ jj hb;replace fs:=bb_ fs hb;replace jc:=bb_ jc hb;replace ni:=bb_ ni hb;replace HB:=hs_ (ir) hb;obtain⟨dw,dx,da9⟩:=Kd.R_slice iq8.out;subst da9;have hu6:=az1.out;have hu7:=az0.out;have lj0:=bg3.out;have lj1:=bg2.out;obtain⟨nw7,nw8,nw9,nx0,nx1,nx2⟩:=blk3_ fs;obtain⟨gz,g3,fb2⟩:=Kd.S_slice iq9.out;subst fb2;obtain⟨bl2,bl3,gi6⟩:=Kd.R_slice ir0.out;subst gi6))
   refine bodyPost_ret (Jm rfl _ _ em 28 #[.slice dw cr0.length dx, .slice gz db9.length g3, .slice bl2 dz1.length bl3] (0,0) _ rfl (ba_ fs) Try.underlying28 rfl (g0_)) rfl ?_
   exact⟨_,_,_,g4_,ra_ iq8,sa_ iq9,ra_ ir0,ir⟩
  rw[if_neg db8] at H
  have lo6:=decide_eq_false db8
  have lo7:decide (8 < yl.length)=false:=decide_eq_false (by omega)
  clear db8
  replace H:=Option.bind_eq_some_iff.mp H
  obtain⟨⟨cr1,dc0,dz5⟩,ir1,H⟩:=H
  try dsimp only at H
  have lp5:=A_ ir1
  clear ir1
  simp only[Option.some.injEq,Prod.mk.injEq] at H
  obtain⟨rfl,rfl,rfl,rfl⟩:=H
  have lj2:=bu5.out
  have lj3:=ai5.out
  have hu8:=ce1.out
  have hu9:=an1.out
  have nx3:=xj.out
  have nx4:=xi.out
  have lj4:=bu9.out
  have lj5:=dy8.out
  obtain⟨lj6,lj7,nx5,lj8,lj9,nx6⟩:=blk3_ jc
  go_wp2_with (first|((with_reducible refine gate_builtin (b:=.append) (xs:=#[.tmp 51, .tmp 54]) rfl ?_);at_builtin;refine Kd.R_append k25 (w0:=w) w.heap.size rfl (.tmp 51) (.tmp 54) 26 25 (.agg #[(.slice none 0 0),(.slice none 0 0)]) 48 rfl Try.underlying26 info25 rfl (by decide) (by omega) (.slice xk fw.length xl) fw (⟨gv,il⟩:S25) [.slice qn gv.length qo, .slice oa il.length ob] (fun k_=>some k_≠(.slice mm kf.length me:Value).ownBlock/\some k_≠(.slice pj ls.length o7:Value).ownBlock/\k_≠jl) (fun k_=>((fun k_=>some k_≠(.slice mm kf.length me:Value).ownBlock/\some k_≠(.slice pj ls.length o7:Value).ownBlock/\k_≠jl)) k_/\some k_≠(.slice xk fw.length xl:Value).ownBlock) rfl rfl ?aP (fun _ hk=>hk) ?aF ?aO ?aB ?aS ?aL ?_;(case aP=>exact k25_mkM _ _ _ (⟨gv,il⟩:S25) (Kd.R_mono (Kd.R_types (Kd.R_apart' (Kd.R_apart' (dy9.out) (Kd.S_typed xn.out) (by decide)) (Kd.R_typed tx.out) (by decide)) ni.out (by decide)) (fun k_ hk=>⟨⟨hk.1.1.1,⟨hk.1.1.2,hk.2⟩⟩,hk.1.2⟩)) (Kd.R_mono (Kd.R_types (Kd.R_apart' ((Kd.S_R dz0.out)) (Kd.R_typed tx.out) (by decide)) ni.out (by decide)) (fun k_ hk=>⟨⟨hk.1.1.2.1,⟨hk.1.1.2.2,hk.2⟩⟩,hk.1.2⟩)));(case aB=>exact(ir));(case aF=>exact(fun k_ hk=>⟨Kd.fresh' (Kd.R_lt (uR_ xm)) k_ hk,Kd.fresh' (Kd.S_lt (uS_ xn)) k_ hk,Kd.freshB (g:=jl) (o:=.cells #[.slice mm kf.length me, .slice pj ls.length o7] 25 (0,0)) (uB_ ni) k_ hk⟩));(case aO=>exact(yR_ tx (fun _ hk=>⟨hk.2.2.1,⟨hk.2.2.2.1,hk.2.2.2.2⟩⟩)));(case aS=>exact(Gz (ir)));(case aL=>have:=iq3.out;omega);intro lp3 kh4 ho hb hg hat;rw[<- iq4.out] at ho;replace xm:=A_ (Kd.R_over' (uR_ xm) (Kd.R_typed (uR_ tx)) (by decide) hg);replace xn:=A_ (Kd.S_over' (uS_ xn) (Kd.R_typed (uR_ tx)) (by decide) hg);replace ib:=(bg_ ib hg (Kd.R_ne tx.out ib.out (by decide)));replace jj:=(bg_ jj hg (Kd.R_ne tx.out jj.out (by decide)));replace fs:=(bg_ fs hg (Kd.R_ne tx.out fs.out (by decide)));replace jc:=(bg_ jc hg (Kd.R_ne tx.out jc.out (by decide)));replace ni:=(bg_ ni hg (Kd.R_away tx.out (fun _ hk=>hk.2.2.2.2)));replace HB:=A_ (hb);have bl4:=A_ (ho);clear tx dy9 dz0;clear ho hb hg hat;obtain⟨lp6,lp7,lp8⟩:=Kd.R_slice bl4.out;subst lp8;have nx7:=fa7.out;have nx8:=ce2.out;have nx9:=fa8.out;have ny0:=ce3.out;have ki3:=dy7.out;have ki4:=bu8.out;obtain⟨ny1,ny2,ny3,ny4⟩:=blk2_ ni)|((with_reducible refine gc_ 104 ?_);refine gl_ 64 Try.func104 #[.agg #[.slice mm kf.length me, .slice pj ls.length o7, .slice lp6 yl.length lp7]] ?_;(refine(Fp.calls kj57 _ _ kf _ _ ls _ _ yl cr1 dc0 dz5 _ (cR_ xm) (lR_ xm) (cS_ xn) (lS_ xn) (cR_ bl4) (lR_ bl4) lp5.out).mono ?_);rintro e ny5 ⟨ny6,ny7,ny8,rfl,ae,ax,bm,hb⟩;refine⟨_,rfl,?_⟩;have ir2:=A_ (Kd.R_lower (Kd.R_new' ae (Kd.R_lt (uR_ xm))) (Gz (ir)));have ir3:=A_ (Kd.S_lower (Kd.S_new' (Kd.S_new' ax (Kd.R_lt (uR_ xm))) (Kd.S_lt (uS_ xn))) (Gz (ir)));have ir4:=A_ (Kd.R_lower (Kd.R_newB (Kd.R_new' (Kd.R_new' (Kd.R_new' bm (Kd.R_lt (uR_ xm))) (Kd.S_lt (uS_ xn))) (Kd.R_lt (uR_ bl4))) (g:=jl) (o:=.cells #[.slice mm kf.length me, .slice pj ls.length o7] 25 (0,0)) (uB_ ni)) (Gz (ir)));replace xm:=A_ (Kd.R_elder' (uR_ xm) (Kd.R_base ae) hb);replace xn:=A_ (Kd.S_mono (Kd.S_told (Kd.S_told (Kd.S_old (uS_ xn) hb) (Kd.R_base ae)) (Kd.S_base ax)) (fun _ h_=>h_.1));replace bl4:=A_ (Kd.R_mono (Kd.R_told (Kd.R_told (Kd.R_told (Kd.R_old (uR_ bl4) hb) (Kd.R_base ae)) (Kd.S_base ax)) (Kd.R_base bm)) (fun _ h_=>h_.1));replace ib:=bb_ ib hb;replace jj:=bb_ jj hb;replace fs:=bb_ fs hb;replace jc:=bb_ jc hb;replace ni:=bb_ ni hb;replace HB:=hs_ (ir) hb;obtain⟨dc1,dc2,lp9⟩:=Kd.R_slice ir2.out;subst lp9;have hv1:=az1.out;have hv2:=az0.out;have hv3:=bg3.out;have hv4:=bg2.out;obtain⟨hv5,hv6,lq0,hv7,hv8,lq1⟩:=blk3_ fs;obtain⟨dz6,dz7,lq2⟩:=Kd.S_slice ir3.out;subst lq2;obtain⟨fb3,fb4,lq3⟩:=Kd.R_slice ir4.out;subst lq3))
  refine bodyPost_ret (Jm rfl _ _ em 28 #[.slice dc1 cr1.length dc2, .slice dz6 dc0.length dz7, .slice fb3 dz5.length fb4] (0,0) _ rfl (ba_ fs) Try.underlying28 rfl (g0_)) rfl ?_
  exact⟨_,_,_,g4_,ra_ ir2,sa_ ir3,ra_ ir4,ir⟩
 rw[if_pos c4] at H
 have qh:(b4 == 4 && (bk == 0 && (bn == 0 && (bw == 0))))=true:=c4
 (try(have in3:decide (b4=4 && (bk == 0 && (bn == 0 && (bw == 0))))=true:=by simpa using c4))
 (try(have in4:(b4 == 4 && (bk == 0 && (bn == 0 && (bw == 0))))=true:=by simpa using c4))
 clear c4
 by_cases c5:(wrap64 ((fw.length:Int) - 1)) < 0
 ·rw[if_pos c5] at H
  have j9:=decide_eq_true c5
  clear c5
  simp only[Option.some.injEq,Prod.mk.injEq] at H
  obtain⟨rfl,rfl,rfl,rfl⟩:=H
  go_enter Try.func102,Try.ntmps102
  go_wp2_with (first|((with_reducible refine gd_ 2 ?_);refine bx_ (N:=2) #[.slice ah ab.length af, .slice ao aa.length ai, .slice cy av.length cu] 28 ?_;intro m5 hg w6 hbox hb;have ib:=A_ (hbox);have in5:=A_ ((g11_:w.heap.size<=m5));have gj3:=in5;replace HB:=hs_ (ir) hb;clear hb hbox hg)|((with_reducible refine gd_ 3 ?_);refine bx_ (N:=3) #[.int .i64 b4, .int .i64 bk, .int .i64 bn, .int .i64 bw] 69 ?_;intro m6 hg w7 hbox hb;have jj:=A_ (hbox);have in6:=A_ ((g11_:w.heap.size<=m6));have gj4:=in6;replace HB:=hs_ (ir) hb;have db1:=nl_ ib hg;have db2:=nr_ ib hg;replace ib:=bb_ ib hb;clear hb hbox hg)|((with_reducible refine gd_ 4 ?_);refine bx_ (N:=4) #[.slice none 0 0, .slice none 0 0, .slice none 0 0] 28 ?_;intro em hg w8 hbox hb;have fs:=A_ (hbox);have in7:=A_ ((g11_:w.heap.size<=em));have gj5:=in7;replace HB:=hs_ (ir) hb;have az0:=nl_ ib hg;have az1:=nr_ ib hg;replace ib:=bb_ ib hb;have bg2:=nl_ jj hg;have bg3:=nr_ jj hg;replace jj:=bb_ jj hb;clear hb hbox hg;have hm6:=db1.out;have hm7:=db2.out;have cn6:=az0.out;have cn7:=az1.out;obtain⟨au3,au4,gw2,au5,au6,gw3⟩:=blk3_ ib)|((with_reducible refine gc_ 104 ?_);refine gl_ 12 Try.func104 #[.agg #[.slice ah ab.length af, .slice ao aa.length ai, .slice cy av.length cu]] ?_;(refine(Fp.calls k _ _ ab _ _ aa _ _ av gv il fw _ (uC_ dp) ec.out (uC_ df) ee.out (uC_ m8) re.out A3.out).mono ?_);rintro e w12 ⟨in8,in9,io0,rfl,ae,ax,bm,hb⟩;refine⟨_,rfl,?_⟩;have o5:=A_ (Kd.R_lower ae (Gz (ir)));have o6:=A_ (Kd.S_lower ax (Gz (ir)));have kj:=A_ (Kd.R_lower bm (Gz (ir)));replace ib:=bb_ ib hb;replace jj:=bb_ jj hb;replace fs:=bb_ fs hb;replace HB:=hs_ (ir) hb)|((with_reducible refine gd_ 6 ?_);refine bx_ (N:=6) #[.slice none 0 0, .slice none 0 0, .slice none 0 0] 28 ?_;intro ej hg w13 hbox hb;replace o5:=rb_ o5 hb;replace o6:=sb_ o6 hb;replace kj:=rb_ kj hb;have jc:=A_ (hbox);have io1:=A_ ((g11_:w.heap.size<=ej));have gj6:=io1;replace HB:=hs_ (ir) hb;have ai5:=nl_ ib hg;have bu5:=nr_ ib hg;replace ib:=bb_ ib hb;have an1:=nl_ jj hg;have ce1:=nr_ jj hg;replace jj:=bb_ jj hb;have xi:=nl_ fs hg;have xj:=nr_ fs hg;replace fs:=bb_ fs hb;clear hb hbox hg;obtain⟨pq,ml,cl8⟩:=Kd.R_slice o5.out;subst cl8;have cw5:=bu5.out;have cw6:=ai5.out;have er0:=ce1.out;have er1:=an1.out;have gg6:=xj.out;have gg7:=xi.out;obtain⟨bb3,bb4,cp8,bb5,bb6,cp9⟩:=blk3_ jc;obtain⟨bc,ba,yd⟩:=Kd.S_slice o6.out;subst yd;obtain⟨bz,br,ac0⟩:=Kd.R_slice kj.out;subst ac0;have hj9:=bg2.out;have hk1:=bg3.out;obtain⟨ap2,ap3,ei3,lk7,ap4,ap5,ei4,lk8⟩:=blk4_ jj;obtain⟨gd6,gd7,lk9,gd8,gd9,ll0⟩:=blk3_ fs))
  refine bodyPost_ret (Jm rfl _ _ em 28 #[.slice pq gv.length ml, .slice bc il.length ba, .slice bz fw.length br] (0,0) _ rfl (ba_ fs) Try.underlying28 rfl (g0_)) rfl ?_
  exact⟨_,_,_,g4_,ra_ o5,sa_ o6,ra_ kj,ir⟩
 rw[if_neg c5] at H
 have j9:=decide_eq_false c5
 clear c5
 obtain⟨ji24,hji24⟩:∃j_:Int,(wrap64 ((fw.length:Int) - 1))=j_:=⟨_,rfl⟩
 first|rw[hji24] at H|simp only[hji24] at H
 (try rw[hji24] at j9)
 (try rw[hji24] at A3)
 have hji24w:(IntKind.i64.wrap ((fw.length:Int) - 1))=ji24:=(i64_w _).trans hji24
 obtain⟨bh8,H⟩:=pd_ H
 obtain⟨ch7,H⟩:=pd_ H
 have bx6:=eq_true (od_:0<=(ji24))
 obtain⟨l8,H⟩:=pos_ H
 have bn4:=eq_true l8
 have ll1:=decide_eq_true l8
 clear l8
 obtain⟨dy2,hyq⟩:∃y_:List (S25),y_=(fw.take ((ji24):Int).toNat):=⟨_,rfl⟩
 replace H:((Fp.f k ((Jc fw (ji24)).f0) ((Jc fw (ji24)).f1) dy2).bind fun bt512=>(some (bt512.1,bt512.2.1,bt512.2.2,true)))=some (r1,r2,r3,r4):=qh_
 have io2:=A_ hyq
 clear hyq
 replace H:=Option.bind_eq_some_iff.mp H
 obtain⟨⟨cq7,db3,dy3⟩,io3,H⟩:=H
 try dsimp only at H
 have A29:=A_ io3
 clear io3
 simp only[Option.some.injEq,Prod.mk.injEq] at H
 obtain⟨rfl,rfl,rfl,rfl⟩:=H
 go_enter Try.func102,Try.ntmps102
 try go_wp2_with (first|((with_reducible refine gd_ 2 ?_);refine bx_ (N:=2) #[.slice ah ab.length af, .slice ao aa.length ai, .slice cy av.length cu] 28 ?_;intro m5 hg w30 hbox hb;have ib:=A_ (hbox);have in5:=A_ ((g11_:w.heap.size<=m5));have gj3:=in5;replace HB:=hs_ (ir) hb;clear hb hbox hg)|((with_reducible refine gd_ 3 ?_);refine bx_ (N:=3) #[.int .i64 b4, .int .i64 bk, .int .i64 bn, .int .i64 bw] 69 ?_;intro m6 hg w31 hbox hb;have jj:=A_ (hbox);have in6:=A_ ((g11_:w.heap.size<=m6));have gj4:=in6;replace HB:=hs_ (ir) hb;have db1:=nl_ ib hg;have db2:=nr_ ib hg;replace ib:=bb_ ib hb;clear hb hbox hg)|((with_reducible refine gd_ 4 ?_);refine bx_ (N:=4) #[.slice none 0 0, .slice none 0 0, .slice none 0 0] 28 ?_;intro em hg w32 hbox hb;have fs:=A_ (hbox);have in7:=A_ ((g11_:w.heap.size<=em));have gj5:=in7;replace HB:=hs_ (ir) hb;have az0:=nl_ ib hg;have az1:=nr_ ib hg;replace ib:=bb_ ib hb;have bg2:=nl_ jj hg;have bg3:=nr_ jj hg;replace jj:=bb_ jj hb;clear hb hbox hg;have bo5:=db1.out;have bo6:=db2.out;have cy5:=az0.out;have cy6:=az1.out;obtain⟨bi2,bi3,br9,bi4,bi5,bs0⟩:=blk3_ ib)|((with_reducible refine gc_ 104 ?_);refine gl_ 12 Try.func104 #[.agg #[.slice ah ab.length af, .slice ao aa.length ai, .slice cy av.length cu]] ?_;(refine(Fp.calls k _ _ ab _ _ aa _ _ av gv il fw _ (uC_ dp) ec.out (uC_ df) ee.out (uC_ m8) re.out A3.out).mono ?_);rintro e k7 ⟨in8,in9,io0,rfl,ae,ax,bm,hb⟩;refine⟨_,rfl,?_⟩;have o5:=A_ (Kd.R_lower ae (Gz (ir)));have o6:=A_ (Kd.S_lower ax (Gz (ir)));have kj:=A_ (Kd.R_lower bm (Gz (ir)));replace ib:=bb_ ib hb;replace jj:=bb_ jj hb;replace fs:=bb_ fs hb;replace HB:=hs_ (ir) hb)|((with_reducible refine gd_ 6 ?_);refine bx_ (N:=6) #[.slice none 0 0, .slice none 0 0, .slice none 0 0] 28 ?_;intro ej hg ta hbox hb;replace o5:=rb_ o5 hb;replace o6:=sb_ o6 hb;replace kj:=rb_ kj hb;have jc:=A_ (hbox);have io1:=A_ ((g11_:w.heap.size<=ej));have gj6:=io1;replace HB:=hs_ (ir) hb;have ai5:=nl_ ib hg;have bu5:=nr_ ib hg;replace ib:=bb_ ib hb;have an1:=nl_ jj hg;have ce1:=nr_ jj hg;replace jj:=bb_ jj hb;have xi:=nl_ fs hg;have xj:=nr_ fs hg;replace fs:=bb_ fs hb;clear hb hbox hg;obtain⟨ma,ka,av5⟩:=Kd.R_slice o5.out;subst av5;have ll2:=bu5.out;have ll3:=ai5.out;have nr0:=ce1.out;have nr1:=an1.out;have ll4:=xj.out;have ll5:=xi.out;obtain⟨ez9,fa0,fa1,fa2,fa3,fa4⟩:=blk3_ jc;obtain⟨pt,pc,bj8⟩:=Kd.S_slice o6.out;subst bj8;obtain⟨an2,ym,ll6⟩:=Kd.R_slice kj.out;subst ll6;have dn8:=bg2.out;have dn9:=bg3.out;obtain⟨fs9,ft0,ll7,ll8,ft1,ft2,ll9,lm0⟩:=blk4_ jj))
 generalize hw_:(((ta.setCell ⟨ej,0,none⟩ (.slice ma gv.length ka)).setCell ⟨ej,1,none⟩ (.slice pt il.length pc)).setCell ⟨ej,2,none⟩ (.slice an2 fw.length ym))=w47
 have n0_:Gx (Kd.R (Kd.int .i64) 3 w47 w.heap.size (fun _=>True) (.slice ma gv.length ka) gv):=A_ (by rw[<- hw_];exact ra_ o5)
 have n1_:Gx (Kd.S (Kd.slice 3 (Kd.int .i64)) 22 w47 w.heap.size (fun k_=>some k_≠(.slice ma gv.length ka:Value).ownBlock) (.slice pt il.length pc) il):=A_ (by rw[<- hw_];exact sa_ o6)
 have n2_:Gx (Kd.R k25 25 w47 w.heap.size (fun k_=>some k_≠(.slice ma gv.length ka:Value).ownBlock/\some k_≠(.slice pt il.length pc:Value).ownBlock) (.slice an2 fw.length ym) fw):=A_ (by rw[<- hw_];exact ra_ kj)
 have n3_:Gx (hc_ w47 m5 #[.slice ah ab.length af, .slice ao aa.length ai, .slice cy av.length cu] 28):=A_ (by rw[<- hw_];exact ba_ ib)
 have n4_:Gx (hc_ w47 m6 #[.int .i64 b4, .int .i64 bk, .int .i64 bn, .int .i64 bw] 69):=A_ (by rw[<- hw_];exact ba_ jj)
 have n5_:Gx (hc_ w47 em #[.slice none 0 0, .slice none 0 0, .slice none 0 0] 28):=A_ (by rw[<- hw_];exact ba_ fs)
 have n6_:Gx (hc_ w47 ej #[.slice ma gv.length ka, .slice pt il.length pc, .slice an2 fw.length ym] 28):=A_ (by rw[<- hw_];exact ba_ jc)
 have n7_:Gx (Below w.heap.size w w47):=A_ (by rw[<- hw_];exact ir)
 clear hw_
 have o5:=n0_
 have o6:=n1_
 have kj:=n2_
 have ib:=n3_
 have jj:=n4_
 have fs:=n5_
 have jc:=n6_
 have HB:=n7_
 clear n0_ n1_ n2_ n3_ n4_ n5_ n6_ n7_
 replace o5:=rd_ o5
 replace o6:=sd_ o6
 replace kj:=rd_ kj
 replace ib:=bd_ ib
 replace jj:=bd_ jj
 replace fs:=bd_ fs
 replace jc:=bd_ jc
 replace HB:=A_ (G1 HB.out)
 have dy4:0<=((ji24):Int):=od_
 have dy5:(ji24) < (fw.length:Int):=od_
 obtain⟨cq8,io4,io5,io6,io7,lm1,fa5,fa6,io8,io9,ip0,ip1⟩:=at_T25 (Kd.R_reads' kj.out).2.2 (ji24) dy4 dy5
 cases lm1
 obtain⟨ce507,hce507,hMe507,hcc507⟩:=Kd.R_get kj.out z25 (ji24) dy4 (by first|exact dy5|exact od_|(have e_:=(Kd.R_reads' kj.out).1;omega))
 obtain⟨ve507_0,ve507_1,rfl,ge507_0,ge507_1⟩:=k25_openM hMe507
 have hv507_0:=hcc507 0 _ rfl
 rw[Nat.add_zero] at hv507_0
 replace hv507_0:=Option.some.inj (hv507_0.symm.trans fa5)
 rw[hv507_0] at ge507_0
 have db4:=A_ (show Kd.R (Kd.int .i64) 3 _ _ _ _ ((Jc fw (ji24)).f0) from ge507_0)
 clear hv507_0 ge507_0
 have hv507_1:=hcc507 1 _ rfl
 rw[add_field _ _ 1 (by omega)] at hv507_1
 replace hv507_1:=Option.some.inj (hv507_1.symm.trans fa6)
 rw[hv507_1] at ge507_1
 have dy6:=A_ (show Kd.R (Kd.slice 3 (Kd.int .i64)) 22 _ _ _ _ ((Jc fw (ji24)).f1) from ge507_1)
 clear hv507_1 ge507_1
 clear hcc507 hce507
 have db5:=A_ io9
 have lm2:=A_ io8
 clear io9 io8
 have db6:=A_ ip1
 have lm3:=A_ ip0
 clear ip1 ip0
 replace dy4:=eq_true dy4
 replace dy5:=eq_true dy5
 have q49:((ji24):Int)<=((fw.length:Int):Int):=od_
 obtain⟨i049,ip2,_,hsz49,_⟩:=info_parts info25
 have hroom49:fw.length<=ym:=(Kd.R_reads' kj.out).2.1
 have hC49:Kd.C k25 _ (some cq8) fw.length fw:=(Kd.R_reads' kj.out).2.2
 have hcut49:=cut_to (P:=Try.prog) 26 25 .i64 Try.underlying26 ip2 (some cq8) fw.length ym (ji24) (od_) q49 hroom49
 have gj7:=Kd.C_take (m:=((ji24):Int).toNat) hC49 (by omega)
 have hy49:dy2.length=((ji24):Int).toNat:=(by rw[io2.out,List.length_take];omega)
 rw[<- io2.out] at gj7
 rw[<- hy49] at hcut49
 have db7:=A_ gj7
 have lm4:=A_ (show dy2.length<=ym from by omega)
 clear gj7 hC49 hroom49 ip2 hsz49
 have KY49:=A_ hy49
 clear hy49
 have KL49:=A_ (show((ji24):Int).toNat<=fw.length from by omega)
 replace q49:=eq_true q49
 refine start_ (n:=13) (S:=fun w'=>w'.cell? ⟨ej,0,none⟩=some (.slice ma gv.length ka)/\w'.cell? ⟨ej,1,none⟩=some (.slice pt il.length pc)/\w'.cell? ⟨ej,2,none⟩=some (.slice (some cq8) fw.length ym)/\w'.cell? (cq8.add (((ji24)).toNat * 2))=some (.slice io4 ((Jc fw (ji24)).f0).length io5)/\w'.cell? ⟨(cq8.add (((ji24)).toNat * 2)).block,(cq8.add (((ji24)).toNat * 2)).off + 1,none⟩=some (.slice io6 ((Jc fw (ji24)).f1).length io7)) (ds:=[]) (tl_ 13 0) (g0_) rfl (g0_) ⟨(Gy jc.out 0).trans rfl,(Gy jc.out 1).trans rfl,(Gy jc.out 2).trans rfl,fa5,fa6⟩ (fun hHeld=>?_);refine Jl F6.tab6 F6.bits6 (fun HT_ HW_=>?_)
 generalize w47.drew=w48 at o5 o6 kj ib jj fs jc HB db4 dy6 db5 db6 db7 fa5 fa6 hHeld |-
 refine pw_ 0 23 (tl_ 13 1) ?_
 refine pw_ 2 25 (tl_ 13 5) ?_
 refine pw_ 5 28 (tl_ 13 37) ?_
 refine pw_ 7 30 (tl_ 13 165) ?_
 refine tk5_ 1 24 (tl_ 13 167) hHeld ?_
 refine pw_ 3 26 (tl_ 13 175) ?_
 refine tk5_ 4 27 (tl_ 13 191) hHeld ?_
 refine tk5_ 6 29 (tl_ 13 255) hHeld ?_
 refine pw_ 8 31 (tl_ 13 511) ?_
 refine pw_ 9 32 (tl_ 13 1023) ?_
 refine one_ (i:=10) (N:=some 33) (tl_ 13 2047) rfl rfl (Jn HT_.out (g0_)) (by decide) (fun K hK=>?_)
 refine goes_ Try.func104 (g0_) rfl #[.agg #[.slice io4 ((Jc fw (ji24)).f0).length io5, .slice io6 ((Jc fw (ji24)).f1).length io7, .slice (some cq8) dy2.length ym]] (by rfl) rfl rfl (by(try simp only[List.map_toArray,List.map_cons,List.map_nil]);first|done|(simp only[hji24];rfl)|rfl|(simp only[List.length_drop,List.length_take];rfl)) ?_
 with_reducible refine(Fp.calls k _ _ ((Jc fw (ji24)).f0) _ _ ((Jc fw (ji24)).f1) _ _ dy2 cq7 db3 dy3 _ ?side1 ?side2 ?side3 ?side4 ?side5 ?side6 A29.out).mono ?_
 (case side1=>repeat(first|exact(by repeat(first|(with_reducible exact db5.out)|(with_reducible refine Kd.C_alloc ?_ _)|(with_reducible refine Kd.C_drewN ?_ _)|(with_reducible refine Kd.C_drew ?_)|exact db5.out))|(with_reducible refine Kd.C_alloc ?_ _)|(with_reducible refine Kd.C_drewN ?_ _)|(with_reducible refine Kd.C_drew ?_)))
 (case side2=>exact lm2.out)
 (case side3=>repeat(first|exact(by repeat(first|(with_reducible exact db6.out)|(with_reducible refine Kd.C_alloc ?_ _)|(with_reducible refine Kd.C_drewN ?_ _)|(with_reducible refine Kd.C_drew ?_)|exact db6.out))|(with_reducible refine Kd.C_alloc ?_ _)|(with_reducible refine Kd.C_drewN ?_ _)|(with_reducible refine Kd.C_drew ?_)))
 (case side4=>exact lm3.out)
 (case side5=>repeat(first|exact(by repeat(first|(with_reducible exact db7.out)|(with_reducible refine Kd.C_alloc ?_ _)|(with_reducible refine Kd.C_drewN ?_ _)|(with_reducible refine Kd.C_drew ?_)|exact db7.out))|(with_reducible refine Kd.C_alloc ?_ _)|(with_reducible refine Kd.C_drewN ?_ _)|(with_reducible refine Kd.C_drew ?_)))
 (case side6=>exact lm4.out)
 rintro e w50 ⟨nr2,nr3,nr4,rfl,ae,ax,bm,hb⟩
 have HS3_:=(hb.cell (World.block_lt_of_cell? _ _ (hHeld.2.2.2.1))).trans (hHeld.2.2.2.1)
 have HS4_:=(hb.cell (World.block_lt_of_cell? _ _ (hHeld.2.2.2.2))).trans (hHeld.2.2.2.2)
 refine⟨_,rfl,?_⟩
 have ip3:=A_ (Kd.R_lower (Kd.R_new' (Kd.R_new' ae (Kd.R_lt (uR_ o5))) (Kd.R_lt (uR_ db4))) (Gz (ir)))
 have ip4:=A_ (Kd.S_lower (Kd.S_new' (Kd.S_new' (Kd.S_new' (Kd.S_new' ax (Kd.R_lt (uR_ o5))) (Kd.S_lt (uS_ o6))) (Kd.R_lt (uR_ db4))) (Kd.R_lt (uR_ dy6))) (Gz (ir)))
 have ip5:=A_ (Kd.R_lower (Kd.R_new' (Kd.R_new' (Kd.R_new' (Kd.R_new' (Kd.R_new' bm (Kd.R_lt (uR_ o5))) (Kd.S_lt (uS_ o6))) (Kd.R_lt (uR_ kj))) (Kd.R_lt (uR_ db4))) (Kd.R_lt (uR_ dy6))) (Gz (ir)))
 replace o5:=A_ (Kd.R_elder' (uR_ o5) (Kd.R_base ae) hb)
 replace o6:=A_ (Kd.S_mono (Kd.S_told (Kd.S_told (Kd.S_old (uS_ o6) hb) (Kd.R_base ae)) (Kd.S_base ax)) (fun _ h_=>h_.1))
 replace kj:=A_ (Kd.R_mono (Kd.R_told (Kd.R_told (Kd.R_told (Kd.R_old (uR_ kj) hb) (Kd.R_base ae)) (Kd.S_base ax)) (Kd.R_base bm)) (fun _ h_=>h_.1))
 replace db4:=A_ (Kd.R_elder' (uR_ db4) (Kd.R_base ae) hb)
 replace dy6:=A_ (Kd.R_mono (Kd.R_told (Kd.R_told (Kd.R_old (uR_ dy6) hb) (Kd.R_base ae)) (Kd.S_base ax)) (fun _ h_=>h_.1))
 replace ib:=bb_ ib hb
 replace jj:=bb_ jj hb
 replace fs:=bb_ fs hb
 replace jc:=bb_ jc hb
 replace db5:=A_ (Kd.C_below (by repeat(first|(with_reducible exact db5.out)|(with_reducible refine Kd.C_alloc ?_ _)|(with_reducible refine Kd.C_drewN ?_ _)|(with_reducible refine Kd.C_drew ?_)|exact db5.out)) hb)
 replace db6:=A_ (Kd.C_below (by repeat(first|(with_reducible exact db6.out)|(with_reducible refine Kd.C_alloc ?_ _)|(with_reducible refine Kd.C_drewN ?_ _)|(with_reducible refine Kd.C_drew ?_)|exact db6.out)) hb)
 replace db7:=A_ (Kd.C_below (by repeat(first|(with_reducible exact db7.out)|(with_reducible refine Kd.C_alloc ?_ _)|(with_reducible refine Kd.C_drewN ?_ _)|(with_reducible refine Kd.C_drew ?_)|exact db7.out)) hb)
 replace HB:=hs_ (ir) hb
 obtain⟨k9,la,cn9⟩:=Kd.R_slice ip3.out
 (first|subst cn9|(injection cn9 with f1_ f2_ f3_;have f4_:=f1_.symm;have f5_:=f3_.symm;clear f1_ f2_ f3_;subst f4_;subst f5_))
 obtain⟨px,pz,cz4⟩:=Kd.S_slice ip4.out
 (first|subst cz4|(injection cz4 with f1_ f2_ f3_;have f4_:=f1_.symm;have f5_:=f3_.symm;clear f1_ f2_ f3_;subst f4_;subst f5_))
 obtain⟨wo,vi,cl0⟩:=Kd.R_slice ip5.out
 (first|subst cl0|(injection cl0 with f1_ f2_ f3_;have f4_:=f1_.symm;have f5_:=f3_.symm;clear f1_ f2_ f3_;subst f4_;subst f5_))
 refine hK.out _ _ ⟨(Gy jc.out 0).trans rfl,(Gy jc.out 1).trans rfl,(Gy jc.out 2).trans rfl,HS3_,HS4_⟩ (fun hHeld=>?_)
 clear hK K
 refine nm_ ?_
 refine one_ (i:=11) (N:=none) (tl_ 13 4095) rfl rfl (Jn HT_.out (g0_)) (by decide) (fun K hK=>?_)
 have lm5:w50.cell? ⟨em,0,none⟩=some (.slice none 0 0):=(Gy fs.out 0).trans rfl
 have lm6:=G7 fs.out 0
 have lm7:=az0.out
 have lm8:=bg2.out
 have nr5:=xj.out
 have lm9:=az1.out
 have ln0:=bg3.out
 have nr6:=xi.out
 have nr7:w50.cell? ⟨em,1,none⟩=some (.slice none 0 0):=(Gy fs.out 1).trans rfl
 have nr8:=G7 fs.out 1
 have jy3:w50.cell? ⟨em,2,none⟩=some (.slice none 0 0):=(Gy fs.out 2).trans rfl
 have jy4:=G7 fs.out 2
 refine skip_ (w1:=?_) (by rfl) rfl ?_ ?_
 rotate_left
 ·go_simp
  rfl
 refine hK.out _ _ ⟨(cf_ xj ((cf_ xj ((cf_ xj (hHeld.1)))))),(cf_ xj ((cf_ xj ((cf_ xj (hHeld.2.1)))))),(cf_ xj ((cf_ xj ((cf_ xj (hHeld.2.2.1)))))),((cell_far (p:=⟨em,_,none⟩) (g114_) _).trans (((cell_far (p:=⟨em,_,none⟩) (g114_) _).trans (((cell_far (p:=⟨em,_,none⟩) (g114_) _).trans (hHeld.2.2.2.1)))))),((cell_far (p:=⟨em,_,none⟩) (g114_) _).trans (((cell_far (p:=⟨em,_,none⟩) (g114_) _).trans (((cell_far (p:=⟨em,_,none⟩) (g114_) _).trans (hHeld.2.2.2.2))))))⟩ (fun hHeld=>?_)
 clear hK K
 refine pw_ 12 5 (tl_ 13 8191) ?_
 refine done_ (done_of HT_.out (g0_)) ?_
 try go_wp2
 refine bodyPost_ret (Jm rfl _ _ em 28 #[.slice k9 cq7.length la, .slice px db3.length pz, .slice wo dy3.length vi] (0,0) _ rfl (ba_ fs) Try.underlying28 rfl (g0_)) rfl ?_
 exact⟨_,_,_,by first|rfl|(simp[errW_none,errW_some] <;> rfl)|(simp only[<- hji24];first|rfl|(simp[errW_none,errW_some] <;> rfl))|(simp[*,errW_none,errW_some] <;> rfl),ra_ ip3,sa_ ip4,ra_ ip5,ir⟩
mutual
def Fy.j0:Nat->List (S69)->Bool->List Int->List (List Int)->List (S25)->Option (List Int × (List (List Int)) × (List (S25)) × Int)
 | 0,_,_,_,_,_=>none
 | k + 1,x1,x18,dz8,dz9,ea0=>if x18=true then(some (([]:List Int),([]:List (List Int)),([]:List (S25)),0)) else((Fp.f k dz8 dz9 ea0).bind fun bt557=>(Fy.l0 k 0 x1 (x1.length:Int) 0 bt557.1 bt557.2.1 bt557.2.2))
def Fy.l0:Nat->Int->List (S69)->Int->Int->List Int->List (List Int)->List (S25)->Option (List Int × (List (List Int)) × (List (S25)) × Int)
 | 0,_,_,_,_,_,_,_=>none
 | k + 1,x6,x22,x23,x24,dz8,dz9,ea0=>if x24 < x23 then(if 0<=x24 then(if x24 < (x22.length:Int) then((F6.f k dz8 dz9 ea0 ((rd_T69 x22 x24).f0) ((rd_T69 x22 x24).f1) ((rd_T69 x22 x24).f2) ((rd_T69 x22 x24).f3)).bind fun bt568=>(if bt568.2.2.2=true then(Fy.l0 k (wrap64 (x6 + 1)) x22 x23 (wrap64 (x24 + 1)) bt568.1 bt568.2.1 bt568.2.2.1) else(Fy.l0 k x6 x22 x23 (wrap64 (x24 + 1)) dz8 dz9 ea0))) else(none)) else(none)) else(some (dz8,dz9,ea0,x6))
end
def Fy.f (k:Nat) (ab:List Int) (aa:List (List Int)) (av:List (S25)) (l1:List (S69)):Option (List Int × (List (List Int)) × (List (S25)) × Int):=(F3.f k ab aa av).bind fun ea1=>(if ea1=true then(Fy.j0 k l1 (decide ((l1.length:Int) > 40)) ab aa av) else(Fy.j0 k l1 true ab aa av))
theorem qt {p:Prop} (h:p:=by repeat(first|(with_reducible first|exact HB.out|apply G3|apply G2|apply G1|refine G0 ?_ lq4.out|refine G0 ?_ lq5.out|refine G0 ?_ ir5.out|refine G0 ?_ ir6.out)|exact HB.out)):p:=h
set_option maxHeartbeats 8000000 in
set_option maxRecDepth 100000 in
theorem Fy.calls (k:Nat) (ah:Option Addr) (af:Nat) (ab:List Int) (ao:Option Addr) (ai:Nat) (aa:List (List Int)) (cy:Option Addr) (cu:Nat) (av:List (S25)) (A1:Option Addr) (c1:Nat) (l1:List (S69)) (r1:List Int) (r2:List (List Int)) (r3:List (S25)) (r4:Int) (w:World) (d4:Kd.C (Kd.int .i64) w ah ab.length ab) (d9:ab.length<=af) (d5:Kd.C (Kd.slice 3 (Kd.int .i64)) w ao aa.length aa) (ea:aa.length<=ai) (l6:Kd.C k25 w cy av.length av) (l7:av.length<=cu) (k0:Kd.C k69 w A1 l1.length l1) (lh:l1.length<=c1) (h:Fy.f k ab aa av l1=some (r1,r2,r3,r4)) :
  Calls Try.prog 61 #[.agg #[.slice ah ab.length af, .slice ao aa.length ai, .slice cy av.length cu], .slice A1 l1.length c1] w fun e w'=>∃v0_ v1_ v2_:Value,e = .returned (.tuple #[.agg #[v0_,v1_,v2_], .int .i64 r4])/\Kd.R (Kd.int .i64) 3 w' w.heap.size (fun _=>True) v0_ r1/\Kd.S (Kd.slice 3 (Kd.int .i64)) 22 w' w.heap.size (fun k_=>some k_≠(v0_:Value).ownBlock) v1_ r2/\Kd.R k25 25 w' w.heap.size (fun k_=>some k_≠(v0_:Value).ownBlock/\some k_≠(v1_:Value).ownBlock) v2_ r3/\Below w.heap.size w w':=by
 have hu28:=Try.underlying28
 have hu69:=Try.underlying69
 have dp:=A_ d4
 have ec:=A_ d9
 clear d4 d9
 have df:=A_ d5
 have ee:=A_ ea
 clear d5 ea
 have m8:=A_ l6
 have re:=A_ l7
 clear l6 l7
 have i8:=A_ k0
 have HC1:=A_ lh
 clear k0 lh
 have HB:=A_ (Below.refl w.heap.size w)
 have H:=h
 unfold Fy.f at H
 clear h
 have HC3:=A_ H
 clear H
 go_enter Try.func61,Try.ntmps61
 go_upto_region 1 with(first|((with_reducible refine gd_ 2 ?_);(try(refine gate_guard (by rfl) ?_;dsimp only));refine bx_ (N:=2) #[.slice ah ab.length af, .slice ao aa.length ai, .slice cy av.length cu] 28 ?_;intro kk hg w4 hbox hb;have jm:=A_ (hbox);have ny9:=A_ ((g32_:w.heap.size<=kk));have lq4:=ny9;replace HB:=hs_ (qt) hb;clear hb hbox hg)|((with_reducible refine gd_ 4 ?_);(try(refine gate_guard (by rfl) ?_;dsimp only));refine bx_ (N:=4) #[.slice none 0 0, .slice none 0 0, .slice none 0 0] 28 ?_;intro qb hg w5 hbox hb;have nx:=A_ (hbox);have nz0:=A_ ((g32_:w.heap.size<=qb));have lq5:=nz0;replace HB:=hs_ (qt) hb;have cr2:=nl_ jm hg;have as7:=nr_ jm hg;replace jm:=bb_ jm hb;clear hb hbox hg))
 (try simp only[Act.put,List.setIfInBounds_toArray,List.set_cons_zero,List.set_cons_succ])
 go_cut [18] (fun v18 wc=>∃(kq:Nat) (bt0:Bool),v18 = .bool bt0/\Gx (Fy.j0 kq l1 bt0 ab aa av=some (r1,r2,r3,r4))/\Gx (kq<=k)/\Gx (hc_ wc kk #[(.slice ah ab.length af),(.slice ao aa.length ai),(.slice cy av.length cu)] 28)/\Gx (hc_ wc qb #[(.slice none 0 0),(.slice none 0 0),(.slice none 0 0)] 28)/\Gx (Below w.heap.size w wc))
 case first=>
  have H:=HC3.out
  clear HC3
  obtain⟨ea1,A6,H⟩:=bind_ H
  by_cases c7:ea1=true
  ·subst c7
   replace H:=ifp_ H
   have H':=A_ H
   clear H
   have ef6:=cr2.out
   have ef7:=as7.out
   obtain⟨at5,at6,dv5,at7,at8,dv6⟩:=blk3_ jm
   go_wp2_with (first|((with_reducible refine gc_ 72 ?_);refine gl_ 12 Try.func72 #[.agg #[.slice ah ab.length af, .slice ao aa.length ai, .slice cy av.length cu]] ?_;(refine(F3.calls k _ _ ab _ _ aa _ _ av true _ (uC_ dp) ec.out (uC_ df) ee.out (uC_ m8) re.out A6.out).mono ?_);rintro e w10 ⟨rfl,hb⟩;refine⟨_,rfl,?_⟩;replace jm:=bb_ jm hb;replace nx:=bb_ nx hb;replace HB:=hs_ (qt) hb))
   go_meet
   case rel=>exact⟨_,(decide ((l1.length:Int) > 40)),(g3_),H',⟨g9_⟩,⟨uB_ jm⟩,⟨uB_ nx⟩,⟨qt⟩⟩
  replace c7:=Bool.eq_false_iff.mpr c7
  subst c7
  replace H:=ifn_ H
  have H':=A_ H
  clear H
  have aq2:=cr2.out
  have aq3:=as7.out
  obtain⟨wu,wv,al7,yf,ww,al8⟩:=blk3_ jm
  go_wp2_with (first|((with_reducible refine gc_ 72 ?_);refine gl_ 12 Try.func72 #[.agg #[.slice ah ab.length af, .slice ao aa.length ai, .slice cy av.length cu]] ?_;(refine(F3.calls k _ _ ab _ _ aa _ _ av false _ (uC_ dp) ec.out (uC_ df) ee.out (uC_ m8) re.out A6.out).mono ?_);rintro e w13 ⟨rfl,hb⟩;refine⟨_,rfl,?_⟩;replace jm:=bb_ jm hb;replace nx:=bb_ nx hb;replace HB:=hs_ (qt) hb))
  go_meet
  case rel=>exact⟨_,(true),(g3_),H',⟨g9_⟩,⟨uB_ jm⟩,⟨uB_ nx⟩,⟨qt⟩⟩
 clear HC3
 obtain⟨kq,bt0,rfl,HA,HJ2,jm,nx,HB⟩:=hcut
 cases kq with
 | zero=>exact absurd HA.out (by simp[Fy.j0])
 | succ kj2=>?_
 have H:=HA.out
 clear HA
 simp only[Fy.j0] at H
 by_cases iw:bt0=true
 ·subst iw
  replace H:=ifp_ H
  simp only[Option.some.injEq,Prod.mk.injEq] at H
  obtain⟨rfl,rfl,rfl,rfl⟩:=H
  have cw5:=as7.out
  have cw6:=cr2.out
  obtain⟨ba9,bb0,fz8,bb1,bb2,fz9⟩:=blk3_ nx
  go_wp2
  refine bodyPost_ret (Jm rfl _ _ qb 28 #[.slice none 0 0, .slice none 0 0, .slice none 0 0] (0,0) _ rfl (ba_ nx) Try.underlying28 rfl (g0_)) rfl ?_
  exact⟨_,_,_,g4_,g24_,g33_,g24_,qt⟩
 replace iw:=Bool.eq_false_iff.mpr iw
 subst iw
 replace H:=ifn_ H
 replace H:=Option.bind_eq_some_iff.mp H
 obtain⟨⟨ce4,cr3,dc3⟩,dv7,H⟩:=H
 try dsimp only at H
 have A17:=A_ dv7
 clear dv7
 have H':=A_ H
 clear H
 have dg8:=cr2.out
 have dg9:=as7.out
 obtain⟨dh0,dh1,dh2,dh3,dh4,dh5⟩:=blk3_ jm
 go_wp2_with (first|((with_reducible refine gc_ 104 ?_);refine gl_ 21 Try.func104 #[.agg #[.slice ah ab.length af, .slice ao aa.length ai, .slice cy av.length cu]] ?_;(refine(Fp.calls kj2 _ _ ab _ _ aa _ _ av ce4 cr3 dc3 _ (uC_ dp) ec.out (uC_ df) ee.out (uC_ m8) re.out A17.out).mono ?_);rintro e j4 ⟨nz1,nz2,nz3,rfl,ae,ax,bm,hb⟩;refine⟨_,rfl,?_⟩;have ir7:=A_ (Kd.R_lower ae (Gz (qt)));have ir8:=A_ (Kd.S_lower ax (Gz (qt)));have ir9:=A_ (Kd.R_lower bm (Gz (qt)));replace jm:=bb_ jm hb;replace nx:=bb_ nx hb;replace HB:=hs_ (qt) hb;obtain⟨cr4,zg,bg4⟩:=Kd.R_slice ir7.out;subst bg4;obtain⟨ap2,ap3,ei3,ap4,ap5,ei4⟩:=blk3_ jm;obtain⟨lq,g5,cm0⟩:=Kd.S_slice ir8.out;subst cm0;obtain⟨aw,ag,bi6⟩:=Kd.R_slice ir9.out;subst bi6))
 go_loopg [6,24] kj2 (fun kq v6 v24 w'=>∃(n7:Int) (fi:Int) (qp:List Int) (ru:List (List Int)) (tp:List (S25)) (bv0:Value) (ce5:Value) (cr5:Value),v6 = .int .i64 n7/\v24 = .int .i64 fi/\Gx (Fy.l0 kq n7 l1 (l1.length:Int) fi qp ru tp=some (r1,r2,r3,r4))/\Gx (kq<=kj2)/\Gx (Kd.R (Kd.int .i64) 3 w' w.heap.size (fun _=>True) bv0 qp)/\Gx (Kd.S (Kd.slice 3 (Kd.int .i64)) 22 w' w.heap.size (fun k_=>some k_≠(bv0:Value).ownBlock) ce5 ru)/\Gx (Kd.R k25 25 w' w.heap.size (fun k_=>some k_≠(bv0:Value).ownBlock/\some k_≠(ce5:Value).ownBlock) cr5 tp)/\Gx (hc_ w' kk #[bv0,ce5,cr5] 28)/\Gx (hc_ w' qb #[(.slice none 0 0),(.slice none 0 0),(.slice none 0 0)] 28)/\Gx (Below w.heap.size w w'))
 case atStart=>exact⟨(0),(0),(ce4),(cr3),(dc3),(.slice cr4 ce4.length zg),(.slice lq cr3.length g5),(.slice aw dc3.length ag),(g3_),(g3_),H',⟨Nat.le_refl _⟩,⟨ra_ ir7⟩,⟨sa_ ir8⟩,⟨ra_ ir9⟩,⟨ba_ jm⟩,⟨ba_ nx⟩,⟨qt⟩⟩
 clear H'
 obtain⟨n7,fi,qp,ru,tp,bv0,ce5,cr5,rfl,rfl,HA,HK2,zh,zi,zj,jm,nx,HB⟩:=hrel
 cases gk with
 | zero=>exact absurd HA.out (by simp[Fy.l0])
 | succ k2=>?_
 have H:=HA.out
 clear HA
 simp only[Fy.l0] at H
 by_cases mw:fi < (l1.length:Int)
 case neg=>
  rw[if_neg mw] at H
  have bh8:=decide_eq_false mw
  clear mw
  simp only[Option.some.injEq,Prod.mk.injEq] at H
  obtain⟨rfl,rfl,rfl,rfl⟩:=H
  obtain⟨dt9,du0,du1,du2,du3,du4⟩:=blk3_ jm
  obtain⟨az2,az3,gm0⟩:=Kd.R_slice zh.out
  subst gm0
  obtain⟨ga9,gb0,gb1,gb2,gb3,gb4⟩:=blk3_ nx
  obtain⟨be9,bf0,gb5⟩:=Kd.S_slice zi.out
  subst gb5
  obtain⟨oa,ob,dw0⟩:=Kd.R_slice zj.out
  subst dw0
  go_wp2
  refine bodyPost_ret (Jm rfl _ _ qb 28 #[.slice az2 qp.length az3, .slice be9 ru.length bf0, .slice oa tp.length ob] (0,0) _ rfl (ba_ nx) Try.underlying28 rfl (g0_)) rfl ?_
  exact⟨_,_,_,g4_,ra_ zh,sa_ zi,ra_ zj,qt⟩
 rw[if_pos mw] at H
 have bh8:=decide_eq_true mw
 clear mw
 obtain⟨ch7,H⟩:=pd_ H
 obtain⟨bx6,H⟩:=pd_ H
 replace H:=Option.bind_eq_some_iff.mp H
 obtain⟨⟨ai6,an3,as8,lq6⟩,is0,H⟩:=H
 try dsimp only at H
 have A28:=A_ is0
 clear is0
 by_cases tc:lq6=true
 ·subst tc
  replace H:=ifp_ H
  have H':=A_ H
  clear H
  obtain⟨⟨lq7,gk7,ea2,ea3,ea4,ea5⟩,cr6,cr7⟩:=rdp_ (at_T69 i8.out fi)
  cases gk7
  replace ea2:=cl_ HB ea2
  replace ea3:=cl_ HB ea3
  replace ea4:=cl_ HB ea4
  replace ea5:=cl_ HB ea5
  go_wp2_with (first|((with_reducible refine gd_ 8 ?_);(try(refine gate_guard (by rfl) ?_;dsimp only));refine bx_ (N:=8) #[.int .i64 0, .int .i64 0, .int .i64 0, .int .i64 0] 69 ?_;intro nj hg w30 hbox hb;replace zh:=rb_ zh hb;replace zi:=sb_ zi hb;replace zj:=rb_ zj hb;have zk:=A_ (hbox);have lq8:=A_ ((g32_:w.heap.size<=nj));have ir5:=lq8;replace HB:=hs_ (qt) hb;have bg5:=nl_ jm hg;have gk8:=nr_ jm hg;replace jm:=bb_ jm hb;have bg6:=nl_ nx hg;have gk9:=nr_ nx hg;replace nx:=bb_ nx hb;clear hb hbox hg;have ej0:=gk8.out;have ej1:=bg5.out;have cb8:=gk9.out;have cb9:=bg6.out;obtain⟨fk6,fk7,gz1,nz4,fk8,fk9,gz2,nz5⟩:=blk4_ zk;have cy5:=cr2.out;have cy6:=as7.out;obtain⟨bi2,bi3,br9,bi4,bi5,bs0⟩:=blk3_ jm;obtain⟨ue,tq,dl9⟩:=Kd.R_slice zh.out;subst dl9;obtain⟨pi,o3,da5⟩:=Kd.S_slice zi.out;subst da5;obtain⟨ma,ka,av5⟩:=Kd.R_slice zj.out;subst av5)|((with_reducible refine gc_ 102 ?_);refine gl_ 31 Try.func102 #[.agg #[.slice ue qp.length tq, .slice pi ru.length o3, .slice ma tp.length ka], .agg #[.int .i64 ((rd_T69 l1 fi).f0), .int .i64 ((rd_T69 l1 fi).f1), .int .i64 ((rd_T69 l1 fi).f2), .int .i64 ((rd_T69 l1 fi).f3)]] ?_;(with_reducible refine(F6.calls k2 _ _ qp _ _ ru _ _ tp ((rd_T69 l1 fi).f0) ((rd_T69 l1 fi).f1) ((rd_T69 l1 fi).f2) ((rd_T69 l1 fi).f3) ai6 an3 as8 true _ ?side1 ?side2 ?side3 ?side4 ?side5 ?side6 A28.out).mono ?_);(case side1=>refine(Kd.R_reads' (e:=3) (base:=w.heap.size) (ok:=fun k_=>True) (n:=qp.length) (c:=tq) ?_).2.2;exact(ra_ zh));(case side2=>exact lR_ zh);(case side3=>refine(Kd.S_reads' (e:=22) (base:=w.heap.size) (ok:=fun k_=>some k_≠(.slice ue qp.length tq:Value).ownBlock) (n:=ru.length) (c:=o3) ?_).2.2;exact(sa_ zi));(case side4=>exact lS_ zi);(case side5=>refine(Kd.R_reads' (e:=25) (base:=w.heap.size) (ok:=fun k_=>(some k_≠(.slice ue qp.length tq:Value).ownBlock/\some k_≠(.slice pi ru.length o3:Value).ownBlock)) (n:=tp.length) (c:=ka) ?_).2.2;exact(ra_ zj));(case side6=>exact lR_ zj);rintro e w39 ⟨lq9,lr0,lr1,rfl,ae,ax,bm,hb⟩;refine⟨_,rfl,?_⟩;have ce6:=A_ (Kd.R_lower (Kd.R_new' ae (Kd.R_lt (ra_ zh))) (Gz (qt)));have ce7:=A_ (Kd.S_lower (Kd.S_new' (Kd.S_new' ax (Kd.R_lt (ra_ zh))) (Kd.S_lt (sa_ zi))) (Gz (qt)));have ce8:=A_ (Kd.R_lower (Kd.R_new' (Kd.R_new' (Kd.R_new' bm (Kd.R_lt (ra_ zh))) (Kd.S_lt (sa_ zi))) (Kd.R_lt (ra_ zj))) (Gz (qt)));replace zh:=A_ (Kd.R_elder' (ra_ zh) (Kd.R_base ae) hb);replace zi:=A_ (Kd.S_mono (Kd.S_told (Kd.S_told (Kd.S_old (sa_ zi) hb) (Kd.R_base ae)) (Kd.S_base ax)) (fun _ h_=>h_.1));replace zj:=A_ (Kd.R_mono (Kd.R_told (Kd.R_told (Kd.R_told (Kd.R_old (ra_ zj) hb) (Kd.R_base ae)) (Kd.S_base ax)) (Kd.R_base bm)) (fun _ h_=>h_.1));replace jm:=A_ (G8 (g:=kk) (o:=.cells #[.slice ue qp.length tq, .slice pi ru.length o3, .slice ma tp.length ka] 28 (0,0)) (ba_ jm) hb);replace nx:=A_ (G8 (g:=qb) (o:=.cells #[.slice none 0 0, .slice none 0 0, .slice none 0 0] 28 (0,0)) (ba_ nx) hb);replace zk:=A_ (G8 (g:=nj) (o:=.cells #[.int .i64 ((rd_T69 l1 fi).f0), .int .i64 ((rd_T69 l1 fi).f1), .int .i64 ((rd_T69 l1 fi).f2), .int .i64 ((rd_T69 l1 fi).f3)] 69 (0,0)) (ba_ zk) hb);replace HB:=hs_ (qt) hb)|((with_reducible refine gd_ 9 ?_);(try(refine gate_guard (by rfl) ?_;dsimp only));refine bx_ (N:=9) #[.slice none 0 0, .slice none 0 0, .slice none 0 0] 28 ?_;intro nk hg w40 hbox hb;replace zh:=rb_ zh hb;replace zi:=sb_ zi hb;replace zj:=rb_ zj hb;replace ce6:=rb_ ce6 hb;replace ce7:=sb_ ce7 hb;replace ce8:=rb_ ce8 hb;have bv1:=A_ (hbox);have lr2:=A_ ((g32_:w.heap.size<=nk));have ir6:=lr2;replace HB:=hs_ (qt) hb;have bv2:=nl_ jm hg;have gl0:=nr_ jm hg;replace jm:=bb_ jm hb;have bv3:=nl_ nx hg;have gl1:=nr_ nx hg;replace nx:=bb_ nx hb;have gl2:=nl_ zk hg;have gl3:=nr_ zk hg;replace zk:=bb_ zk hb;clear hb hbox hg;obtain⟨ku,j3,ah1⟩:=Kd.R_slice ce6.out;subst ah1;have kl0:=gl0.out;have kl1:=bv2.out;have kl2:=gl1.out;have kl3:=bv3.out;have fs7:=gl3.out;have fs8:=gl2.out;obtain⟨kl4,kl5,kl6,kl7,kl8,kl9⟩:=blk3_ bv1;obtain⟨ag5,ag6,fp3⟩:=Kd.S_slice ce7.out;subst fp3;obtain⟨vj,vk,cb7⟩:=Kd.R_slice ce8.out;subst cb7;obtain⟨ds2,ds3,hx8,ds4,ds5,hx9⟩:=blk3_ jm))
  go_roundg k2
  case measure=>have:=HJ2.out;have:=HK2.out;omega
  case rel=>exact⟨(wrap64 (n7 + 1)),(wrap64 (fi + 1)),(ai6),(an3),(as8),(.slice ku ai6.length j3),(.slice ag5 an3.length ag6),(.slice vj as8.length vk),(g3_),(g3_),H',⟨g149_⟩,⟨ra_ ce6⟩,⟨sa_ ce7⟩,⟨ra_ ce8⟩,⟨ba_ jm⟩,⟨ba_ nx⟩,⟨qt⟩⟩
 replace tc:=Bool.eq_false_iff.mpr tc
 subst tc
 replace H:=ifn_ H
 have H':=A_ H
 clear H
 obtain⟨⟨lq7,gk7,ea2,ea3,ea4,ea5⟩,cr6,cr7⟩:=rdp_ (at_T69 i8.out fi)
 cases gk7
 replace ea2:=cl_ HB ea2
 replace ea3:=cl_ HB ea3
 replace ea4:=cl_ HB ea4
 replace ea5:=cl_ HB ea5
 go_wp2_with (first|((with_reducible refine gd_ 8 ?_);(try(refine gate_guard (by rfl) ?_;dsimp only));refine bx_ (N:=8) #[.int .i64 0, .int .i64 0, .int .i64 0, .int .i64 0] 69 ?_;intro nj hg w49 hbox hb;replace zh:=rb_ zh hb;replace zi:=sb_ zi hb;replace zj:=rb_ zj hb;have zk:=A_ (hbox);have lq8:=A_ ((g32_:w.heap.size<=nj));have ir5:=lq8;replace HB:=hs_ (qt) hb;have bg5:=nl_ jm hg;have gk8:=nr_ jm hg;replace jm:=bb_ jm hb;have bg6:=nl_ nx hg;have gk9:=nr_ nx hg;replace nx:=bb_ nx hb;clear hb hbox hg;have er9:=gk8.out;have es0:=bg5.out;have nz6:=gk9.out;have nz7:=bg6.out;obtain⟨nz8,nz9,oa0,oa1,oa2,oa3,oa4,oa5⟩:=blk4_ zk;have hy4:=cr2.out;have hy5:=as7.out;obtain⟨is1,is2,is3,is4,is5,is6⟩:=blk3_ jm;obtain⟨wo,vi,cl0⟩:=Kd.R_slice zh.out;subst cl0;obtain⟨ar1,al0,en0⟩:=Kd.S_slice zi.out;subst en0;obtain⟨ol,n9,fx5⟩:=Kd.R_slice zj.out;subst fx5)|((with_reducible refine gc_ 102 ?_);refine gl_ 31 Try.func102 #[.agg #[.slice wo qp.length vi, .slice ar1 ru.length al0, .slice ol tp.length n9], .agg #[.int .i64 ((rd_T69 l1 fi).f0), .int .i64 ((rd_T69 l1 fi).f1), .int .i64 ((rd_T69 l1 fi).f2), .int .i64 ((rd_T69 l1 fi).f3)]] ?_;(with_reducible refine(F6.calls k2 _ _ qp _ _ ru _ _ tp ((rd_T69 l1 fi).f0) ((rd_T69 l1 fi).f1) ((rd_T69 l1 fi).f2) ((rd_T69 l1 fi).f3) ai6 an3 as8 false _ ?side1 ?side2 ?side3 ?side4 ?side5 ?side6 A28.out).mono ?_);(case side1=>refine(Kd.R_reads' (e:=3) (base:=w.heap.size) (ok:=fun k_=>True) (n:=qp.length) (c:=vi) ?_).2.2;exact(ra_ zh));(case side2=>exact lR_ zh);(case side3=>refine(Kd.S_reads' (e:=22) (base:=w.heap.size) (ok:=fun k_=>some k_≠(.slice wo qp.length vi:Value).ownBlock) (n:=ru.length) (c:=al0) ?_).2.2;exact(sa_ zi));(case side4=>exact lS_ zi);(case side5=>refine(Kd.R_reads' (e:=25) (base:=w.heap.size) (ok:=fun k_=>(some k_≠(.slice wo qp.length vi:Value).ownBlock/\some k_≠(.slice ar1 ru.length al0:Value).ownBlock)) (n:=tp.length) (c:=n9) ?_).2.2;exact(ra_ zj));(case side6=>exact lR_ zj);rintro e m0 ⟨lq9,lr0,lr1,rfl,ae,ax,bm,hb⟩;refine⟨_,rfl,?_⟩;have ce6:=A_ (Kd.R_lower (Kd.R_new' ae (Kd.R_lt (ra_ zh))) (Gz (qt)));have ce7:=A_ (Kd.S_lower (Kd.S_new' (Kd.S_new' ax (Kd.R_lt (ra_ zh))) (Kd.S_lt (sa_ zi))) (Gz (qt)));have ce8:=A_ (Kd.R_lower (Kd.R_new' (Kd.R_new' (Kd.R_new' bm (Kd.R_lt (ra_ zh))) (Kd.S_lt (sa_ zi))) (Kd.R_lt (ra_ zj))) (Gz (qt)));replace zh:=A_ (Kd.R_elder' (ra_ zh) (Kd.R_base ae) hb);replace zi:=A_ (Kd.S_mono (Kd.S_told (Kd.S_told (Kd.S_old (sa_ zi) hb) (Kd.R_base ae)) (Kd.S_base ax)) (fun _ h_=>h_.1));replace zj:=A_ (Kd.R_mono (Kd.R_told (Kd.R_told (Kd.R_told (Kd.R_old (ra_ zj) hb) (Kd.R_base ae)) (Kd.S_base ax)) (Kd.R_base bm)) (fun _ h_=>h_.1));replace jm:=A_ (G8 (g:=kk) (o:=.cells #[.slice wo qp.length vi, .slice ar1 ru.length al0, .slice ol tp.length n9] 28 (0,0)) (ba_ jm) hb);replace nx:=A_ (G8 (g:=qb) (o:=.cells #[.slice none 0 0, .slice none 0 0, .slice none 0 0] 28 (0,0)) (ba_ nx) hb);replace zk:=A_ (G8 (g:=nj) (o:=.cells #[.int .i64 ((rd_T69 l1 fi).f0), .int .i64 ((rd_T69 l1 fi).f1), .int .i64 ((rd_T69 l1 fi).f2), .int .i64 ((rd_T69 l1 fi).f3)] 69 (0,0)) (ba_ zk) hb);replace HB:=hs_ (qt) hb)|((with_reducible refine gd_ 9 ?_);(try(refine gate_guard (by rfl) ?_;dsimp only));refine bx_ (N:=9) #[.slice none 0 0, .slice none 0 0, .slice none 0 0] 28 ?_;intro nk hg w59 hbox hb;replace zh:=rb_ zh hb;replace zi:=sb_ zi hb;replace zj:=rb_ zj hb;replace ce6:=rb_ ce6 hb;replace ce7:=sb_ ce7 hb;replace ce8:=rb_ ce8 hb;have bv1:=A_ (hbox);have lr2:=A_ ((g32_:w.heap.size<=nk));have ir6:=lr2;replace HB:=hs_ (qt) hb;have bv2:=nl_ jm hg;have gl0:=nr_ jm hg;replace jm:=bb_ jm hb;have bv3:=nl_ nx hg;have gl1:=nr_ nx hg;replace nx:=bb_ nx hb;have gl2:=nl_ zk hg;have gl3:=nr_ zk hg;replace zk:=bb_ zk hb;clear hb hbox hg;obtain⟨gl4,gl5,lr3⟩:=Kd.R_slice ce6.out;subst lr3;have is7:=gl0.out;have is8:=bv2.out;have ey9:=gl1.out;have ez0:=bv3.out;have ip8:=gl3.out;have ip9:=gl2.out;obtain⟨gj8,gj9,iq0,gk0,gk1,iq1⟩:=blk3_ bv1;obtain⟨cr8,cr9,gl6⟩:=Kd.S_slice ce7.out;subst gl6;obtain⟨gl8,gl9,lr4⟩:=Kd.R_slice ce8.out;subst lr4))
 go_roundg k2
 case measure=>have:=HJ2.out;have:=HK2.out;omega
 case rel=>exact⟨(n7),(wrap64 (fi + 1)),(qp),(ru),(tp),(.slice wo qp.length vi),(.slice ar1 ru.length al0),(.slice ol tp.length n9),(g3_),(g3_),H',⟨g149_⟩,⟨ra_ zh⟩,⟨sa_ zi⟩,⟨ra_ zj⟩,⟨ba_ jm⟩,⟨ba_ nx⟩,⟨qt⟩⟩
def Jo (w0 W:World) (g:Nat) (f0:List Int) (f1:Int):Prop:=∃A0 c0,W.heap[g]? = some (.cells #[.slice A0 f0.length c0, .int .i64 f1] 112 (0,0))/\w0.heap.size<=g/\Kd.C (Kd.int .u8) w0 A0 f0.length f0
theorem Jo.grown {w0 W:World} {g:Nat} {f0:List Int} {f1:Int} {W1:World} {row:Option Nat} (h:Jo w0 W g f0 f1) (hw:W.grownBy W1 row) (hne:some g≠row):Jo w0 W1 g f0 f1:=by
 obtain⟨A0,c0,hb,hg,gq⟩:=h
 exact⟨A0,c0,Jd hb hw hne,hg,gq⟩
theorem Jo.below {w0 W:World} {g:Nat} {f0:List Int} {f1:Int} {W1:World} (h:Jo w0 W g f0 f1) (hw:Below W.heap.size W W1):Jo w0 W1 g f0 f1:=h.grown (grown_of_below hw none) (by simp)
theorem Jo.drewN {w0 W:World} {g:Nat} {f0:List Int} {f1:Int} (h:Jo w0 W g f0 f1) (m:Nat):Jo w0 (W.drewN m) g f0 f1:=h
theorem Jo.drew {w0 W:World} {g:Nat} {f0:List Int} {f1:Int} (h:Jo w0 W g f0 f1):Jo w0 W.drew g f0 f1:=h
theorem Jo.apart {w0 W:World} {g:Nat} {f0:List Int} {f1:Int} {α:Type} {d:Kd α} {e:Nat} {base:Nat} {ok:Nat->Prop} {v:Value} {xs:List α} (h:Jo w0 W g f0 f1) (ho:d.R e W base ok v xs) (ht:∀q,q ∈ e :: d.E->q≠112):d.R e W base (fun k=>ok k/\k≠g) v xs:=by
 obtain⟨A0,c0,hb,hg,gq⟩:=h
 exact Kd.R_types ho hb ht
theorem Jo.own_ne {w0 W:World} {g:Nat} {f0:List Int} {f1:Int} {α:Type} {d:Kd α} {e:Nat} {base:Nat} {ok:Nat->Prop} {v:Value} {xs:List α} (h:Jo w0 W g f0 f1) (ho:d.R e W base ok v xs) (ht:e≠112):some g≠v.ownBlock:=by
 obtain⟨A0,c0,hb,hg,gq⟩:=h
 exact Kd.R_ne ho hb ht
theorem Jo.apartQ {w0 W:World} {g:Nat} {f0:List Int} {f1:Int} {α:Type} {d:Kd α} {e:Nat} {base:Nat} {ok:Nat->Prop} {v:Value} {xs:List α} (h:Jo w0 W g f0 f1) (ho:d.Q e W base ok v xs) (ht:∀q,q ∈ e :: d.E->q≠112):d.Q e W base (fun k=>ok k/\k≠g) v xs:=by
 obtain⟨A0,c0,hb,hg,gq⟩:=h
 exact Kd.Q_types ho hb ht
theorem Jo.own_neQ {w0 W:World} {g:Nat} {f0:List Int} {f1:Int} {α:Type} {d:Kd α} {e:Nat} {base:Nat} {ok:Nat->Prop} {v:Value} {xs:List α} (h:Jo w0 W g f0 f1) (ho:d.Q e W base ok v xs) (ht:e≠112):some g≠v.ownBlock:=by
 obtain⟨A0,c0,hb,hg,gq⟩:=h
 exact Kd.Q_ne ho hb ht
theorem Jo.apartS {w0 W:World} {g:Nat} {f0:List Int} {f1:Int} {α:Type} {d:Kd α} {e:Nat} {base:Nat} {ok:Nat->Prop} {v:Value} {xs:List α} (h:Jo w0 W g f0 f1) (ho:d.S e W base ok v xs) (ht:∀q,q ∈ e :: d.E->q≠112):d.S e W base (fun k=>ok k/\k≠g) v xs:=by
 obtain⟨A0,c0,hb,hg,gq⟩:=h
 exact Kd.S_types ho hb ht
theorem Jo.own_neS {w0 W:World} {g:Nat} {f0:List Int} {f1:Int} {α:Type} {d:Kd α} {e:Nat} {base:Nat} {ok:Nat->Prop} {v:Value} {xs:List α} (h:Jo w0 W g f0 f1) (ho:d.S e W base ok v xs) (ht:e≠112):some g≠v.ownBlock:=by
 obtain⟨A0,c0,hb,hg,gq⟩:=h
 exact Kd.S_ne ho hb ht
theorem Jo.lt {w0 W:World} {g:Nat} {f0:List Int} {f1:Int} (h:Jo w0 W g f0 f1):g < W.heap.size:=by
 obtain⟨A0,c0,hb,hg,gq⟩:=h
 exact blk_lt hb
theorem Jo.ge {w0 W:World} {g:Nat} {f0:List Int} {f1:Int} (h:Jo w0 W g f0 f1):w0.heap.size<=g:=by
 obtain⟨A0,c0,hb,hg,gq⟩:=h
 exact hg
theorem Jo.ne_blk {w0 W:World} {g:Nat} {f0:List Int} {f1:Int} {a:Nat} {cs:Array Value} {t:TypeId} {fr:Nat × Nat} (h:Jo w0 W g f0 f1) (hb2:W.heap[a]? = some (.cells cs t fr)) (ht:t≠112):g≠a:=by
 obtain⟨A0,c0,hb,hg,gq⟩:=h
 rintro rfl
 rw[hb] at hb2
 injection hb2 with hb2
 injection hb2 with _ ht2
 exact ht ht2.symm
theorem Jo.far {w0 W:World} {g:Nat} {f0:List Int} {f1:Int} {p:Addr} (h:Jo w0 W g f0 f1) (hne:g≠p.block) (u:Value):Jo w0 (W.setCell p u) g f0 f1:=by
 obtain⟨A0,c0,hb,hg,gq⟩:=h
 exact⟨A0,c0,Je hb hne u,hg,gq⟩
theorem cellS112_0 {W:World} {g:Nat} {A0:Option Addr} {c0:Nat} {f0:List Int} {f1:Int} (h:W.heap[g]? = some (.cells #[.slice A0 f0.length c0, .int .i64 f1] 112 (0,0))):W.cell? ⟨g,0,none⟩=some (.slice A0 f0.length c0):=(Gy h 0).trans rfl
theorem cellS112_1 {W:World} {g:Nat} {A0:Option Addr} {c0:Nat} {f0:List Int} {f1:Int} (h:W.heap[g]? = some (.cells #[.slice A0 f0.length c0, .int .i64 f1] 112 (0,0))):W.cell? ⟨g,1,none⟩=some (.int .i64 f1):=(Gy h 1).trans rfl
theorem Jo.set_1 {w0 W:World} {g:Nat} {f0:List Int} {f1:Int} (h:Jo w0 W g f0 f1) (x:Int):Jo w0 (W.setCell ⟨g,1,none⟩ (.int .i64 x)) g f0 x:=by
 obtain⟨A0,c0,hb,hg,gq⟩:=h
 exact⟨A0,c0,by simpa using blk_set hb 1 (.int .i64 x),hg,gq⟩
def Gu.f (l0:List Int):Option (List Int × Int):=if (l0.length:Int) > 2000 then(if 2000<=(l0.length:Int) then(some (l0.take 2000,0)) else(none)) else(some (l0,0))
theorem fd2 {p:Prop} (h:p:=by repeat(first|(with_reducible first|exact HB.out|apply G3|apply G2|apply G1|refine G0 ?_ is9.out|refine G0 ?_ it0.out)|exact HB.out)):p:=h
theorem gs2 {p:Prop} (h:p:=by repeat(first|(with_reducible first|exact HBW.out|apply G3|apply G2|apply G1|refine G0 ?_ lr5.out|refine G0 ?_ lr6.out)|exact HBW.out)):p:=h
set_option maxHeartbeats 8000000 in
set_option maxRecDepth 100000 in
theorem Gu.calls (A0:Option Addr) (c0:Nat) (l0:List Int) (r1:List Int) (r2:Int) (w0 w:World) (hB:Below w0.heap.size w0 w) (gq:Kd.C (Kd.int .u8) w0 A0 l0.length l0) (i2:l0.length<=c0) (h:Gu.f l0=some (r1,r2)) :
  Calls Try.prog 69 #[.slice A0 l0.length c0] w fun e w'=>∃g_:Nat,e = .returned (.pointer (some ⟨g_,0,none⟩))/\Jo w0 w' g_ r1 r2/\Below w0.heap.size w0 w'/\Below w.heap.size w w':=by
 have hu112:=Try.underlying112
 have ks:=A_ gq
 have uc:=A_ i2
 clear gq i2
 have HBW:=A_ (Below.refl w.heap.size w)
 have HW0:=A_ hB.size
 have HB:=A_ hB
 clear hB
 have H:=h
 unfold Gu.f at H
 clear h
 by_cases c2:(l0.length:Int) > 2000
 case neg=>
  rw[if_neg c2] at H
  have bn2:=decide_eq_false c2
  have ea6:decide (2000 < l0.length)=false:=decide_eq_false (by omega)
  clear c2
  simp only[Option.some.injEq,Prod.mk.injEq] at H
  obtain⟨rfl,rfl⟩:=H
  go_enter Try.func69,Try.ntmps69
  go_wp2_with (first|((with_reducible refine gd_ 10 ?_);refine bx_ (N:=10) #[.slice A0 l0.length c0, .int .i64 0] 112 ?_;intro fb6 hg w6 hbox hb;replace HB:=hs_ (fd2) hb;have lr9:=A_ (hbox);have lr6:=A_ ((g160_:w.heap.size<=fb6));have it0:=A_ (Nat.le_trans HW0.out lr6.out);replace HBW:=A_ (Jg HBW.out hb);clear hb hbox hg))
  go_ret
  exact⟨_,rfl,(show Jo w0 _ fb6 l0 0 from⟨_,_,uB_ lr9,it0.out,ks.out⟩),fd2,gs2⟩
 rw[if_pos c2] at H
 have bn2:=decide_eq_true c2
 have ea6:decide (2000 < l0.length)=true:=decide_eq_true (by omega)
 clear c2
 obtain⟨c3,H⟩:=pos_ H
 have nt:=eq_true c3
 have xz:=decide_eq_true c3
 clear c3
 simp only[Option.some.injEq,Prod.mk.injEq] at H
 obtain⟨rfl,rfl⟩:=H
 obtain⟨i04,it1,_,hsz4,_⟩:=info_parts info5
 obtain⟨hcut4,hA4,hC4⟩:=print_take_of (P:=Try.prog) (Value.int .u8) 0 33 5 .i64 Try.underlying33 it1 hsz4 A0 c0 l0 2000 (by omega) (od_) uc.out
 have lr7:=A_ (Kd.C_of_reads (h1:=fun _=>rfl) (hA4 _ (Kd.reads_of_C ks.out)))
 have oa6:=A_ hC4
 clear hA4 hC4 it1 hsz4
 go_enter Try.func69,Try.ntmps69
 go_wp2_with (first|((with_reducible refine gd_ 10 ?_);refine bx_ (N:=10) #[.slice A0 (l0.take 2000).length c0, .int .i64 0] 112 ?_;intro fb5 hg w5 hbox hb;replace HB:=hs_ (fd2) hb;have lr8:=A_ (hbox);have lr5:=A_ ((g160_:w.heap.size<=fb5));have is9:=A_ (Nat.le_trans HW0.out lr5.out);replace HBW:=A_ (Jg HBW.out hb);clear hb hbox hg))
 go_ret
 exact⟨_,rfl,(show Jo w0 _ fb5 (l0.take 2000) 0 from⟨_,_,uB_ lr8,is9.out,lr7.out⟩),fd2,gs2⟩
def Fa.j0:Nat->Int->Bool->List Int->Int->Option (Int × Int)
 | 0,_,_,_,_=>none
 | k + 1,x1,x24,jv,nl=>if x24=true then(some (0,nl)) else(if (wrap64 (nl - 1)) < (jv.length:Int) then(if 0<=(wrap64 (nl - 1)) then(if x1=0 then(none) else(some (Int.tmod (wrap64 (rd jv (wrap64 (nl - 1)))) x1,nl))) else(none)) else(if (jv.length:Int)=0 then(none) else(if 0<=(Int.tmod (wrap64 (nl - 1)) (jv.length:Int)) then(if (Int.tmod (wrap64 (nl - 1)) (jv.length:Int)) < (jv.length:Int) then(if 0<=(Int.tmod (wrap64 ((wrap64 ((wrap64 (nl - 1)) * 7)) + 3)) (jv.length:Int)) then(if (Int.tmod (wrap64 ((wrap64 ((wrap64 (nl - 1)) * 7)) + 3)) (jv.length:Int)) < (jv.length:Int) then(if x1=0 then(none) else(some (Int.tmod (Go.bits .xor .i64 (wrap64 ((wrap64 ((wrap64 ((wrap64 ((wrap64 (rd jv (Int.tmod (wrap64 (nl - 1)) (jv.length:Int)))) * 131)) + (wrap64 ((wrap64 (rd jv (Int.tmod (wrap64 ((wrap64 ((wrap64 (nl - 1)) * 7)) + 3)) (jv.length:Int)))) * 1117)))) + (wrap64 ((wrap64 (nl - 1)) * 29)))) + (wrap64 ((wrap64 (Int.tdiv (wrap64 (nl - 1)) (jv.length:Int))) * 53)))) (wrap64 (Int.tdiv (wrap64 ((wrap64 ((wrap64 ((wrap64 ((wrap64 (rd jv (Int.tmod (wrap64 (nl - 1)) (jv.length:Int)))) * 131)) + (wrap64 ((wrap64 (rd jv (Int.tmod (wrap64 ((wrap64 ((wrap64 (nl - 1)) * 7)) + 3)) (jv.length:Int)))) * 1117)))) + (wrap64 ((wrap64 (nl - 1)) * 29)))) + (wrap64 ((wrap64 (Int.tdiv (wrap64 (nl - 1)) (jv.length:Int))) * 53)))) 64))) x1,nl))) else(none)) else(none)) else(none)) else(none))))
def Fa.f (k:Nat) (ay:List Int) (eh:Int) (a1:Int):Option (Int × Int):=if a1 < 1 then(Fa.j0 k a1 true ay (wrap64 (eh + 1))) else(Fa.j0 k a1 ((ay.length:Int) == 0) ay (wrap64 (eh + 1)))
theorem ef3 {p:Prop} (h:p:=by repeat(first|(with_reducible first|exact HI0.out|apply Jo.alloc|apply Jo.drewN|apply Jo.drew|apply Jo.set_1)|exact HI0.out)):p:=h
theorem ef4 {p:Prop} (h:p:=by repeat(first|(with_reducible first|exact HK.out|apply Ja.set_|apply Ji|apply Jj|apply keep_alloc)|exact HK.out)):p:=h
theorem ef5 {p:Prop} (h:p:=by repeat(first|(with_reducible first|exact HB.out|apply G3|apply G2|apply G1|refine G0 ?_ (Jo.ge HI0.out))|exact HB.out)):p:=h
set_option maxHeartbeats 8000000 in
set_option maxRecDepth 100000 in
theorem Fa.calls (k:Nat) (g:Nat) (ay:List Int) (eh:Int) (a1:Int) (r1:Int) (r2:Int) (w0 w:World) (hI:Jo w0 w g ay eh) (hB:Below w0.heap.size w0 w) (h:Fa.f k ay eh a1=some (r1,r2)) :
  Calls Try.prog 70 #[.pointer (some ⟨g,0,none⟩), .int .i64 a1] w fun e w'=>e = .returned (.int .i64 r1)/\Jo w0 w' g ay r2/\Below w0.heap.size w0 w'/\Ja w w' g none:=by
 have HI0:=A_ hI
 have HK:=A_ (Ja.refl w g none)
 have HL:=A_ hB.size
 clear hI
 have HW0:=A_ hB.size
 have HB:=A_ hB
 clear hB
 have H:=h
 unfold Fa.f at H
 clear h
 have HC3:=A_ H
 clear H
 obtain⟨ASz4_0,cSz4_0,HGz4,hgz4,HSz4_0⟩:=HI0.out
 have ba6:=cellS112_0 HGz4
 have ba7:=cellS112_1 HGz4
 have bn1:=G7 HGz4 1
 clear HGz4 hgz4
 go_enter Try.func70,Try.ntmps70
 go_upto_region 2 with(fail)
 repeat(go_quiet (fail);go_upto_region 2 with(fail))
 go_cut [24] (fun v24 wc=>∃(kq:Nat) (fi:Bool),v24 = .bool fi/\Gx (Fa.j0 kq a1 fi ay (wrap64 (eh + 1))=some (r1,r2))/\Gx (kq<=k)/\Gx (Jo w0 wc g ay (wrap64 (eh + 1)))/\Gx (Ja w wc g none)/\Gx (Below w0.heap.size w0 wc))
 case first=>
  have H:=HC3.out
  clear HC3
  by_cases c5:a1 < 1
  ·rw[if_pos c5] at H
   have j9:=decide_eq_true c5
   clear c5
   (first|rw[j9]|(simp only[i64_w,i32_w];rw[j9])|skip)
   have H':=A_ H
   clear H
   go_wp2
   repeat(go_quiet (fail);try go_wp2)
   go_meet
   case rel=>exact⟨_,(true),(g3_),H',⟨g9_⟩,⟨ef3⟩,⟨ef4⟩,⟨ef5⟩⟩
  rw[if_neg c5] at H
  have j9:=decide_eq_false c5
  clear c5
  (first|rw[j9]|(simp only[i64_w,i32_w];rw[j9])|skip)
  have H':=A_ H
  clear H
  obtain⟨ASz6_0,cSz6_0,HGz6,hgz6,HSz6_0⟩:=HI0.out
  have ap7:=cellS112_0 HGz6
  have ap8:=cellS112_1 HGz6
  have ap9:=G7 HGz6 1
  clear HGz6 hgz6
  go_wp2
  repeat(go_quiet (fail);try go_wp2)
  go_meet
  case rel=>exact⟨_,(((ay.length:Int) == 0)),(g3_),H',⟨g9_⟩,⟨ef3⟩,⟨ef4⟩,⟨ef5⟩⟩
 clear HC3
 obtain⟨kq,fi,rfl,HA,HJ2,HI0,HK,HB⟩:=hcut
 cases kq with
 | zero=>exact absurd HA.out (by simp[Fa.j0])
 | succ kj2=>?_
 have H:=HA.out
 clear HA
 simp only[Fa.j0] at H
 by_cases c7:fi=true
 ·subst c7
  replace H:=ifp_ H
  simp only[Option.some.injEq,Prod.mk.injEq] at H
  obtain⟨rfl,rfl⟩:=H
  go_wp2
  repeat(go_quiet (fail);try go_wp2)
  go_ret
  exact⟨g4_,ef3,ef5,ef4⟩
 replace c7:=Bool.eq_false_iff.mpr c7
 subst c7
 replace H:=ifn_ H
 by_cases c8:(wrap64 ((wrap64 (eh + 1)) - 1)) < (ay.length:Int)
 ·rw[if_pos c8] at H
  have ag8:=decide_eq_true c8
  clear c8
  obtain⟨ji9,hji9⟩:∃j_:Int,(wrap64 ((wrap64 (eh + 1)) - 1))=j_:=⟨_,rfl⟩
  first|rw[hji9] at H|simp only[hji9] at H
  (try rw[hji9] at ag8)
  have hji9w:(IntKind.i64.wrap ((wrap64 (eh + 1)) - 1))=ji9:=(i64_w _).trans hji9
  obtain⟨zx,H⟩:=pd_ H
  by_cases mi:a1=0
  ·rw[if_pos mi] at H
   exact absurd H (by simp)
  rw[if_neg mi] at H
  have bm4:(a1 == 0)=false:=beq_eq_false_iff_ne.mpr mi
  have oa7:(a1 != 0)=true:=bne_iff_ne.mpr mi
  simp only[Option.some.injEq,Prod.mk.injEq] at H
  obtain⟨rfl,rfl⟩:=H
  obtain⟨ASz12_0,cSz12_0,HGz12,hgz12,HSz12_0⟩:=HI0.out
  have wu:=cellS112_0 HGz12
  have wv:=cellS112_1 HGz12
  have ww:=G7 HGz12 1
  clear HGz12 hgz12
  obtain⟨⟨oa8,ls0,it2⟩,gm1,gm2⟩:=rdp_ (Kd.at_int HSz12_0 (ji9))
  cases ls0
  replace it2:=pw_cell_below HB.out it2
  go_wp2
  repeat(go_quiet (fail);try go_wp2)
  go_ret
  exact⟨by first|rfl|(simp[errW_none,errW_some] <;> rfl)|(simp only[<- hji9];first|rfl|(simp[errW_none,errW_some] <;> rfl))|(simp[*,errW_none,errW_some] <;> rfl),ef3,ef5,ef4⟩
 rw[if_neg c8] at H
 have ag8:=decide_eq_false c8
 clear c8
 by_cases qg:(ay.length:Int)=0
 ·rw[if_pos qg] at H
  exact absurd H (by simp)
 rw[if_neg qg] at H
 have cw9:((ay.length:Int) == 0)=false:=beq_eq_false_iff_ne.mpr qg
 have do5:((ay.length:Int) != 0)=true:=bne_iff_ne.mpr qg
 have oa9:¬ (ay=[]):=fun h_=>qg (g86_)
 obtain⟨ji14,hji14⟩:∃j_:Int,(Int.tmod (wrap64 ((wrap64 (eh + 1)) - 1)) (ay.length:Int))=j_:=⟨_,rfl⟩
 first|rw[hji14] at H|simp only[hji14] at H
 obtain⟨qv,H⟩:=pd_ H
 obtain⟨ag0,H⟩:=pd_ H
 obtain⟨ji17,hji17⟩:∃j_:Int,(Int.tmod (wrap64 ((wrap64 ((wrap64 ((wrap64 (eh + 1)) - 1)) * 7)) + 3)) (ay.length:Int))=j_:=⟨_,rfl⟩
 first|rw[hji17] at H|simp only[hji17] at H
 obtain⟨bc9,H⟩:=pd_ H
 obtain⟨ve,H⟩:=pd_ H
 by_cases mv:a1=0
 ·rw[if_pos mv] at H
  exact absurd H (by simp)
 rw[if_neg mv] at H
 have bx5:(a1 == 0)=false:=beq_eq_false_iff_ne.mpr mv
 have ig6:(a1 != 0)=true:=bne_iff_ne.mpr mv
 simp only[Option.some.injEq,Prod.mk.injEq] at H
 obtain⟨rfl,rfl⟩:=H
 obtain⟨ASz21_0,cSz21_0,HGz21,hgz21,HSz21_0⟩:=HI0.out
 have aa2:=cellS112_0 HGz21
 have aa3:=cellS112_1 HGz21
 have aa4:=G7 HGz21 1
 clear HGz21 hgz21
 obtain⟨⟨ls1,ls2,it3⟩,gm3,gm4⟩:=rdp_ (Kd.at_int HSz21_0 (ji14))
 cases ls2
 replace it3:=pw_cell_below HB.out it3
 obtain⟨⟨ls3,ls4,it4⟩,gm5,gm6⟩:=rdp_ (Kd.at_int HSz21_0 (ji17))
 obtain rfl:ls1=ls3:=(by injection ls4)
 replace it4:=pw_cell_below HB.out it4
 go_wp2
 repeat(go_quiet (fail);try go_wp2)
 go_ret
 exact⟨by first|rfl|(simp[errW_none,errW_some] <;> rfl)|(simp only[<- hji14, <- hji17];first|rfl|(simp[errW_none,errW_some] <;> rfl))|(simp[*,errW_none,errW_some] <;> rfl),ef3,ef5,ef4⟩
def F5.f (k:Nat) (ay:List Int) (eh:Int) (a1:Int):Option (Bool × Int):=if a1 > 0 then((Fa.f k ay eh a1).bind fun bt585=>(some ((bt585.1 == (wrap64 (a1 - 1))),bt585.2))) else(some (false,eh))
theorem gs3 {p:Prop} (h:p:=by repeat(first|(with_reducible first|exact HI0.out|apply Jo.alloc|apply Jo.drewN|apply Jo.drew|apply Jo.set_1)|exact HI0.out)):p:=h
theorem gs4 {p:Prop} (h:p:=by repeat(first|(with_reducible first|exact HB.out|apply G3|apply G2|apply G1|refine G0 ?_ (Jo.ge HI0.out))|exact HB.out)):p:=h
theorem gs5 {p:Prop} (h:p:=by repeat(first|(with_reducible first|exact HK.out|apply Ja.set_|apply Ji|apply Jj|apply keep_alloc)|exact HK.out)):p:=h
set_option maxHeartbeats 8000000 in
set_option maxRecDepth 100000 in
theorem F5.calls (k:Nat) (g:Nat) (ay:List Int) (eh:Int) (a1:Int) (r1:Bool) (r2:Int) (w0 w:World) (hI:Jo w0 w g ay eh) (hB:Below w0.heap.size w0 w) (h:F5.f k ay eh a1=some (r1,r2)) :
  Calls Try.prog 106 #[.pointer (some ⟨g,0,none⟩), .int .i64 a1] w fun e w'=>e = .returned (.bool r1)/\Jo w0 w' g ay r2/\Below w0.heap.size w0 w'/\Ja w w' g none:=by
 have HI0:=A_ hI
 have HK:=A_ (Ja.refl w g none)
 have HL:=A_ hB.size
 clear hI
 have HW0:=A_ hB.size
 have HB:=A_ hB
 clear hB
 have H:=h
 unfold F5.f at H
 clear h
 by_cases c3:a1 > 0
 ·rw[if_pos c3] at H
  have nt:=decide_eq_true c3
  clear c3
  replace H:=Option.bind_eq_some_iff.mp H
  obtain⟨⟨ls7,ls8⟩,r8,H⟩:=H
  try dsimp only at H
  have A4:=A_ r8
  clear r8
  simp only[Option.some.injEq,Prod.mk.injEq] at H
  obtain⟨rfl,rfl⟩:=H
  go_enter Try.func106,Try.ntmps106
  go_wp2_with (first|(go_at_call 70;(refine(Fa.calls k g ay eh a1 ls7 ls8 w0 _ gs3 gs4 A4.out).mono ?_);rintro e w5 ⟨rfl,hi,hb,hk⟩;replace HK:=A_ (Ja.trans (gs5) hk (.inl rfl));replace HB:=A_ (hb);replace HI0:=A_ (hi)))
  go_ret
  exact⟨g4_,gs3,gs4,gs5⟩
 rw[if_neg c3] at H
 have nt:=decide_eq_false c3
 clear c3
 simp only[Option.some.injEq,Prod.mk.injEq] at H
 obtain⟨rfl,rfl⟩:=H
 go_enter Try.func106,Try.ntmps106
 go_wp2
 go_ret
 exact⟨g4_,gs3,gs4,gs5⟩
end Go.Proofs.Ytfooakkhkehpiaa.PU
