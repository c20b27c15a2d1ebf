/- FnExactDeskDo: for every input the law holds, and each argument reads as it read before. No condition. -/
import Derived.Test.YtfooakkhkehpiaaZFnExactDeskDo1
import Derived.Test.YtfooakkhkehpiaaZFnExactDeskDo2
namespace Go.Proofs.Ytfooakkhkehpiaa.PE
open Go.RowKit Go.Proofs.YtfooakkhkehpiaaW.PrintWords Go.Proofs.YtfooakkhkehpiaaW.PrintLast Go.Proofs.YtfooakkhkehpiaaW.PrintMore
attribute [local go_sem] max2_int min2_int max_two min_two max_three min_three max_four min_four-- for this text's walks alone
set_option linter.unusedVariables false
set_option linter.unusedSimpArgs false
section
open Go.Shelf Go.Lib
namespace Circ
theorem two_ints (w:World) (a b:Int):Kd.C (Kd.int .i64) (w.alloc (.cells #[.int .i64 a, .int .i64 b] 3)) (some ⟨w.heap.size,0,none⟩) 2 [a,b]:=by
  have hh:(w.alloc (.cells #[.int .i64 a, .int .i64 b] 3)).heap[w.heap.size]? = some (.cells #[.int .i64 a, .int .i64 b] 3 (0,0)):=by rw[show(w.alloc (.cells #[.int .i64 a, .int .i64 b] 3)).heap=w.heap.push (.cells #[.int .i64 a, .int .i64 b] 3) from rfl];simp
  refine⟨rfl,by decide,fun _=>⟨⟨w.heap.size,0,none⟩,rfl,fun j p hj=>⟨[.int .i64 p],rfl,rfl,fun i u hu=>?_⟩⟩⟩
  have hi:i=0:=by
    have:=(List.getElem?_eq_some_iff.1 hu).1
    simp at this;exact this
  subst hi
  have hu':u = .int .i64 p:=by simpa using hu.symm
  subst hu'
  have hs:(Kd.int .i64).sz=1:=rfl
  rw[hs,add_at,Nat.mul_one,Nat.add_zero,Nat.zero_add,G8 hh j]
  have hj2:j < 2:=(List.getElem?_eq_some_iff.1 hj).1
  rcases(by omega:j=0 ∨ j=1) with rfl|rfl
  · have:a=p:=by simpa using hj
    subst this;rfl
  · have:b=p:=by simpa using hj
    subst this;rfl
def cmpv (k:Nat) (l0 l1:List Int):Option Int:=(Gq.f (l0.length:Int) (l1.length:Int)).bind fun a=>(Fw.f k l0 l1).bind fun b=>F1.f k [a,b]
set_option maxHeartbeats 4000000 in
set_option maxRecDepth 100000 in
theorem circles2 (k:Nat) (A0:Option Addr) (c0:Nat) (l0:List Int) (A1:Option Addr) (c1:Nat) (l1:List Int) (r:Int) (w:World) (hr0:Kd.C (Kd.int .i64) w A0 l0.length l0) (hc0:l0.length<=c0) (hr1:Kd.C (Kd.int .i64) w A1 l1.length l1) (hc1:l1.length<=c1) (h:cmpv k l0 l1=some r) :
    Calls Try.prog 118 #[.slice A0 l0.length c0, .slice A1 l1.length c1] w fun e w'=>e = .returned (.int .i64 r)/\∃n1 o n2,w'=((w.drewN n1).alloc o).drewN n2:=by
  have HR0:=G7.mk hr0
  have HR1:=G7.mk hr1
  obtain⟨a,ha,h⟩:=Option.bind_eq_some_iff.mp h
  obtain⟨b,hb,h⟩:=Option.bind_eq_some_iff.mp h
  have HA:=G7.mk ha
  have HB:=G7.mk hb
  have HO:=G7.mk h
  clear hr0 hr1 ha hb h
  go_enter Try.func118,Try.ntmps118
  go_wp2_with (first|(go_at_call 120;refine(Gq.calls _ _ a _ HA.out).mono ?_;rintro e w1 ⟨rfl,⟨n1,rfl⟩⟩)|(go_at_call 121;refine(Fw.calls k _ _ l0 _ _ l1 b _ ?s1 ?s2 ?s3 ?s4 HB.out).mono ?_;(case s1=>repeat(first|exact HR0.out|(with_reducible refine Kd.C_drewN ?_ _)|(with_reducible refine Kd.C_drew ?_)));(case s2=>exact hc0);(case s3=>repeat(first|exact HR1.out|(with_reducible refine Kd.C_drewN ?_ _)|(with_reducible refine Kd.C_drew ?_)));(case s4=>exact hc1);rintro e w2 ⟨rfl,⟨n2,rfl⟩⟩)|(go_at_call 119;refine(F1.calls k _ 2 [a,b] r _ ?s1 ?s2 HO.out).mono ?_;(case s1=>exact two_ints _ a b);(case s2=>exact Nat.le_refl _);rintro e w3 ⟨rfl,⟨n3,rfl⟩⟩))
  go_ret
  exact⟨rfl,_,_,_,rfl⟩
section
open Go.Sort
def rn:Ren:=⟨fun _=>133,fun n=>if n=22 then 23 else if n=24 then 22 else if n=25 then 120 else n,fun n=>n⟩
set_option maxRecDepth 100000 in
theorem laid:SlLaysF.n20 Try.prog rn := {
  mixed:=by kernel_rfl
  f20:=⟨"slices.insertionSortCmpFunc[[]int]",by kernel_rfl,by kernel_rfl⟩
  t0:=by kernel_rfl
  a0:=fun _=>rfl
  z0:=fun _=>rfl
  v0:=fun _=>rfl
  t3:=by kernel_rfl
  a3:=fun _=>rfl
  z3:=fun _=>rfl
  v3:=fun _=>rfl
  t4:=by kernel_rfl
  a4:=fun _=>rfl
  z4:=fun _=>rfl
  v4:=fun _=>rfl
  t22:=by kernel_rfl
  a22:=fun _=>rfl
  z22:=fun _=>rfl
  v22:=fun _=>rfl
  a24:=fun _=>rfl
  z24:=fun _=>rfl
  t25:=by kernel_rfl
  a25:=fun _=>rfl
  z25:=fun _=>rfl
  v25:=fun _=>rfl }
end
def cmpI (a b:Int):Int:=if a < b then -1 else if a > b then 1 else 0
def lexc:List Int->List Int->Int
  | [],b=>if 0 < b.length then -1 else 0
  | _ :: _,[]=>1
  | a :: r,b :: s=>if cmpI a b=0 then lexc r s else cmpI a b
def cmpl (a b:List Int):Int:=if cmpI (a.length:Int) (b.length:Int)=0 then lexc a b else cmpI (a.length:Int) (b.length:Int)
theorem compI (a b:Int):Gq.f a b=some (cmpI a b):=by
  unfold Gq.f Gi.f cmpI
  by_cases h:a < b
  · simp[h]
  · by_cases h2:a > b
    · simp[h,h2]
    · simp[h,h2]
theorem c_drop (xs:List Int) (i:Nat) (h:i < xs.length):xs.drop i=rd xs (i:Int) :: xs.drop (i + 1):=by
  rw[List.drop_eq_getElem_cons h];simp[rd,List.getD_eq_getElem?_getD,List.getElem?_eq_getElem h]
theorem lex_l (a b:List Int) (ha:a.length<=9223372036854775807):∀(e i k:Nat),a.length - i=e->i<=a.length->e < k->Fw.l0 k a b a (a.length:Int) (i:Int)=some (lexc (a.drop i) (b.drop i)):=by
  intro e
  induction e with
  | zero=>
    intro i k he hi hk
    obtain⟨k,rfl⟩:∃m,k=m + 1:=⟨k - 1,by omega⟩
    obtain rfl:i=a.length:=by omega
    simp only[Fw.l0]
    rw[if_neg (by omega),List.drop_length,lexc]
    by_cases h:a.length < b.length
    · rw[if_pos (by omega),if_pos (by rw[List.length_drop];omega)]
    · rw[if_neg (by omega),if_neg (by rw[List.length_drop];omega)]
  | succ e ih=>
    intro i k he hi hk
    obtain⟨k,rfl⟩:∃m,k=m + 1:=⟨k - 1,by omega⟩
    have hw:wrap64 ((i:Int) + 1)=((i + 1:Nat):Int):=by unfold wrap64;omega
    simp only[Fw.l0]
    rw[if_pos (by omega),if_pos (by omega),if_pos (by omega),hw,c_drop a i (by omega)]
    by_cases h:i < b.length
    · rw[if_neg (by omega),if_pos (by omega),compI,Option.bind_some,c_drop b i h,lexc]
      by_cases hc:cmpI (rd a (i:Int)) (rd b (i:Int))=0
      · rw[if_pos hc,if_pos hc]
        exact ih (i + 1) k (by omega) (by omega) (by omega)
      · rw[if_neg hc,if_neg hc]
    · rw[if_pos (by omega),List.drop_of_length_le (show b.length<=i by omega),lexc]
theorem orI (a b:Int):F1.f 3 [a,b]=some (if a=0 then b else a):=by
  unfold F1.f
  have w1:wrap64 (1:Int)=1:=by unfold wrap64;omega
  have w2:wrap64 (2:Int)=2:=by unfold wrap64;omega
  have e0:∀x y:Int,rd [x,y] 0=x:=fun _ _=>rfl
  have e1:∀x y:Int,rd [x,y] 1=y:=fun _ _=>rfl
  by_cases h:a=0
  · by_cases h2:b=0
    · simp[F1.l0,w1,w2,e0,e1,h,h2]
    · simp[F1.l0,w1,w2,e0,e1,h,h2]
  · simp[F1.l0,e0,h]
theorem cmpv_ev (a b:List Int) (ha:a.length<=9223372036854775807):∃k,cmpv k a b=some (cmpl a b):=by
  refine⟨a.length + 3,?_⟩
  unfold cmpv cmpl
  rw[compI,Option.bind_some]
  unfold Fw.f
  have:=lex_l a b ha a.length 0 (a.length + 3) (by omega) (by omega) (by omega)
  rw[List.drop_zero,List.drop_zero] at this
  rw[show((0:Nat):Int)=0 from rfl] at this
  rw[this,Option.bind_some]
  have hm:∀n,F1.f (n + 3) [cmpI (a.length:Int) (b.length:Int),lexc a b]=some (if cmpI (a.length:Int) (b.length:Int)=0 then lexc a b else cmpI (a.length:Int) (b.length:Int)):=by
    intro n
    induction n with
    | zero=>exact orI _ _
    | succ n ih=>exact F1.mono _ _ _ ih
  exact hm _
def El (w0:World) (okk:Nat->Prop):Type := { x:Option Addr × Nat × List Int // x.2.2.length<=x.2.1/\Kd.F (Kd.int .i64) w0 okk x.1 x.2.2.length x.2.2 }
instance {w0:World} {okk:Nat->Prop}:Inhabited (El w0 okk):=⟨⟨(none,0,[]),Nat.le_refl _,Kd.F_nil _ _ _⟩⟩
def El.enc {w0:World} {okk:Nat->Prop} (x:El w0 okk):Value:=.slice x.1.1 x.1.2.2.length x.1.2.1
def El.l {w0:World} {okk:Nat->Prop} (x:El w0 okk):List Int:=x.1.2.2
def El.cf {w0:World} {okk:Nat->Prop} (x y:El w0 okk):Int:=cmpl x.l y.l
section
variable {w0 W:World} {okk ok:Nat->Prop} {blk n cap base:Nat} {xs:List (List Int)}
theorem El.one:OneCell (El.enc:El w0 okk->Value):=fun _=>rfl
theorem el_of {x:List Int} {c:List Value} (h:Kd.FK (Kd.slice 3 (Kd.int .i64)) w0 okk x c):∃e:El w0 okk,e.l=x/\[e.enc]=c:=by
  obtain⟨A,cp,rfl,hl,hC⟩:=Kd.FK_now h
  refine⟨⟨(A,cp,x),hl,fun W' hW=>?_⟩,rfl,rfl⟩
  obtain⟨A',cp',he,_,hC'⟩:=h W' hW
  have h1:=congrArg (fun l=>l[0]?) he
  have h2:=Option.some.inj (show some (Value.slice A x.length cp)=some (Value.slice A' x.length cp') from h1)
  injection h2 with h3 _ _
  show Kd.C (Kd.int .i64) W' A x.length x
  rw[h3];exact hC'
theorem els_of:∀(ys:List (List Int)) (cs:List (List Value)),ys.length=cs.length->(∀(j:Nat) (x:List Int) (c:List Value),ys[j]? = some x->cs[j]? = some c->Kd.FK (Kd.slice 3 (Kd.int .i64)) w0 okk x c)->∃ds:List (El w0 okk),ds.map El.l=ys/\ds.map (fun x=>[x.enc])=cs
  | [],cs,hl,_=>⟨[],rfl,by cases cs with
    | nil=>rfl
    | cons a r=>simp at hl⟩
  | y :: ys,[],hl,_=>by simp at hl
  | y :: ys,c :: cs,hl,h=>by
    obtain⟨e,h1,h2⟩:=el_of (h 0 y c rfl rfl)
    obtain⟨ds,h3,h4⟩:=els_of ys cs (by simpa using hl) (fun j x c hx hc=>h (j + 1) x c (by simpa using hx) (by simpa using hc))
    exact⟨e :: ds,by simp[h1,h3],by simp[h2,h4]⟩
theorem blk_holds (d:Array (El w0 okk)) {cur:Array Value} (hh:w0.heap[blk]? = some (.cells cur 22 (0,0))) (hc:∀j,j < d.size->cur[j]? = some (d[j]!).enc):Go.Sort.Holds El.enc w0 blk 0 d:=fun j hj=>by
  rw[Nat.zero_add]
  exact⟨(G8 hh j).trans (hc j hj),Jj hh j⟩
theorem sw_heap {d':Array (El w0 okk)} (S:SW El.enc w0 blk 0 d' W) (hblk:blk < w0.heap.size):Kept w0 W (fun k=>k=blk)/\W.os=w0.os/\W.tape=w0.tape/\W.output=w0.output/\∀ {cur:Array Value},w0.heap[blk]? = some (.cells cur 22 (0,0))->W.heap[blk]? = some (.cells (Go.Sort.putCells El.enc 0 d' cur) 22 (0,0)):=by
  obtain⟨m,os,rfl⟩:=S
  have hs:(Go.Sort.putRow El.enc (Go.Sort.ahead w0 m) blk 0 d').heap.size=w0.heap.size:=by rw[size_putRow];rfl
  refine⟨⟨?_,fun k hk hn=>?_⟩,rfl,rfl,rfl,fun {cur} hh=>?_⟩
  · unfold sortWorld;rw[Go.Sort.size_grow,hs];omega
  · show((Go.Sort.putRow El.enc (Go.Sort.ahead w0 m) blk 0 d').heap ++ os)[k]? = _
    rw[Array.getElem?_append_left (by rw[hs];exact hk)]
    show(w0.heap.modify blk _)[k]? = _
    rw[Array.getElem?_modify,if_neg (fun e=>hn e.symm)]
  · show((Go.Sort.putRow El.enc (Go.Sort.ahead w0 m) blk 0 d').heap ++ os)[blk]? = _
    rw[Array.getElem?_append_left (by rw[hs];exact hblk)]
    show(w0.heap.modify blk _)[blk]? = _
    rw[Array.getElem?_modify,if_pos rfl,hh]
    rfl
end
section
variable {w0 W:World} {ok:Nat->Prop} {blk n cap base:Nat} {xs:List (List Int)}
structure RowOf (w0:World) (base:Nat) (ok:Nat->Prop) (blk n cap:Nat) (cur:Array Value) (d:Array (El w0 (fun k=>ok k/\k≠blk))):Prop where
  hh:w0.heap[blk]? = some (.cells cur 22 (0,0))
  hd:d.size=n
  hc:∀j,j < d.size->cur[j]? = some (d[j]!).enc
  hb:base<=blk
  hn:n<=cap
  hm:cap<=maxLen
  hs:cur.size=cap
  hok:ok blk
theorem N_els (h:Kd.N (Kd.slice 3 (Kd.int .i64)) 22 w0 base ok (.slice (some ⟨blk,0,none⟩) n cap) xs) :
    ∃cur d,RowOf w0 base ok blk n cap cur d/\d.toList.map El.l=xs:=by
  obtain⟨h0,rows,hl,hR,hF⟩:=h
  have hbl:(Value.slice (some ⟨blk,0,none⟩) n cap).ownBlock=some blk:=by simp[Value.ownBlock]
  obtain⟨ds,h1,h2⟩:=els_of (w0:=w0) (okk:=fun k=>ok k/\k≠blk) xs rows hl.symm (fun j x c hx hc=>Foot.mono (hF j x c hx hc) (fun k hk=>⟨hk.1,fun e=>hk.2 (by rw[hbl,e])⟩))
  obtain⟨_,inner,ho,hr⟩:=hR
  rcases ho.2 with⟨hv,_⟩ | ⟨g,cap',cur,hv,hg,hh,hn,hm,hs,ht⟩
  · cases hv
  injection hv with hA hN hC
  injection hA with hA
  injection hA with hA
  subst hA;subst hC
  have hsz:(Kd.raw (Kd.slice 3 (Kd.int .i64)).sz).sz=1:=rfl
  rw[hsz] at hs ht hr
  rw[Nat.mul_one] at hs ht
  have hdl:ds.length=rows.length:=by rw[<- h2,List.length_map]
  refine⟨cur,ds.toArray,⟨hh,by simp[hdl,hN],fun j hj=>?_,hg,by omega,hm,hs,h0 blk hbl⟩,by simpa using h1⟩
  have hj':j < ds.length:=by simpa using hj
  have hjr:rows[j]? = some [(ds[j]).enc]:=by rw[<- h2,List.getElem?_map,List.getElem?_eq_getElem hj'];rfl
  have hM:=hr.2 j _ hjr
  have e1:(inner.drop (j * 1)).take 1=[(ds[j]).enc]:=hM.1
  rw[Nat.mul_one] at e1
  have hil:inner.length=rows.length:=by have:=hr.1;omega
  have e2:inner[j]? = some (ds[j]).enc:=by
    have hji:j < inner.length:=by omega
    rw[List.drop_eq_getElem_cons hji,List.take_succ_cons,List.take_zero] at e1
    injection e1 with e5 _
    rw[List.getElem?_eq_getElem hji,e5]
  have e3:cur.toList[j]? = some (ds[j]).enc:=by
    rw[<- e2, <- ht,List.getElem?_take,if_pos (by omega)]
  have e4:(ds.toArray)[j]! = ds[j]:=by simp[hj']
  rw[e4, <- Array.getElem?_toList]
  exact e3
theorem put_take {okk:Nat->Prop} (cur:Array Value) (d':Array (El w0 okk)) (h:d'.size<=cur.size):(Go.Sort.putCells El.enc 0 d' cur).toList.take d'.size=d'.toList.map El.enc:=by
  apply List.ext_getElem?
  intro j
  rw[List.getElem?_take,List.getElem?_map,Array.getElem?_toList,Array.getElem?_toList]
  unfold Go.Sort.putCells
  rw[Array.getElem?_mapIdx]
  by_cases hj:j < d'.size
  · rw[if_pos hj,Array.getElem?_eq_getElem (show j < cur.size by omega),Array.getElem?_eq_getElem hj]
    simp only[Option.map_some]
    rw[if_pos ⟨Nat.zero_le _,by omega⟩,Nat.sub_zero,getElem!_pos d' j hj]
  · rw[if_neg hj,Array.getElem?_eq_none (by omega)];rfl
theorem N_back {cur:Array Value} {d d':Array (El w0 (fun k=>ok k/\k≠blk))} (R:RowOf w0 base ok blk n cap cur d) (hs:d'.size=n) (S:SW El.enc w0 blk 0 d' W) :
    Kd.N (Kd.slice 3 (Kd.int .i64)) 22 W base ok (.slice (some ⟨blk,0,none⟩) n cap) (d'.toList.map El.l):=by
  have hblk:blk < w0.heap.size:=(Array.getElem?_eq_some_iff.1 R.hh).1
  obtain⟨hk,_,_,_,hcur⟩:=sw_heap S hblk
  have hbl:(Value.slice (some ⟨blk,0,none⟩) n cap).ownBlock=some blk:=by simp[Value.ownBlock]
  have hsz:(Kd.raw (Kd.slice 3 (Kd.int .i64)).sz).sz=1:=rfl
  refine⟨fun k hk=>?_,d'.toList.map (fun x=>[x.enc]),by simp,⟨fun k hk=>hk.symm,d'.toList.map El.enc,?_,?_,?_⟩,fun j x c hx hc=>?_⟩
  · rw[hbl] at hk;injection hk with hk;subst hk;exact R.hok
  · rw[hsz]
    refine⟨by simp, .inr ⟨blk,cap,_,?_,R.hb,hcur R.hh,?_,R.hm,?_,?_⟩⟩
    · simp[hs]
    · simp[hs];exact R.hn
    · rw[Nat.mul_one];unfold Go.Sort.putCells;rw[Array.size_mapIdx];exact R.hs
    · rw[Nat.mul_one]
      have:=put_take cur d' (by rw[hs,R.hs];exact R.hn)
      simpa using this
  · rw[hsz];simp
  · intro j p hj
    have hj':j < d'.toList.length:=by have:=(List.getElem?_eq_some_iff.1 hj).1;simpa using this
    rw[List.getElem?_map,List.getElem?_eq_getElem hj'] at hj
    have hp:p=[(d'.toList[j]).enc]:=(Option.some.inj hj).symm
    subst hp
    have ecs:((d'.toList.map El.enc).drop (j * 1)).take 1=[(d'.toList[j]).enc]:=by
      rw[Nat.mul_one,List.drop_eq_getElem_cons (by simpa using hj'),List.take_succ_cons,List.take_zero];simp
    rw[hsz,ecs]
    exact⟨rfl,rfl,fun u hu=>by rw[List.mem_singleton.1 hu];rfl⟩
  · have hj':j < d'.toList.length:=by have:=(List.getElem?_eq_some_iff.1 hx).1;simpa using this
    rw[List.getElem?_map,List.getElem?_eq_getElem hj'] at hx hc
    obtain rfl:=Option.some.inj hx
    obtain rfl:=Option.some.inj hc
    have hF:=(d'.toList[j]).2.2
    have hF2:Kd.F (Kd.int .i64) W (fun k=>ok k/\k≠blk) _ _ _:=Kd.F_kept hF hk (fun k hk=>hk.2)
    intro W' hW
    exact⟨(d'.toList[j]).1.1,(d'.toList[j]).1.2.1,rfl,(d'.toList[j]).2.1,hF2 W' (fun k hk hlt=>hW k ⟨hk.1,fun e=>hk.2 (by rw[hbl] at e;injection e)⟩ hlt)⟩
end
def insL:Nat->List (List Int)->List (List Int)
  | 0,xs=>xs
  | j + 1,xs=>if cmpl (xs.getD (j + 1) []) (xs.getD j []) < 0 then insL j ((xs.set (j + 1) (xs.getD j [])).set j (xs.getD (j + 1) [])) else xs
def srtL:Nat->Nat->List (List Int)->List (List Int)
  | 0,_,xs=>xs
  | e + 1,i,xs=>srtL e (i + 1) (insL i xs)
section
variable {w0 W:World} {okk ok:Nat->Prop} {blk n cap base:Nat} {xs:List (List Int)}
theorem mp_get (d:Array (El w0 okk)) {j:Nat} (hj:j < d.size):(d.toList.map El.l).getD j []=(d[j]!).l:=by
  rw[List.getD_eq_getElem?_getD,List.getElem?_map,Array.getElem?_toList,Array.getElem?_eq_getElem hj,getElem!_pos d j hj];rfl
theorem mp_set (d:Array (El w0 okk)) (j:Nat) (x:El w0 okk):(d.setIfInBounds j x).toList.map El.l=(d.toList.map El.l).set j x.l:=by
  rw[Array.toList_setIfInBounds,List.map_set]
theorem ins_eq:∀(j:Nat) (d:Array (El w0 okk)),j < d.size->(Go.Sort.insInner (ltOf El.cf) 0 j d).toList.map El.l=insL j (d.toList.map El.l)/\(Go.Sort.insInner (ltOf El.cf) 0 j d).size=d.size
  | 0,d,_=>⟨rfl,rfl⟩
  | j + 1,d,hj=>by
    rw[Go.Sort.insInner,insL,mp_get d hj,mp_get d (show j < d.size by omega)]
    by_cases h:cmpl (d[j + 1]!).l (d[j]!).l < 0
    · have hl:(decide (j + 1 > 0) && ltOf El.cf d[j + 1]! d[j]!)=true:=by
        rw[Bool.and_eq_true];exact⟨decide_eq_true (by omega),decide_eq_true h⟩
      rw[if_pos hl,if_pos h]
      have hs:(Go.Sort.swp d (j + 1) j).size=d.size:=by unfold Go.Sort.swp;simp
      obtain⟨h1,h2⟩:=ins_eq j (Go.Sort.swp d (j + 1) j) (by omega)
      refine⟨?_,by rw[h2,hs]⟩
      rw[h1]
      congr 1
      unfold Go.Sort.swp
      rw[mp_set,mp_set]
    · have hl:¬ (decide (j + 1 > 0) && ltOf El.cf d[j + 1]! d[j]!)=true:=by
        rw[Bool.and_eq_true];rintro⟨_,z⟩;exact h (of_decide_eq_true z)
      rw[if_neg hl,if_neg h]
      exact⟨rfl,rfl⟩
theorem srt_eq:∀(e i b:Nat) (d:Array (El w0 okk)),b - i=e->b<=d.size->(Go.Sort.insOuter (ltOf El.cf) 0 b i d).toList.map El.l=srtL e i (d.toList.map El.l)/\(Go.Sort.insOuter (ltOf El.cf) 0 b i d).size=d.size
  | 0,i,b,d,he,hb=>by
    rw[Go.Sort.insOuter,if_neg (by omega)]
    exact⟨rfl,rfl⟩
  | e + 1,i,b,d,he,hb=>by
    rw[Go.Sort.insOuter,if_pos (by omega),srtL]
    obtain⟨h1,h2⟩:=ins_eq i d (by omega)
    obtain⟨h3,h4⟩:=srt_eq e (i + 1) b (Go.Sort.insInner (ltOf El.cf) 0 i d) (by omega) (by omega)
    exact⟨by rw[h3,h1],by rw[h4,h2]⟩
theorem cmp_lays (hblk:blk < w0.heap.size) (size:Nat):CmpLays1 Try.prog 118 #[] (El.enc:El w0 (fun k=>ok k/\k≠blk)->Value) El.cf blk 0 size w0:=by
  intro m os dk hs x y
  have S:SW El.enc w0 blk 0 dk (sortWorld El.enc w0 blk 0 m dk os):=⟨m,os,rfl⟩
  have hk:=(sw_heap S hblk).1
  have hx:=x.2.2 (sortWorld El.enc w0 blk 0 m dk os) (fun k hk' hlt=>hk.2 k hlt hk'.2)
  have hy:=y.2.2 (sortWorld El.enc w0 blk 0 m dk os) (fun k hk' hlt=>hk.2 k hlt hk'.2)
  obtain⟨k,hkv⟩:=cmpv_ev x.l y.l hx.2.1
  refine(circles2 k _ _ x.l _ _ y.l _ _ hx x.2.1 hy y.2.1 hkv).mono ?_
  rintro e w' ⟨rfl,n1,o,n2,rfl⟩
  exact⟨rfl,n1 + n2,#[o],by rw[Go.Sort.alloc_eq_grow];simp[World.drewN,Go.Sort.grow,Nat.add_assoc]⟩
def Sorted (w0:World) (base:Nat) (ok:Nat->Prop) (blk n cap:Nat) (ys:List (List Int)) (w':World):Prop:=
  Kd.N (Kd.slice 3 (Kd.int .i64)) 22 w' base ok (.slice (some ⟨blk,0,none⟩) n cap) ys/\Kept w0 w' (fun k=>k=blk)/\w'.os=w0.os/\w'.tape=w0.tape/\w'.output=w0.output
theorem ins133 (h:Kd.N (Kd.slice 3 (Kd.int .i64)) 22 w0 base ok (.slice (some ⟨blk,0,none⟩) n cap) xs) (hn:n<=1000) (a:Nat) (ha:a=0 ∨ a=n) :
    Calls Try.prog 133 #[.slice (some ⟨blk,0,none⟩) n cap, .int .i64 (a:Int), .int .i64 (n:Int), .func (.func 118) #[] #[]] w0 fun e w'=>e = .returned (.tuple #[])/\Sorted w0 base ok blk n cap (if a=0 then srtL (n - 1) 1 xs else xs) w':=by
  obtain⟨cur,d,R,hx⟩:=N_els h
  have hblk:blk < w0.heap.size:=(Array.getElem?_eq_some_iff.1 R.hh).1
  have hH:=blk_holds d R.hh R.hc
  have hmain:=Any.insertionSortCmpFunc_s laid El.enc El.cf 118 #[] blk 0 cap a n d d w0 w0 (enters_of Try.func118 (by kernel_rfl) rfl) (cmp_lays hblk d.size) ⟨El.one,hH,hblk⟩ rfl (SW.start hH) (by omega) (by rw[R.hd];exact Nat.le_refl _) (by rw[R.hd];omega)
  rw[R.hd] at hmain
  refine hmain.mono ?_
  rintro e w' ⟨rfl,S⟩
  unfold Go.Sort.insertionSort at S
  have hb2:n<=d.size:=by rw[R.hd];exact Nat.le_refl _
  obtain⟨hk,ho,ht,hu,_⟩:=sw_heap S hblk
  have fin:(Go.Sort.insOuter (ltOf El.cf) a n (a + 1) d).size=n/\(Go.Sort.insOuter (ltOf El.cf) a n (a + 1) d).toList.map El.l=if a=0 then srtL (n - 1) 1 xs else xs:=by
    rcases ha with rfl|rfl
    · obtain⟨h1,h2⟩:=srt_eq (n - 1) 1 n d (by omega) hb2
      exact⟨by rw[h2,R.hd],by rw[if_pos rfl,h1,hx]⟩
    · rw[Go.Sort.insOuter,if_neg (by omega)]
      refine⟨R.hd,?_⟩
      by_cases h0:a=0
      · subst h0
        have:xs=[]:=by
          rw[<- hx]
          have:d.toList=[]:=List.eq_nil_of_length_eq_zero (by simpa using R.hd)
          rw[this];rfl
        rw[if_pos rfl,this]
        have:d.toList=[]:=List.eq_nil_of_length_eq_zero (by simpa using R.hd)
        rw[this];rfl
      · rw[if_neg h0,hx]
  refine⟨rfl,?_,hk,ho,ht,hu⟩
  rw[<- fin.2]
  exact N_back R fin.1 S
end
section
variable {w0 w1 w2:World} {ok:Nat->Prop} {blk n cap base:Nat} {xs ys:List (List Int)}
theorem Sorted.refl (h:Kd.N (Kd.slice 3 (Kd.int .i64)) 22 w0 base ok (.slice (some ⟨blk,0,none⟩) n cap) xs):Sorted w0 base ok blk n cap xs w0:=⟨h,Kept.refl _ _,rfl,rfl,rfl⟩
theorem Sorted.trans (h:Sorted w0 base ok blk n cap xs w1) (k:Sorted w1 base ok blk n cap ys w2):Sorted w0 base ok blk n cap ys w2:=
  ⟨k.1,⟨Nat.le_trans h.2.1.1 k.2.1.1,fun i hi hn=>(k.2.1.2 i (Nat.lt_of_lt_of_le hi h.2.1.1) hn).trans (h.2.1.2 i hi hn)⟩,k.2.2.1.trans h.2.2.1,k.2.2.2.1.trans h.2.2.2.1,k.2.2.2.2.trans h.2.2.2.2⟩
theorem ins133b (h:Kd.N (Kd.slice 3 (Kd.int .i64)) 22 w0 base ok (.slice (some ⟨blk,0,none⟩) n cap) xs) (hn:n<=1000) (a:Nat) (ha:a=0 ∨ a=n) (x y:Int) (hx:x=(a:Int)) (hy:y=(n:Int)) :
    Calls Try.prog 133 #[.slice (some ⟨blk,0,none⟩) n cap, .int .i64 x, .int .i64 y, .func (.func 118) #[] #[]] w0 fun e w'=>e = .returned (.tuple #[])/\Sorted w0 base ok blk n cap (if a=0 then srtL (n - 1) 1 xs else xs) w':=by
  subst hx;subst hy;exact ins133 h hn a ha
set_option maxHeartbeats 4000000 in
set_option maxRecDepth 100000 in
theorem ins133_0 (A:Option Addr) (c:Nat) (w:World):Calls Try.prog 133 #[.slice A 0 c, .int .i64 0, .int .i64 0, .func (.func 118) #[] #[]] w fun e w'=>e = .returned (.tuple #[])/\Drawn0 w w':=by
  go_enter Try.func133,Try.ntmps133
  go_wp2
  repeat(go_quiet (fail);try go_wp2)
  go_loopg [8] 0 (fun kq v8 w'=>v8 = .int .i64 1/\Drawn0 w w')
  case atStart=>exact⟨rfl,by repeat(first|exact Drawn0.refl _|apply Drawn0.step)⟩
  case round=>
    obtain⟨rfl,⟨m1,rfl⟩⟩:=hrel
    go_wp2
    repeat(go_quiet (fail);try go_wp2)
    go_end0
    exact⟨rfl,by repeat(first|exact Drawn0.refl _|apply Drawn0.step)⟩
set_option maxHeartbeats 4000000 in
set_option maxRecDepth 100000 in
theorem stable129_lt (h:Kd.N (Kd.slice 3 (Kd.int .i64)) 22 w0 base ok (.slice (some ⟨blk,0,none⟩) n cap) xs) (hn:n < 20) :
    Calls Try.prog 129 #[.slice (some ⟨blk,0,none⟩) n cap, .int .i64 (n:Int), .func (.func 118) #[] #[]] w0 fun e w'=>e = .returned (.tuple #[])/\Sorted w0 base ok blk n cap (srtL (n - 1) 1 xs) w':=by
  have HS:=G7.mk (Sorted.refl h)
  have hc1:decide ((20:Int)<=(n:Int))=false:=decide_eq_false (by omega)
  have hc2:decide ((20:Int) < (n:Int))=false:=decide_eq_false (by omega)
  go_enter Try.func129,Try.ntmps129
  go_wp2
  go_loopg [7,8] 0 (fun kq v7 v8 w'=>v7 = .int .i64 0/\v8 = .int .i64 20/\G7 (Sorted w0 base ok blk n cap xs w'))
  case atStart=>exact⟨rfl,rfl,⟨HS.out⟩⟩
  case round=>
    clear HS
    obtain⟨rfl,rfl,HS⟩:=hrel
    go_wp2_with (go_at_call 133;refine(ins133 (show Kd.N (Kd.slice 3 (Kd.int .i64)) 22 _ base ok (.slice (some ⟨blk,0,none⟩) n cap) _ by(repeat(first|with_reducible refine Kd.N_drewN ?_ _|with_reducible refine Kd.N_drew ?_));exact HS.out.1) (by omega) 0 (Or.inl rfl)).mono ?_;rintro e w9 ⟨rfl,hs⟩;have n0_:=G7.mk (Sorted.trans (show Sorted w0 base ok blk n cap _ _ by(repeat(first|with_reducible refine Sorted.drewN ?_ _|with_reducible refine Sorted.drew ?_));exact HS.out) hs);clear HS hs;have HS:=n0_;clear n0_)
    go_loopg [6] 0 (fun kq v6 w'=>v6 = .int .i64 20/\G7 (Sorted w0 base ok blk n cap (srtL (n - 1) 1 xs) w'))
    case atStart=>exact⟨rfl,⟨by(repeat(first|with_reducible refine Sorted.drewN ?_ _|with_reducible refine Sorted.drew ?_));exact HS.out⟩⟩
    case round=>
      clear HS
      obtain⟨rfl,HS⟩:=hrel
      go_wp2
      go_end0
      exact⟨rfl,by(repeat(first|with_reducible refine Sorted.drewN ?_ _|with_reducible refine Sorted.drew ?_));exact HS.out⟩
set_option maxHeartbeats 4000000 in
set_option maxRecDepth 100000 in
theorem stable129_20 (h:Kd.N (Kd.slice 3 (Kd.int .i64)) 22 w0 base ok (.slice (some ⟨blk,0,none⟩) n cap) xs) (hn:n=20) :
    Calls Try.prog 129 #[.slice (some ⟨blk,0,none⟩) n cap, .int .i64 (n:Int), .func (.func 118) #[] #[]] w0 fun e w'=>e = .returned (.tuple #[])/\Sorted w0 base ok blk n cap (srtL (n - 1) 1 xs) w':=by
  have HS:=G7.mk (Sorted.refl h)
  have hc1:decide ((20:Int)<=(n:Int))=true:=decide_eq_true (by omega)
  have hc2:decide ((20:Int) < (n:Int))=false:=decide_eq_false (by omega)
  have hc3:decide ((40:Int)<=(n:Int))=false:=decide_eq_false (by omega)
  have w40:wrap64 ((20:Int) + 20)=40:=by unfold wrap64;omega
  have HN:=G7.mk hn
  clear hn
  go_enter Try.func129,Try.ntmps129
  go_wp2
  go_loopg [7,8] 1 (fun kq v7 v8 w'=>(kq=1/\v7 = .int .i64 0/\v8 = .int .i64 20/\G7 (Sorted w0 base ok blk n cap xs w')) ∨ (v7 = .int .i64 (n:Int)/\v8 = .int .i64 40/\G7 (Sorted w0 base ok blk n cap (srtL (n - 1) 1 xs) w')))
  case atStart=>exact .inl ⟨rfl,rfl,rfl,⟨HS.out⟩⟩
  case round=>
    clear HS
    rcases hrel with⟨rfl,rfl,rfl,HS⟩ | ⟨rfl,rfl,HS⟩
    · go_wp2_with (go_at_call 133;refine(ins133b (show Kd.N (Kd.slice 3 (Kd.int .i64)) 22 _ base ok (.slice (some ⟨blk,0,none⟩) n cap) _ by(repeat(first|with_reducible refine Kd.N_drewN ?_ _|with_reducible refine Kd.N_drew ?_));exact HS.out.1) (by have:=HN.out;omega) 0 (Or.inl rfl) _ _ ?hx ?hy).mono ?_;(case hx=>rfl);(case hy=>have:=HN.out;omega);rintro e w9 ⟨rfl,hs⟩;rw[if_pos rfl] at hs;have n0_:=G7.mk (Sorted.trans (show Sorted w0 base ok blk n cap _ _ by(repeat(first|with_reducible refine Sorted.drewN ?_ _|with_reducible refine Sorted.drew ?_));exact HS.out) hs);clear HS hs;have HS:=n0_;clear n0_)
      go_roundg 0
      case measure=>omega
      case rel=>exact .inr ⟨by first|rfl|(rw[HN.out];rfl),by first|rfl|(rw[w40])|(simp only[i64_w];rw[w40]),⟨by(repeat(first|with_reducible refine Sorted.drewN ?_ _|with_reducible refine Sorted.drew ?_));exact HS.out⟩⟩
    · go_wp2_with (go_at_call 133;refine(ins133b (show Kd.N (Kd.slice 3 (Kd.int .i64)) 22 _ base ok (.slice (some ⟨blk,0,none⟩) n cap) _ by(repeat(first|with_reducible refine Kd.N_drewN ?_ _|with_reducible refine Kd.N_drew ?_));exact HS.out.1) (by have:=HN.out;omega) n (Or.inr rfl) _ _ ?hx ?hy).mono ?_;(case hx=>first|rfl|(have:=HN.out;omega));(case hy=>first|rfl|(have:=HN.out;omega));rintro e w9 ⟨rfl,hs⟩;rw[if_neg (by have:=HN.out;omega)] at hs;have n0_:=G7.mk (Sorted.trans (show Sorted w0 base ok blk n cap _ _ by(repeat(first|with_reducible refine Sorted.drewN ?_ _|with_reducible refine Sorted.drew ?_));exact HS.out) hs);clear HS hs;have HS:=n0_;clear n0_)
      go_loopg [6] 0 (fun kq v6 w'=>v6 = .int .i64 20/\G7 (Sorted w0 base ok blk n cap (srtL (n - 1) 1 xs) w'))
      case atStart=>exact⟨rfl,⟨by(repeat(first|with_reducible refine Sorted.drewN ?_ _|with_reducible refine Sorted.drew ?_));exact HS.out⟩⟩
      case round=>
        clear HS
        obtain⟨rfl,HS⟩:=hrel
        go_wp2
        go_end0
        exact⟨rfl,by(repeat(first|with_reducible refine Sorted.drewN ?_ _|with_reducible refine Sorted.drew ?_));exact HS.out⟩
set_option maxHeartbeats 4000000 in
set_option maxRecDepth 100000 in
theorem stable129_0 (A:Option Addr) (c:Nat) (w:World):Calls Try.prog 129 #[.slice A 0 c, .int .i64 0, .func (.func 118) #[] #[]] w fun e w'=>e = .returned (.tuple #[])/\Drawn0 w w':=by
  go_enter Try.func129,Try.ntmps129
  go_wp2
  go_loopg [7,8] 0 (fun kq v7 v8 w'=>v7 = .int .i64 0/\v8 = .int .i64 20/\Drawn0 w w')
  case atStart=>exact⟨rfl,rfl,by repeat(first|exact Drawn0.refl _|apply Drawn0.step)⟩
  case round=>
    obtain⟨rfl,rfl,⟨m1,rfl⟩⟩:=hrel
    go_wp2_with (go_at_call 133;refine(ins133_0 A c _).mono ?_;rintro e w9 ⟨rfl,⟨nd,rfl⟩⟩)
    go_loopg [6] 0 (fun kq v6 w'=>v6 = .int .i64 20/\Drawn0 w w')
    case atStart=>exact⟨rfl,by repeat(first|exact Drawn0.refl _|exact⟨_,rfl⟩|exact⟨_,World.drewN_drewN _ _ _⟩|apply Drawn0.step)⟩
    case round=>
      obtain⟨rfl,⟨m2,rfl⟩⟩:=hrel
      go_wp2
      go_end0
      exact⟨rfl,by repeat(first|exact Drawn0.refl _|exact⟨_,rfl⟩|apply Drawn0.step)⟩
set_option maxHeartbeats 4000000 in
set_option maxRecDepth 100000 in
theorem sort117 (h:Kd.N (Kd.slice 3 (Kd.int .i64)) 22 w0 base ok (.slice (some ⟨blk,0,none⟩) n cap) xs) (hn:n<=20) :
    Calls Try.prog 117 #[.slice (some ⟨blk,0,none⟩) n cap, .func (.func 118) #[] #[]] w0 fun e w'=>e = .returned (.tuple #[])/\Sorted w0 base ok blk n cap (srtL (n - 1) 1 xs) w':=by
  have hS:Calls Try.prog 129 #[.slice (some ⟨blk,0,none⟩) n cap, .int .i64 (n:Int), .func (.func 118) #[] #[]] w0 fun e w'=>e = .returned (.tuple #[])/\Sorted w0 base ok blk n cap (srtL (n - 1) 1 xs) w':=by
    by_cases h20:n < 20
    · exact stable129_lt h h20
    · exact stable129_20 h (by omega)
  have HS:=G7.mk hS
  clear hS
  go_enter Try.func117,Try.ntmps117
  go_wp2_with (go_at_call 129;refine HS.out.mono ?_;rintro e w9 ⟨rfl,hs⟩)
  go_end0
  exact⟨rfl,hs⟩
set_option maxHeartbeats 4000000 in
set_option maxRecDepth 100000 in
theorem sort117_0 (A:Option Addr) (c:Nat) (w:World):Calls Try.prog 117 #[.slice A 0 c, .func (.func 118) #[] #[]] w fun e w'=>e = .returned (.tuple #[])/\Drawn0 w w':=by
  go_enter Try.func117,Try.ntmps117
  go_wp2_with (go_at_call 129;refine(stable129_0 A c _).mono ?_;rintro e w9 ⟨rfl,⟨nd,rfl⟩⟩)
  go_end0
  exact⟨rfl,by repeat(first|exact Drawn0.refl _|exact⟨_,rfl⟩|apply Drawn0.step)⟩
end
def stepI (F:List Int->List (List Int)) (p row:List Int) (j:Nat):List (List Int):=
  if rd row (j:Int)=0 ∨ (j:Int) < rd p 0 then[] else if (j:Int)=rd p 0 then[p] else if (j:Int) ∈ p then[] else F (p ++ [(j:Int)])
def rowI (F:List Int->List (List Int)) (p row:List Int):Nat->Nat->List (List Int)
  | 0,_=>[]
  | e + 1,j=>stepI F p row j ++ rowI F p row e (j + 1)
def lastI (p:List Int):Int:=rd p ((p.length - 1:Nat):Int)
def walkI (d:List (List Int)):Nat->List Int->List (List Int)
  | 0,_=>[]
  | m + 1,p=>rowI (walkI d m) p (d.getD (lastI p).toNat []) (d.getD (lastI p).toNat []).length 0
structure St (w0:World) (gB gO gW:Nat) (AC:Option Addr) (nC cC:Nat) (AD:Option Addr) (nD cD:Nat) (vo:Value) (xs:List (List Int)) (w:World):Prop where
  hB:Below w0.heap.size w0 w
  bB:w.heap[gB]? = some (.cells #[.slice AC nC cC, .slice AD nD cD] 25 (0,0))
  bO:w.heap[gO]? = some (.cells #[vo] 23 (0,0))
  bW:w.heap[gW]? = some (.cells #[.func (.func 115) #[] #[.pointer (some ⟨gB,0,none⟩), .pointer (some ⟨gO,0,none⟩), .pointer (some ⟨gW,0,none⟩)]] 115 (0,0))
  hN:Kd.N (Kd.slice 3 (Kd.int .i64)) 22 w w0.heap.size (fun k=>w0.heap.size<=k/\k≠gO) vo xs
def Kp (gO:Nat) (w:World) (vo:Value) (w':World) (vo':Value):Prop:=
  w.heap.size<=w'.heap.size/\(∀k,k < w.heap.size->k≠gO->some k≠vo.ownBlock->w'.heap[k]? = w.heap[k]?)/\(vo'.ownBlock=vo.ownBlock ∨ ∃b,vo'.ownBlock=some b/\w.heap.size<=b)
section
variable {w0 w w1 w2:World} {gB gO gW:Nat} {AC AD:Option Addr} {nC cC nD cD:Nat} {vo v1 v2:Value} {xs:List (List Int)}
theorem Kp.refl:Kp gO w vo w vo:=⟨Nat.le_refl _,fun _ _ _ _=>rfl, .inl rfl⟩
theorem Kp.trans (h:Kp gO w vo w1 v1) (k:Kp gO w1 v1 w2 v2):Kp gO w vo w2 v2:=by
  refine⟨Nat.le_trans h.1 k.1,fun i hi hg ho=>?_,?_⟩
  · refine(k.2.1 i (Nat.lt_of_lt_of_le hi h.1) hg (fun e=>?_)).trans (h.2.1 i hi hg ho)
    rcases h.2.2 with e1 | ⟨b,e1,hb⟩
    · exact ho (e.trans e1)
    · rw[e1] at e;injection e with e;omega
  · rcases k.2.2 with e1 | ⟨b,e1,hb⟩
    · rw[e1];exact h.2.2
    · exact .inr ⟨b,e1,Nat.le_trans h.1 hb⟩
theorem Kp.below (h:Below w.heap.size w w1):Kp gO w vo w1 vo:=⟨h.size,fun k hk _ _=>h.block k hk, .inl rfl⟩
theorem St.below (h:St w0 gB gO gW AC nC cC AD nD cD vo xs w) (hb:Below w.heap.size w w1):St w0 gB gO gW AC nC cC AD nD cD vo xs w1:=
  ⟨Jr h.hB hb,Jk h.bB hb,Jk h.bO hb,Jk h.bW hb,Kd.N_below h.hN hb⟩
theorem St.drewN (h:St w0 gB gO gW AC nC cC AD nD cD vo xs w) (n:Nat):St w0 gB gO gW AC nC cC AD nD cD vo xs (w.drewN n):=h.below (Je (Below.refl _ _) n)
theorem St.drew (h:St w0 gB gO gW AC nC cC AD nD cD vo xs w):St w0 gB gO gW AC nC cC AD nD cD vo xs w.drew:=h.below (below_drew (Below.refl _ _))
def Pa (gO:Nat) (w:World) (vo:Value) (A:Option Addr) (p:List Int):Prop:=Kd.F (Kd.int .i64) w (fun k=>k≠gO/\some k≠vo.ownBlock) A p.length p
theorem Pa.kp {A:Option Addr} {p:List Int} (h:Pa gO w vo A p) (k:Kp gO w vo w1 v1):Pa gO w1 v1 A p:=by
  refine Kd.F_mono (Kd.F_step (Kd.F_bound h) (fun i hi hlt=>k.2.1 i hlt hi.1.1 hi.1.2)) (fun i hi=>⟨hi.1.1,fun e=>?_⟩)
  rcases k.2.2 with e1 | ⟨b,e1,hb⟩
  · exact hi.1.2 (e.trans e1)
  · rw[e1] at e;injection e with e;have:=hi.2;omega
end
theorem rows_at {w:World} {A:Option Addr} {n:Nat} {xs:List (List Int)} (h:Kd.C (Kd.slice 3 (Kd.int .i64)) w A n xs) (j:Nat) (hj:j < n) :
    ∃ad A0 c0,A=some ad/\w.cell? (ad.add j)=some (.slice A0 (xs.getD j []).length c0)/\(xs.getD j []).length<=c0/\(Kd.int .i64).C w A0 (xs.getD j []).length (xs.getD j []):=by
  obtain⟨ad,c,rfl,hcl,⟨A0,c0,rfl,hl,hC⟩,hcc⟩:=Kd.C_get h [] (j:Int) (by omega) (by omega)
  refine⟨ad,A0,c0,rfl,?_,hl,hC⟩
  have:=hcc 0 _ rfl
  have hs:(Kd.slice 3 (Kd.int .i64)).sz=1:=rfl
  rw[hs] at this
  simpa using this
theorem pigeon:∀(n:Nat) (p:List Int),p.Nodup->(∀x ∈ p,0<=x/\x < (n:Int))->p.length<=n
  | 0,p,_,h=>by
    cases p with
    | nil=>simp
    | cons a r=>have:=h a List.mem_cons_self;omega
  | n + 1,p,hd,h=>by
    by_cases hm:(n:Int) ∈ p
    · have h1:=pigeon n (p.erase (n:Int)) (hd.erase _) (fun x hx=>by
        have h2:=h x (List.mem_of_mem_erase hx)
        have h3:x≠(n:Int):=(List.Nodup.mem_erase_iff hd).1 hx |>.1
        omega)
      have h2:=List.length_erase_of_mem hm
      omega
    · have h1:=pigeon n p hd (fun x hx=>by
        have h2:=h x hx
        have h3:x≠(n:Int):=fun e=>hm (e ▸ hx)
        omega)
      omega
theorem rd_mem' {p:List Int} {i:Nat} (h:i < p.length):rd p (i:Int) ∈ p:=by
  have:rd p (i:Int)=p[i]:=by simp[rd,List.getD_eq_getElem?_getD,List.getElem?_eq_getElem h]
  rw[this];exact List.getElem_mem h
theorem Kp.drewN {gO:Nat} {w w1:World} {vo v1:Value} (h:Kp gO w vo w1 v1) (n:Nat):Kp gO w vo (w1.drewN n) v1:=h.trans (Kp.below (Je (Below.refl _ _) n))
theorem Kp.drew {gO:Nat} {w w1:World} {vo v1:Value} (h:Kp gO w vo w1 v1):Kp gO w vo w1.drew v1:=h.trans (Kp.below (below_drew (Below.refl _ _)))
theorem contains_ev (p:List Int) (x:Int) (hp:p.length<=4611686018427387904):∃k,Gn.f k p x=some (decide (x ∈ p)):=by
  have key:∀(e i k:Nat),p.length - i=e->i<=p.length->e < k->(∀i':Nat,i' < i->rd p (i':Int)≠x)->∃q,Fy.l0 k p x (p.length:Int) (i:Int)=some q/\(decide (q ≥ 0)=decide (x ∈ p)):=by
    intro e
    induction e with
    | zero=>
      intro i k he hi hk hno
      obtain⟨k,rfl⟩:∃m,k=m + 1:=⟨k - 1,by omega⟩
      refine⟨-1,by simp only[Fy.l0];rw[if_neg (by omega)],?_⟩
      have:x ∉ p:=fun hm=>by
        obtain⟨q,hq,e⟩:=List.mem_iff_getElem.mp hm
        exact hno q (by omega) (by simp[rd,List.getD_eq_getElem?_getD,List.getElem?_eq_getElem hq,e])
      rw[decide_eq_false this];rfl
    | succ e ih=>
      intro i k he hi hk hno
      obtain⟨k,rfl⟩:∃m,k=m + 1:=⟨k - 1,by omega⟩
      have hw:wrap64 ((i:Int) + 1)=((i + 1:Nat):Int):=by unfold wrap64;omega
      by_cases h:x=rd p (i:Int)
      · refine⟨(i:Int),by simp only[Fy.l0];rw[if_pos (by omega),if_pos (by omega),if_pos (by omega),if_pos h],?_⟩
        rw[decide_eq_true (show x ∈ p from h ▸ rd_mem' (by omega))]
        exact decide_eq_true (by omega)
      · obtain⟨q,h1,h2⟩:=ih (i + 1) k (by omega) (by omega) (by omega) (fun i' hi'=>by
          by_cases e':i'=i
          · subst e';exact fun z=>h z.symm
          · exact hno i' (by omega))
        exact⟨q,by simp only[Fy.l0];rw[if_pos (by omega),if_pos (by omega),if_pos (by omega),if_neg h,hw];exact h1,h2⟩
  obtain⟨q,h1,h2⟩:=key p.length 0 (p.length + 1) (by omega) (by omega) (by omega) (fun i' hi'=>by omega)
  refine⟨p.length + 1,?_⟩
  unfold Gn.f Fy.f
  rw[show((0:Nat):Int)=0 from rfl] at h1
  rw[h1,Option.bind_some,h2]
theorem after_put {w0 wz W w4:World} {gB gO gW:Nat} {AC AD:Option Addr} {nC cC nD cD:Nat} {v v4:Value} {ys zs:List (List Int)} (nBO:gB≠gO) (nWO:gW≠gO) (gO0:w0.heap.size<=gO) (SZ:St w0 gB gO gW AC nC cC AD nD cD v ys wz) (BZ:Below wz.heap.size wz W) (hb:Below w0.heap.size w0 w4) (hg:W.grownBy w4 v.ownBlock) (hat:v4.ownBlock=v.ownBlock ∨ ∃b,v4.ownBlock=some b/\W.heap.size<=b) (hN:Kd.N (Kd.slice 3 (Kd.int .i64)) 22 w4 w0.heap.size (fun k=>w0.heap.size<=k/\k≠gO) v4 zs) :
    w4.heap[gO]? = some (.cells #[v] 23 (0,0))/\St w0 gB gO gW AC nC cC AD nD cD v4 zs (w4.setCell ⟨gO,0,none⟩ v4)/\Kp gO wz v (w4.setCell ⟨gO,0,none⟩ v4) v4:=by
  have hNW:=Kd.N_below SZ.hN BZ
  have bO:=Jo (Jk SZ.bO BZ) hg (Kd.N_ne hNW (Jk SZ.bO BZ) (by decide))
  have bB:=Jo (Jk SZ.bB BZ) hg (Kd.N_ne hNW (Jk SZ.bB BZ) (by decide))
  have bW:=Jo (Jk SZ.bW BZ) hg (Kd.N_ne hNW (Jk SZ.bW BZ) (by decide))
  refine⟨bO,⟨Jc hb gO0,Jp bB nBO _,Jq bO 0 _ rfl,Jp bW nWO _,Kd.N_far hN (fun _ hk=>hk.2) v4⟩,?_,fun k hk hgo hown=>?_,?_⟩
  · rw[World.size_setCell];exact Nat.le_trans BZ.size hg.size
  · refine(Below.heap_setCell w4 ⟨gO,0,none⟩ v4 k hgo).trans ((hg.block k (Nat.lt_of_lt_of_le hk BZ.size) hown).trans (BZ.block k hk))
  · rcases hat with h | ⟨b,h1,h2⟩
    · exact .inl h
    · exact .inr ⟨b,h1,Nat.le_trans BZ.size h2⟩
def T6:Bool × List (List Nat × List Nat):=(true,[([],[]),([],[]),([],[]),([1,2],[1,2]),([3],[3]),([0,4,3],[0,4]),([5,5,0,1,2,3,4,5],[5])])
def B6:List Nat:=[0,0,0,6,14,31,63]
theorem tab6:rtab .any (opsOf Try.f115 6)=T6:=by kernel_rfl
theorem bits6:waitsOk T6.2 B6=true:=by kernel_rfl
def T8:Bool × List (List Nat × List Nat):=(true,[([],[]),([],[]),([],[]),([1,2],[1,2]),([],[]),([4],[4]),([3,5,3],[3,5]),([0,6,6],[0,6])])
def B8:List Nat:=[0,0,0,6,0,16,62,127]
theorem tab8:rtab .any (opsOf Try.f115 8)=T8:=by kernel_rfl
theorem bits8:waitsOk T8.2 B8=true:=by kernel_rfl
theorem step_len (F:List Int->List (List Int)) (B:Nat) (hB:1<=B) (hF:∀q,(F q).length<=B) (p row:List Int) (j:Nat):(stepI F p row j).length<=B:=by
  unfold stepI
  split
  · exact Nat.zero_le _
  · split
    · exact hB
    · split
      · exact Nat.zero_le _
      · exact hF _
theorem row_len (F:List Int->List (List Int)) (B:Nat) (hB:1<=B) (hF:∀q,(F q).length<=B) (p row:List Int):∀(e j:Nat),(rowI F p row e j).length<=e * B
  | 0,_=>Nat.zero_le _
  | e + 1,j=>by
    rw[rowI,List.length_append,Nat.succ_mul]
    have h1:=step_len F B hB hF p row j
    have h2:=row_len F B hB hF p row e (j + 1)
    omega
theorem walk_len {d:List (List Int)} (sq:∀i,i < d.length->(d.getD i []).length=d.length) (h4:d.length<=4):∀(m:Nat) (p:List Int),(walkI d m p).length<=5 ^ m
  | 0,_=>Nat.zero_le _
  | m + 1,p=>by
    rw[walkI]
    have h1:=row_len (walkI d m) (5 ^ m) (Nat.one_le_pow _ _ (by omega)) (walk_len sq h4 m) p (d.getD (lastI p).toNat []) (d.getD (lastI p).toNat []).length 0
    have h2:(d.getD (lastI p).toNat []).length<=4:=by
      by_cases h:(lastI p).toNat < d.length
      · rw[sq _ h];exact h4
      · rw[List.getD_eq_getElem?_getD,List.getElem?_eq_none (by omega)];simp
    have h3:(d.getD (lastI p).toNat []).length * 5 ^ m<=4 * 5 ^ m:=Nat.mul_le_mul_right _ h2
    rw[Nat.pow_succ]
    omega
set_option maxHeartbeats 8000000 in
set_option maxRecDepth 100000 in
theorem walk {w0:World} {gB gO gW:Nat} {AC AD:Option Addr} {nC cC cD:Nat} {d:List (List Int)} (hD:Kd.C (Kd.slice 3 (Kd.int .i64)) w0 AD d.length d) (sq:∀i,i < d.length->(d.getD i []).length=d.length) (h4:d.length<=4)
    (nBO:gB≠gO) (nOB:gO≠gB) (nWO:gW≠gO) (nOW:gO≠gW) (nBW:gB≠gW) (nWB:gW≠gB) (gO0:w0.heap.size<=gO):∀(m:Nat) (p:List Int),0 < p.length->(∀x ∈ p,0<=x/\x < (d.length:Int))->p.Nodup->d.length < m + p.length ->
    ∀(A:Option Addr) (cP:Nat) (w:World) (vo:Value) (xs:List (List Int)),p.length<=cP->xs.length + 5 ^ m<=1000000->St w0 gB gO gW AC nC cC AD d.length cD vo xs w->Pa gO w vo A p ->
    Calls Try.prog 115 #[.slice A p.length cP, .pointer (some ⟨gB,0,none⟩), .pointer (some ⟨gO,0,none⟩), .pointer (some ⟨gW,0,none⟩)] w fun e w'=>e = .returned (.tuple #[])/\∃v',St w0 gB gO gW AC nC cC AD d.length cD v' (xs ++ walkI d m p) w'/\Kp gO w vo w' v'
  | 0,p,hp,hr,hnd,hm,_,_,_,_,_,_,_,_,_=>by have:=pigeon d.length p hnd hr;omega
  | m + 1,p,hp,hr,hnd,hm,A,cP,w,vo,xs,hcP,hbd,hS,hP=>by
    have HS:=G7.mk hS
    have HP:=G7.mk hP
    have hpl:=pigeon d.length p hnd hr
    have hla:=hr _ (rd_mem' (show p.length - 1 < p.length by omega))
    have hhd:=hr _ (rd_mem' (show 0 < p.length from hp))
    obtain⟨L,hL⟩:=Int.eq_ofNat_of_zero_le hla.1
    have hLd:L < d.length:=by omega
    have hlL:(lastI p).toNat=L:=by unfold lastI;rw[hL];rfl
    obtain⟨adD,B0,b0,eD,hx,hb0,hrow⟩:=rows_at hD L hLd
    subst eD
    have hsq:=sq L hLd
    have h5p:1<=5 ^ m:=Nat.one_le_pow _ _ (by omega)
    have HR:=G7.mk (show walkI d (m + 1) p=rowI (walkI d m) p (d.getD L []) (d.getD L []).length 0 by rw[walkI,hlL])
    have HROW:=G7.mk hrow
    generalize d.getD L []=row at hx hb0 HROW hsq HR
    clear hrow
    obtain⟨adP,eA,hx0⟩:=Kd.at_int (Foot.now hP) 0 (by omega) (by omega)
    subst eA
    obtain⟨adP',eA',hx1⟩:=Kd.at_int (Foot.now hP) ((p.length - 1:Nat):Int) (by omega) (by omega)
    cases eA'
    have hxw:=(HS.out.hB.cell (World.block_lt_of_cell? w0 _ hx)).trans hx
    have hw1:wrap64 ((p.length:Int) - 1)=((p.length - 1:Nat):Int):=by unfold wrap64;omega
    have q0:(0<=((p.length - 1:Nat):Int))=True:=eq_true (by omega)
    have q1:(((p.length - 1:Nat):Int) < (p.length:Int))=True:=eq_true (by omega)
    rw[hL] at hx1
    have q2:(0<=(L:Int))=True:=eq_true (by omega)
    have q3:((L:Int) < (d.length:Int))=True:=eq_true (by omega)
    have hz0:w.cell? ⟨gB,1,none⟩=some (.slice (some adD) d.length cD):=(G8 HS.out.bB 1).trans rfl
    have hxw':w.cell? (adD.add L)=some (.slice B0 row.length b0):=hxw
    rw[Int.toNat_natCast] at hx1
    have HX0:=G7.mk hx0
    have HSQ:=G7.mk hsq
    clear hS hP hx hxw hx0 hsq
    go_enter Try.func115,Try.ntmps115
    go_wp2
    go_loopg [20] (row.length) (fun kq v20 w'=>∃(j:Nat) (v:Value) (ys:List (List Int)),kq + j=row.length/\v20 = .int .i64 j/\G7 (St w0 gB gO gW AC nC cC (some adD) d.length cD v ys w')/\G7 (Kp gO w vo w' v)/\G7 (ys ++ rowI (walkI d m) p row kq j=xs ++ walkI d (m + 1) p)/\G7 (ys.length + kq * 5 ^ m<=1000000))
    case atStart=>exact⟨0,vo,xs,by omega,rfl,⟨by(repeat(first|with_reducible refine St.drewN ?_ _|with_reducible refine St.drew ?_));exact HS.out⟩,⟨Kp.below (by repeat(first|(with_reducible first|exact Below.refl _ _|apply Jf|apply Je|apply Jd)|exact Below.refl _ _))⟩,⟨by rw[HR.out]⟩,⟨by have z:=HSQ.out;have y:row.length * 5 ^ m<=4 * 5 ^ m:=Nat.mul_le_mul_right _ (by omega);rw[Nat.pow_succ] at hbd;omega⟩⟩
    case round=>
      clear HS
      obtain⟨j,v,ys,hj,rfl,SS,KK,HE,HBd⟩:=hrel
      have HPw:=G7.mk (HP.out.kp KK.out)
      by_cases hlt:j < row.length
      · obtain⟨k1,rfl⟩:∃k1,gk=k1 + 1:=⟨gk - 1,by omega⟩
        have HC:=G7.mk (Foot.now HPw.out)
        have HWJ:G7 (wrap64 ((j:Int) + 1)=((j + 1:Nat):Int)):=⟨by have:=HSQ.out;unfold wrap64;omega⟩
        obtain⟨adR,eR,hrw⟩:=Kd.at_int HROW.out (j:Int) (by omega) (by omega)
        subst eR
        obtain⟨adP2,eP,hp0⟩:=Kd.at_int HC.out 0 (by omega) (by omega)
        cases eP
        have hrw2:=(SS.out.hB.cell (World.block_lt_of_cell? w0 _ hrw)).trans hrw
        rw[Int.toNat_natCast] at hrw2
        have hp1:wr.cell? adP=some (.int .i64 (rd p 0)):=by simpa [Addr.add] using hp0
        clear hp0
        have p5:(0<=(j:Int))=True:=eq_true (by omega)
        have q5:((j:Int) < (row.length:Int))=True:=eq_true (by omega)
        have q6:((0:Int) < (p.length:Int))=True:=eq_true (by omega)
        have c3b0:decide ((j:Int) < (row.length:Int))=true:=decide_eq_true (by omega)
        clear hrw
        have HG:=G7.mk (show stepI (walkI d m) p row j=if rd row (j:Int)=0 ∨ (j:Int) < rd p 0 then[] else if (j:Int)=rd p 0 then[p] else if (j:Int) ∈ p then[] else walkI d m (p ++ [(j:Int)]) from rfl)
        generalize rd row (j:Int)=t at hrw2 HG
        obtain⟨hv,hhv⟩:∃hv,rd p 0=hv:=⟨_,rfl⟩
        rw[hhv] at hp1 HG
        have HHV:=G7.mk hhv
        clear hhv
        by_cases ht0:t=0
        · have c1:(t == 0)=true:=beq_iff_eq.mpr ht0
          have HNIL:G7 (stepI (walkI d m) p row j=[]):=⟨by rw[HG.out,if_pos (.inl ht0)]⟩
          clear HG ht0
          go_wp2
          go_roundg k1
          case measure=>omega
          case rel=>exact⟨j + 1,v,ys,by omega,(by first|rw[HWJ.out]|go_num),⟨by(repeat(first|with_reducible refine St.drewN ?_ _|with_reducible refine St.drew ?_));exact SS.out⟩,⟨by(repeat(first|with_reducible refine Kp.drewN ?_ _|with_reducible refine Kp.drew ?_));exact KK.out⟩,⟨by have:=HE.out;rw[rowI,HNIL.out,List.nil_append] at this;exact this⟩,⟨by have:=HBd.out;rw[Nat.succ_mul] at this;omega⟩⟩
        have c1:(t == 0)=false:=beq_eq_false_iff_ne.mpr ht0
        by_cases hlo:(j:Int) < hv
        · have c2:decide ((j:Int) < hv)=true:=decide_eq_true hlo
          have HNIL:G7 (stepI (walkI d m) p row j=[]):=⟨by rw[HG.out,if_pos (.inr hlo)]⟩
          clear HG ht0 hlo
          go_wp2
          go_roundg k1
          case measure=>omega
          case rel=>exact⟨j + 1,v,ys,by omega,(by first|rw[HWJ.out]|go_num),⟨by(repeat(first|with_reducible refine St.drewN ?_ _|with_reducible refine St.drew ?_));exact SS.out⟩,⟨by(repeat(first|with_reducible refine Kp.drewN ?_ _|with_reducible refine Kp.drew ?_));exact KK.out⟩,⟨by have:=HE.out;rw[rowI,HNIL.out,List.nil_append] at this;exact this⟩,⟨by have:=HBd.out;rw[Nat.succ_mul] at this;omega⟩⟩
        have c2:decide ((j:Int) < hv)=false:=decide_eq_false hlo
        by_cases heq:(j:Int)=hv
        · have c4:((j:Int) == hv)=true:=beq_iff_eq.mpr heq
          have HONE:G7 (stepI (walkI d m) p row j=[p]):=⟨by rw[HG.out,if_neg (fun z=>z.elim ht0 hlo),if_pos heq]⟩
          clear HG ht0 hlo heq
          go_upto_region 6 with fail
          try go_wp2
          have SZ:=G7.mk (St.drew SS.out)
          have KZ:=G7.mk (Kp.drew KK.out)
          have PZ:=G7.mk (Pa.kp HPw.out (Kp.drew Kp.refl))
          have BZ:=G7.mk (Below.refl wr.drew.heap.size wr.drew)
          refine start_ (n:=7) (S:=fun w'=>w'.cell? ⟨gO,0,none⟩=some v) (ds:=[6]) #[false,false,false,false,false,false,false] (by kernel_rfl) rfl rfl ((G8 SZ.out.bO 0).trans rfl) (fun hHeld=>?_);refine Js tab6 bits6 (fun HT_ HW_=>?_)
          clear SS KK HPw HC hrw2 hp1
          generalize wr.drew=wz at SZ KZ PZ BZ hHeld |-
          refine pure_ (i:=2) (N:=some 43) (v:=?_) (a':=?_) #[false,false,true,false,false,false,false] rfl rfl (any_of HT_.out (by kernel_rfl)) (fun _ _ _ h=>h) (Or.inl ⟨by rfl,?_⟩) ?_ ?_
          rotate_left
          · intro w'
            go_simp
            with_reducible rfl
          rotate_left
          · simp only[Act.put,List.setIfInBounds_toArray,List.set_cons_zero,List.set_cons_succ,i64_w,i32_w]
            rfl
          refine take_ (i:=0) (N:=some 41) (v:=?_) (a':=?_) #[true,false,true,false,false,false,false] rfl rfl (take_ofW HT_.out HW_.out (by kernel_rfl)) (fun _ _ _ h=>h) (Or.inl ⟨by rfl,?_⟩) hHeld ?_ ?_
          rotate_left
          · rintro w' s0
            go_simp
            with_reducible rfl
          rotate_left
          · simp only[Act.put,List.setIfInBounds_toArray,List.set_cons_zero,List.set_cons_succ,i64_w,i32_w]
            rfl
          refine one_ (i:=1) (N:=some 42) #[true,true,true,false,false,false,false] rfl rfl (Ju HT_.out (by kernel_rfl)) (by decide) (fun K hK=>?_)
          refine Kd.R_lit_step (Kd.int .i64) _ 3 ?hg (N:=42) ?hd (xs:=([]:List Int)) (inner:=[]) (ok:=fun _=>True) (okp:=fun _=>True) ?hr ?hp (fun _ hk=>hk) trivial (Below.refl _ _) (Nat.le_refl _) (by simp) ?_
          (case hd=>rfl)
          (case hg=>rfl)
          (case hr=>first|(go_simp;done)|(go_simp;rfl))
          (case hp=>exact(Reps.none _ _))
          intro v42 wa ho hb hg_ hnew_
          clear hg_ hnew_
          have HO1:=G7.mk (Kd.R_lower ho BZ.out.size)
          have n0_:=G7.mk (Jr BZ.out hb)
          clear BZ hb ho
          have BZ:=n0_
          clear n0_
          refine hK.out _ _ ((G8 (Jk SZ.out.bO BZ.out) 0).trans rfl) (fun hHeld=>?_)
          clear hK K
          refine norm_ (a':=?_) ?_ ?_
          rotate_left
          · show Act.put _ (some 42) _=_
            simp only[Act.put,List.setIfInBounds_toArray,List.set_cons_zero,List.set_cons_succ,i64_w,i32_w]
            rfl
          refine one_ (i:=3) (N:=some 44) #[true,true,true,true,false,false,false] rfl rfl (Ju HT_.out (by kernel_rfl)) (by decide) (fun K hK=>?_)
          refine Kd.R_append_rows_step (Kd.int .i64) (w0:=wz) wz.heap.size (by rfl) (.tmp 42) (.tmp 43) 22 3 (.int .i64 0) 8 rfl Try.underlying22 info3 rfl (by decide) (by omega) v42 [] p _ _ _ (fun _=>True) (fun _=>False) rfl rfl ?aO ?aR (fun _ _ h=>h) (fun _ h=>h.elim) ?aF ?aB ?aS ?aL ?_
          (case aR=>exact(Foot.now (Kd.F_below PZ.out BZ.out)))
          (case aB=>exact BZ.out)
          (case aF=>exact fun _ _=>trivial)
          (case aO=>exact HO1.out)
          (case aS=>exact BZ.out.size)
          (case aL=>simp;omega)
          intro v44 wb ho hb hg hat
          rw[List.nil_append] at ho
          have HO2:=G7.mk ho
          clear BZ HO1
          have BZ:=G7.mk hb
          clear ho hb hg hat
          obtain⟨Ao,co,eo⟩:=Kd.R_slice HO2.out
          subst eo
          refine hK.out _ _ ((G8 (Jk SZ.out.bO BZ.out) 0).trans rfl) (fun hHeld=>?_)
          clear hK K
          refine norm_ (a':=?_) ?_ ?_
          rotate_left
          · show Act.put _ (some 44) _=_
            simp only[Act.put,List.setIfInBounds_toArray,List.set_cons_zero,List.set_cons_succ,i64_w,i32_w]
            rfl
          refine one_ (i:=4) (N:=some 45) #[true,true,true,true,true,false,false] rfl rfl (Ju HT_.out (by kernel_rfl)) (by decide) (fun K hK=>?_)
          have HF:G7 (Kd.F (Kd.int .i64) wb (fun k=>wz.heap.size<=k) Ao p.length p):=⟨Kd.R_F (Kd.R_mono (Kd.R_bound HO2.out) (fun _ hk=>hk.2.1))⟩
          refine Kd.N_lit_step (Kd.slice 3 (Kd.int .i64)) (w0:=wz) wz.heap.size 22 ?hg (N':=45) ?hd (xs:=[p]) (inner:=[.slice Ao p.length co]) (ok:=fun k=>wz.heap.size<=k) (okp:=fun k=>wz.heap.size<=k) ?hr ?hp (fun _ hk=>hk) BZ.out.size BZ.out BZ.out.size (by simp) ?_
          (case hd=>rfl)
          (case hg=>rfl)
          (case hr=>first|(go_simp;done)|(go_simp;rfl))
          (case hp=>exact Reps.one (show Kd.FK (Kd.slice 3 (Kd.int .i64)) wb (fun k=>wz.heap.size<=k) p [.slice Ao p.length co] from fun W' hW=>⟨Ao,co,rfl,(Kd.R_reads' HO2.out).2.1,HF.out W' hW⟩) (Reps.none _ _))
          intro v45 wc ho hb hg hat
          have HO3:=G7.mk ho
          clear BZ HO2 HF
          have BZ:=G7.mk hb
          clear ho hb hg hat
          obtain⟨A45,c45,e45⟩:=Kd.N_slice HO3.out
          subst e45
          refine hK.out _ _ ((G8 (Jk SZ.out.bO BZ.out) 0).trans rfl) (fun hHeld=>?_)
          clear hK K
          refine norm_ (a':=?_) ?_ ?_
          rotate_left
          · show Act.put _ (some 45) _=_
            simp only[Act.put,List.setIfInBounds_toArray,List.set_cons_zero,List.set_cons_succ,i64_w,i32_w]
            rfl
          refine one_ (i:=5) (N:=some 46) #[true,true,true,true,true,true,false] rfl rfl (Ju HT_.out (by kernel_rfl)) (by decide) (fun K hK=>?_)
          have hgw:=(Array.getElem?_eq_some_iff.1 SZ.out.bO).1
          refine Kd.N_append_rows_step (Kd.slice 3 (Kd.int .i64)) (w0:=w0) w0.heap.size (by rfl) (.tmp 41) (.tmp 45) 23 22 (.slice none 0 0) 24 rfl Try.underlying23 info22 rfl (by decide) (by omega) v ys [p] _ _ _ (fun k=>w0.heap.size<=k/\k≠gO) (fun k=>(w0.heap.size<=k/\k≠gO)/\some k≠v.ownBlock) rfl rfl ?aO ?aR (fun _ hk=>hk) ?aF ?aB ?aS ?aL ?_
          (case aO=>exact Kd.N_below SZ.out.hN BZ.out)
          (case aR=>exact Kd.F_mono (Kd.N_F HO3.out) (fun k hk=>⟨⟨Nat.le_trans SZ.out.hB.size hk,fun e=>by omega⟩,fun e=>by have:=Kd.N_lt SZ.out.hN k e.symm;omega⟩))
          (case aF=>exact fun k hk=>⟨Nat.le_trans SZ.out.hB.size (Nat.le_trans BZ.out.size hk),fun e=>by have:=BZ.out.size;omega⟩)
          (case aB=>exact Jr SZ.out.hB BZ.out)
          (case aS=>exact Nat.le_trans SZ.out.hB.size BZ.out.size)
          (case aL=>have z:=HBd.out;rw[Nat.succ_mul] at z;simp;omega)
          intro v46 wd ho hb hg hat
          obtain⟨zs,hzs⟩:∃zs,zs=ys ++ [p]:=⟨_,rfl⟩
          rw[<- hzs] at ho
          have NZ:=G7.mk hzs
          clear hzs
          obtain⟨hbO,hS4,hK4⟩:=after_put nBO nWO gO0 SZ.out BZ.out hb hg hat ho
          have HBO:=G7.mk hbO
          have HS4:=G7.mk hS4
          have HK4:=G7.mk hK4
          clear hbO hS4 hK4 ho hb hg hat
          refine hK.out _ _ ((G8 HBO.out 0).trans rfl) (fun hHeld=>?_)
          clear hK K
          refine norm_ (a':=?_) ?_ ?_
          rotate_left
          · show Act.put _ (some 46) _=_
            simp only[Act.put,List.setIfInBounds_toArray,List.set_cons_zero,List.set_cons_succ,i64_w,i32_w]
            rfl
          refine last_ (i:=6) (N:=none) #[true,true,true,true,true,true,true] rfl rfl (by kernel_rfl) (by decide) (fun K hK=>?_)
          have hs46:wd.cell? ⟨gO,0,none⟩=some v:=(G8 HBO.out 0).trans rfl
          have hfs46:=Jj HBO.out 0
          obtain⟨A46,c46,e46⟩:=Kd.N_slice HS4.out.hN
          subst e46
          refine skip_ (w1:=?_) (by rfl) rfl ?_ ?_
          rotate_left
          · go_simp
            rfl
          refine hK.out _ _ ?_
          clear hK K
          refine done_ (by kernel_rfl) ?_
          try go_wp2
          go_roundg k1
          case measure=>omega
          case rel=>exact⟨j + 1,_,zs,by omega,(by first|rw[HWJ.out]|go_num),⟨by(repeat(first|with_reducible refine St.drewN ?_ _|with_reducible refine St.drew ?_));exact HS4.out⟩,⟨by(repeat(first|with_reducible refine Kp.drewN ?_ _|with_reducible refine Kp.drew ?_));exact Kp.trans KZ.out HK4.out⟩,⟨by have z:=HE.out;rw[rowI,HONE.out] at z;rw[NZ.out,List.append_assoc];exact z⟩,⟨by have z:=HBd.out;rw[Nat.succ_mul] at z;rw[NZ.out,List.length_append,List.length_singleton];omega⟩⟩
        have c4:((j:Int) == hv)=false:=beq_eq_false_iff_ne.mpr heq
        obtain⟨kc,hkc⟩:=contains_ev p (j:Int) (by omega)
        by_cases hin:(j:Int) ∈ p
        · have HNIL:G7 (stepI (walkI d m) p row j=[]):=⟨by rw[HG.out,if_neg (fun z=>z.elim ht0 hlo),if_neg heq,if_pos hin]⟩
          rw[decide_eq_true hin] at hkc
          have HK:=G7.mk hkc
          clear HG ht0 hlo heq hin hkc
          go_wp2_with (go_at_call 116;refine(Gn.calls kc _ _ p (j:Int) true _ ?s1 hcP HK.out).mono ?_;(case s1=>repeat(first|exact HC.out|(with_reducible refine Kd.C_drewN ?_ _)|(with_reducible refine Kd.C_drew ?_)));rintro e w9 ⟨rfl,⟨nd,rfl⟩⟩)
          go_roundg k1
          case measure=>omega
          case rel=>exact⟨j + 1,v,ys,by omega,(by first|rw[HWJ.out]|go_num),⟨by(repeat(first|with_reducible refine St.drewN ?_ _|with_reducible refine St.drew ?_));exact SS.out⟩,⟨by(repeat(first|with_reducible refine Kp.drewN ?_ _|with_reducible refine Kp.drew ?_));exact KK.out⟩,⟨by have:=HE.out;rw[rowI,HNIL.out,List.nil_append] at this;exact this⟩,⟨by have:=HBd.out;rw[Nat.succ_mul] at this;omega⟩⟩
        have HREC:G7 (stepI (walkI d m) p row j=walkI d m (p ++ [(j:Int)])):=⟨by rw[HG.out,if_neg (fun z=>z.elim ht0 hlo),if_neg heq,if_neg hin]⟩
        rw[decide_eq_false hin] at hkc
        have HK:=G7.mk hkc
        have hjh:hv < (j:Int):=by omega
        clear HG ht0 hlo heq hkc
        go_upto_region 8 with(go_at_call 116;refine(Gn.calls kc _ _ p (j:Int) false _ ?s1 hcP HK.out).mono ?_;(case s1=>repeat(first|exact HC.out|(with_reducible refine Kd.C_drewN ?_ _)|(with_reducible refine Kd.C_drew ?_)));rintro e w9 ⟨rfl,⟨nd,rfl⟩⟩)
        try go_wp2
        have SZ:=G7.mk (St.drew (St.drewN SS.out nd))
        have KZ:=G7.mk (Kp.drew (Kp.drewN KK.out nd))
        have PZ:=G7.mk (Pa.kp HPw.out (Kp.drew (Kp.drewN Kp.refl nd)))
        have BZ:=G7.mk (Below.refl (wr.drewN nd).drew.heap.size (wr.drewN nd).drew)
        have HLP:=G7.mk (show p.length<=4 by omega)
        have HIN:=G7.mk hin
        clear hin
        refine start_ (n:=8) (S:=fun w'=>w'.cell? ⟨gW,0,none⟩=some (.func (.func 115) #[] #[.pointer (some ⟨gB,0,none⟩), .pointer (some ⟨gO,0,none⟩), .pointer (some ⟨gW,0,none⟩)])) (ds:=[]) #[false,false,false,false,false,false,false,false] (by kernel_rfl) rfl rfl ((G8 SZ.out.bW 0).trans rfl) (fun hHeld=>?_);refine Js tab8 bits8 (fun HT_ HW_=>?_)
        clear SS KK HPw HC hrw2 hp1
        generalize (wr.drewN nd).drew=wz at SZ KZ PZ BZ hHeld |-
        refine pure_ (i:=2) (N:=some 54) (v:=?_) (a':=?_) #[false,false,true,false,false,false,false,false] rfl rfl (any_of HT_.out (by kernel_rfl)) (fun _ _ _ h=>h) (Or.inl ⟨by rfl,?_⟩) ?_ ?_
        rotate_left
        · intro w'
          go_simp
          with_reducible rfl
        rotate_left
        · simp only[Act.put,List.setIfInBounds_toArray,List.set_cons_zero,List.set_cons_succ,i64_w,i32_w]
          rfl
        refine pure_ (i:=4) (N:=some 56) (v:=?_) (a':=?_) #[false,false,true,false,true,false,false,false] rfl rfl (any_of HT_.out (by kernel_rfl)) (fun _ _ _ h=>h) (Or.inl ⟨by rfl,?_⟩) ?_ ?_
        rotate_left
        · intro w'
          go_simp
          with_reducible rfl
        rotate_left
        · simp only[Act.put,List.setIfInBounds_toArray,List.set_cons_zero,List.set_cons_succ,i64_w,i32_w]
          rfl
        refine take_ (i:=0) (N:=some 52) (v:=?_) (a':=?_) #[true,false,true,false,true,false,false,false] rfl rfl (take_ofW HT_.out HW_.out (by kernel_rfl)) (fun _ _ _ h=>h) (Or.inl ⟨by rfl,?_⟩) hHeld ?_ ?_
        rotate_left
        · rintro w' s0
          go_simp
          with_reducible rfl
        rotate_left
        · simp only[Act.put,List.setIfInBounds_toArray,List.set_cons_zero,List.set_cons_succ,i64_w,i32_w]
          rfl
        refine join_ (σ:=Value × Value × Value) 2 #[true,true,true,true,true,true,false,false] (fun s_=>[(53,s_.1),(55,s_.2.1),(57,s_.2.2)]) (fun s_ w'=>(w'.cell? ⟨gW,0,none⟩=some (.func (.func 115) #[] #[.pointer (some ⟨gB,0,none⟩), .pointer (some ⟨gO,0,none⟩), .pointer (some ⟨gW,0,none⟩)]))/\Kd.R (Kd.int .i64) 3 w' wz.heap.size (fun _=>True) s_.2.1 p/\Kd.R (Kd.int .i64) 3 w' wz.heap.size (fun k=>True/\some k≠(s_.2.1:Value).ownBlock) s_.2.2 [(j:Int)]/\Below wz.heap.size wz w') ?_ ?_
        rotate_left
        · intro hCont
          refine two_ (i:=1) (j:=5) (Ni:=some 53) (Nj:=some 57) #[true,true,true,false,true,false,false,false] #[true,false,true,false,true,true,false,false] rfl rfl rfl rfl (two_of HT_.out (by kernel_rfl)) (by decide) (by decide) (fun K hK=>?_) (fun K hK=>?_)
          · skip
            refine Kd.R_lit_step (Kd.int .i64) _ 3 ?hg (N:=53) ?hd (xs:=([]:List Int)) (inner:=[]) (ok:=fun _=>True) (okp:=fun _=>True) ?hr ?hp (fun _ hk=>hk) trivial (Below.refl _ _) (Nat.le_refl _) (by simp) ?_
            (case hd=>rfl)
            (case hg=>rfl)
            (case hr=>first|(go_simp;done)|(go_simp;rfl))
            (case hp=>exact(Reps.none _ _))
            intro v53 wa_ ho hb hg_ hnew_
            clear hg_ hnew_
            have HO53:=G7.mk (Kd.R_lower ho BZ.out.size)
            have n0_:=G7.mk (Jr BZ.out hb)
            clear BZ hb ho
            have BZ:=n0_
            clear n0_
            refine hK.out _ _ (G8 (Jk SZ.out.bW BZ.out) 0 |>.trans rfl) (fun hHeld=>?_)
            clear hK K
            refine norm_ (a':=?_) ?_ ?_
            rotate_left
            · show Act.put _ (some 53) _=_
              simp only[Act.put,List.setIfInBounds_toArray,List.set_cons_zero,List.set_cons_succ,i64_w,i32_w]
              rfl
            refine two_ (i:=3) (j:=5) (Ni:=some 55) (Nj:=some 57) #[true,true,true,true,true,false,false,false] #[true,true,true,false,true,true,false,false] rfl rfl rfl rfl (two_of HT_.out (by kernel_rfl)) (by decide) (by decide) (fun K hK=>?_) (fun K hK=>?_)
            · skip
              refine Kd.R_append_rows_step (Kd.int .i64) (w0:=wz) wz.heap.size (by rfl) (.tmp 53) (.tmp 54) 22 3 (.int .i64 0) 8 rfl Try.underlying22 info3 rfl (by decide) (by omega) v53 [] p _ _ _ (fun _=>True) (fun _=>False) rfl rfl ?aO ?aR (fun _ _ h=>h) (fun _ h=>h.elim) ?aF ?aB ?aS ?aL ?_
              (case aR=>exact(Foot.now (Kd.F_below PZ.out BZ.out)))
              (case aB=>exact BZ.out)
              (case aF=>exact fun _ _=>trivial)
              (case aO=>exact HO53.out)
              (case aS=>exact BZ.out.size)
              (case aL=>(try simp only[List.length_nil,List.length_cons]);have:=HLP.out;omega)
              intro v55 wb_ ho hb hg hat
              rw[List.nil_append] at ho
              have HO55:=G7.mk ho
              clear BZ HO53
              have BZ:=G7.mk hb
              clear ho hb hg hat
              refine hK.out _ _ (G8 (Jk SZ.out.bW BZ.out) 0 |>.trans rfl) (fun hHeld=>?_)
              clear hK K
              refine norm_ (a':=?_) ?_ ?_
              rotate_left
              · show Act.put _ (some 55) _=_
                simp only[Act.put,List.setIfInBounds_toArray,List.set_cons_zero,List.set_cons_succ,i64_w,i32_w]
                rfl
              refine one_ (i:=5) (N:=some 57) #[true,true,true,true,true,true,false,false] rfl rfl (Ju HT_.out (by kernel_rfl)) (by decide) (fun K hK=>?_)
              refine Kd.R_lit_step (Kd.int .i64) _ 3 ?hg (N:=57) ?hd (xs:=([(j:Int)]:List Int)) (inner:=[.int .i64 (j:Int)]) (ok:=fun _=>True) (okp:=fun _=>True) ?hr ?hp (fun _ hk=>hk) trivial (Below.refl _ _) (Nat.le_refl _) (by simp) ?_
              (case hd=>rfl)
              (case hg=>rfl)
              (case hr=>first|(go_simp;done)|(go_simp;rfl))
              (case hp=>exact(Reps.one (show Kd.M (Kd.int .i64) _ _ _ (j:Int) [.int .i64 (j:Int)] from rfl) (Reps.none _ _)))
              intro v57 wa_ ho hb hg_ hnew_
              clear hg_ hnew_
              have HO57:=G7.mk (Kd.R_lower (Kd.R_new' (u:=v55) ho (Kd.R_lt HO55.out)) BZ.out.size)
              have m0_:=G7.mk (Kd.R_below HO55.out hb)
              clear HO55
              have HO55:=m0_
              clear m0_
              have n0_:=G7.mk (Jr BZ.out hb)
              clear BZ hb ho
              have BZ:=n0_
              clear n0_
              refine hK.out _ _ (G8 (Jk SZ.out.bW BZ.out) 0 |>.trans rfl) (fun hHeld=>?_)
              clear hK K
              refine norm_ (a':=?_) ?_ ?_
              rotate_left
              · show Act.put _ (some 57) _=_
                simp only[Act.put,List.setIfInBounds_toArray,List.set_cons_zero,List.set_cons_succ,i64_w,i32_w]
                rfl
              exact norm_ (by simp only[putAll,Act.put,List.setIfInBounds_toArray,List.set_cons_zero,List.set_cons_succ]) (hCont (v53,v55,v57) _ ⟨hHeld,HO55.out,HO57.out,BZ.out⟩)
            · skip
              refine Kd.R_lit_step (Kd.int .i64) _ 3 ?hg (N:=57) ?hd (xs:=([(j:Int)]:List Int)) (inner:=[.int .i64 (j:Int)]) (ok:=fun _=>True) (okp:=fun _=>True) ?hr ?hp (fun _ hk=>hk) trivial (Below.refl _ _) (Nat.le_refl _) (by simp) ?_
              (case hd=>rfl)
              (case hg=>rfl)
              (case hr=>first|(go_simp;done)|(go_simp;rfl))
              (case hp=>exact(Reps.one (show Kd.M (Kd.int .i64) _ _ _ (j:Int) [.int .i64 (j:Int)] from rfl) (Reps.none _ _)))
              intro v57 wa_ ho hb hg_ hnew_
              clear hg_ hnew_
              have HO57:=G7.mk (Kd.R_lower (Kd.R_new' (u:=v53) ho (Kd.R_lt HO53.out)) BZ.out.size)
              have m0_:=G7.mk (Kd.R_below HO53.out hb)
              clear HO53
              have HO53:=m0_
              clear m0_
              have n0_:=G7.mk (Jr BZ.out hb)
              clear BZ hb ho
              have BZ:=n0_
              clear n0_
              refine hK.out _ _ (G8 (Jk SZ.out.bW BZ.out) 0 |>.trans rfl) (fun hHeld=>?_)
              clear hK K
              refine norm_ (a':=?_) ?_ ?_
              rotate_left
              · show Act.put _ (some 57) _=_
                simp only[Act.put,List.setIfInBounds_toArray,List.set_cons_zero,List.set_cons_succ,i64_w,i32_w]
                rfl
              refine one_ (i:=3) (N:=some 55) #[true,true,true,true,true,true,false,false] rfl rfl (Ju HT_.out (by kernel_rfl)) (by decide) (fun K hK=>?_)
              refine Kd.R_append_rows_step (Kd.int .i64) (w0:=wz) wz.heap.size (by rfl) (.tmp 53) (.tmp 54) 22 3 (.int .i64 0) 8 rfl Try.underlying22 info3 rfl (by decide) (by omega) v53 [] p _ _ _ (fun _=>True) (fun _=>False) rfl rfl ?aO ?aR (fun _ _ h=>h) (fun _ h=>h.elim) ?aF ?aB ?aS ?aL ?_
              (case aR=>exact(Foot.now (Kd.F_below PZ.out BZ.out)))
              (case aB=>exact BZ.out)
              (case aF=>exact fun _ _=>trivial)
              (case aO=>exact HO53.out)
              (case aS=>exact BZ.out.size)
              (case aL=>(try simp only[List.length_nil,List.length_cons]);have:=HLP.out;omega)
              intro v55 wb_ ho hb hg hat
              rw[List.nil_append] at ho
              have m0_:=G7.mk (Kd.R_after (ok:=fun _=>True) HO57.out hg hat)
              clear HO57
              have HO57:=m0_
              clear m0_
              have HO55:=G7.mk ho
              clear BZ HO53
              have BZ:=G7.mk hb
              clear ho hb hg hat
              refine hK.out _ _ (G8 (Jk SZ.out.bW BZ.out) 0 |>.trans rfl) (fun hHeld=>?_)
              clear hK K
              refine norm_ (a':=?_) ?_ ?_
              rotate_left
              · show Act.put _ (some 55) _=_
                simp only[Act.put,List.setIfInBounds_toArray,List.set_cons_zero,List.set_cons_succ,i64_w,i32_w]
                rfl
              exact norm_ (by simp only[putAll,Act.put,List.setIfInBounds_toArray,List.set_cons_zero,List.set_cons_succ]) (hCont (v53,v55,v57) _ ⟨hHeld,HO55.out,HO57.out,BZ.out⟩)
          · skip
            refine Kd.R_lit_step (Kd.int .i64) _ 3 ?hg (N:=57) ?hd (xs:=([(j:Int)]:List Int)) (inner:=[.int .i64 (j:Int)]) (ok:=fun _=>True) (okp:=fun _=>True) ?hr ?hp (fun _ hk=>hk) trivial (Below.refl _ _) (Nat.le_refl _) (by simp) ?_
            (case hd=>rfl)
            (case hg=>rfl)
            (case hr=>first|(go_simp;done)|(go_simp;rfl))
            (case hp=>exact(Reps.one (show Kd.M (Kd.int .i64) _ _ _ (j:Int) [.int .i64 (j:Int)] from rfl) (Reps.none _ _)))
            intro v57 wa_ ho hb hg_ hnew_
            clear hg_ hnew_
            have HO57:=G7.mk (Kd.R_lower ho BZ.out.size)
            have n0_:=G7.mk (Jr BZ.out hb)
            clear BZ hb ho
            have BZ:=n0_
            clear n0_
            refine hK.out _ _ (G8 (Jk SZ.out.bW BZ.out) 0 |>.trans rfl) (fun hHeld=>?_)
            clear hK K
            refine norm_ (a':=?_) ?_ ?_
            rotate_left
            · show Act.put _ (some 57) _=_
              simp only[Act.put,List.setIfInBounds_toArray,List.set_cons_zero,List.set_cons_succ,i64_w,i32_w]
              rfl
            refine one_ (i:=1) (N:=some 53) #[true,true,true,false,true,true,false,false] rfl rfl (Ju HT_.out (by kernel_rfl)) (by decide) (fun K hK=>?_)
            refine Kd.R_lit_step (Kd.int .i64) _ 3 ?hg (N:=53) ?hd (xs:=([]:List Int)) (inner:=[]) (ok:=fun _=>True) (okp:=fun _=>True) ?hr ?hp (fun _ hk=>hk) trivial (Below.refl _ _) (Nat.le_refl _) (by simp) ?_
            (case hd=>rfl)
            (case hg=>rfl)
            (case hr=>first|(go_simp;done)|(go_simp;rfl))
            (case hp=>exact(Reps.none _ _))
            intro v53 wa_ ho hb hg_ hnew_
            clear hg_ hnew_
            have m0_:=G7.mk (Kd.R_elder' (v:=v53) HO57.out (Kd.R_base ho) hb)
            clear HO57
            have HO57:=m0_
            clear m0_
            have HO53:=G7.mk (Kd.R_lower ho BZ.out.size)
            have n0_:=G7.mk (Jr BZ.out hb)
            clear BZ hb ho
            have BZ:=n0_
            clear n0_
            refine hK.out _ _ (G8 (Jk SZ.out.bW BZ.out) 0 |>.trans rfl) (fun hHeld=>?_)
            clear hK K
            refine norm_ (a':=?_) ?_ ?_
            rotate_left
            · show Act.put _ (some 53) _=_
              simp only[Act.put,List.setIfInBounds_toArray,List.set_cons_zero,List.set_cons_succ,i64_w,i32_w]
              rfl
            refine one_ (i:=3) (N:=some 55) #[true,true,true,true,true,true,false,false] rfl rfl (Ju HT_.out (by kernel_rfl)) (by decide) (fun K hK=>?_)
            refine Kd.R_append_rows_step (Kd.int .i64) (w0:=wz) wz.heap.size (by rfl) (.tmp 53) (.tmp 54) 22 3 (.int .i64 0) 8 rfl Try.underlying22 info3 rfl (by decide) (by omega) v53 [] p _ _ _ (fun _=>True) (fun _=>False) rfl rfl ?aO ?aR (fun _ _ h=>h) (fun _ h=>h.elim) ?aF ?aB ?aS ?aL ?_
            (case aR=>exact(Foot.now (Kd.F_below PZ.out BZ.out)))
            (case aB=>exact BZ.out)
            (case aF=>exact fun _ _=>trivial)
            (case aO=>exact HO53.out)
            (case aS=>exact BZ.out.size)
            (case aL=>(try simp only[List.length_nil,List.length_cons]);have:=HLP.out;omega)
            intro v55 wb_ ho hb hg hat
            rw[List.nil_append] at ho
            have m0_:=G7.mk (Kd.R_after (ok:=fun _=>True) HO57.out hg hat)
            clear HO57
            have HO57:=m0_
            clear m0_
            have HO55:=G7.mk ho
            clear BZ HO53
            have BZ:=G7.mk hb
            clear ho hb hg hat
            refine hK.out _ _ (G8 (Jk SZ.out.bW BZ.out) 0 |>.trans rfl) (fun hHeld=>?_)
            clear hK K
            refine norm_ (a':=?_) ?_ ?_
            rotate_left
            · show Act.put _ (some 55) _=_
              simp only[Act.put,List.setIfInBounds_toArray,List.set_cons_zero,List.set_cons_succ,i64_w,i32_w]
              rfl
            exact norm_ (by simp only[putAll,Act.put,List.setIfInBounds_toArray,List.set_cons_zero,List.set_cons_succ]) (hCont (v53,v55,v57) _ ⟨hHeld,HO55.out,HO57.out,BZ.out⟩)
        rintro⟨v53,v55,v57⟩ w53 ⟨hHeld,h0_,h1_,h2_⟩
        clear BZ
        have HO55:=G7.mk h0_
        have HO57:=G7.mk h1_
        have BZ:=G7.mk h2_
        clear h0_ h1_ h2_
        obtain⟨A57,c57,e57⟩:=Kd.R_slice HO57.out
        subst e57
        refine norm_ (a':=?_) ?_ ?_
        rotate_left
        · simp only[putAll,Act.put,List.setIfInBounds_toArray,List.set_cons_zero,List.set_cons_succ]
          rfl
        refine one_ (i:=6) (N:=some 58) #[true,true,true,true,true,true,true,false] rfl rfl (Ju HT_.out (by kernel_rfl)) (by decide) (fun K hK=>?_)
        refine Kd.R_append_rows_step (Kd.int .i64) (w0:=wz) wz.heap.size (by rfl) (.tmp 55) (.tmp 57) 22 3 (.int .i64 0) 8 rfl Try.underlying22 info3 rfl (by decide) (by omega) v55 p [(j:Int)] _ _ _ (fun _=>True) (fun _=>False) rfl rfl ?aO ?aR (fun _ _ h=>h) (fun _ h=>h.elim) ?aF ?aB ?aS ?aL ?_
        (case aR=>exact(Kd.R_reads' HO57.out).2.2)
        (case aB=>exact BZ.out)
        (case aF=>exact fun _ _=>trivial)
        (case aO=>exact HO55.out)
        (case aS=>exact BZ.out.size)
        (case aL=>(try simp only[List.length_nil,List.length_cons]);have:=HLP.out;omega)
        intro v58 wb_ ho hb hg hat
        have HO58:=G7.mk ho
        clear HO57
        clear BZ HO55
        have BZ:=G7.mk hb
        clear ho hb hg hat
        have SY:=G7.mk (St.below SZ.out BZ.out)
        have KY:=G7.mk (Kp.trans KZ.out (Kp.below BZ.out))
        refine hK.out _ _ (G8 (Jk SZ.out.bW BZ.out) 0 |>.trans rfl) (fun hHeld=>?_)
        clear hK K
        refine norm_ (a':=?_) ?_ ?_
        rotate_left
        · show Act.put _ (some 58) _=_
          simp only[Act.put,List.setIfInBounds_toArray,List.set_cons_zero,List.set_cons_succ,i64_w,i32_w]
          rfl
        obtain⟨A58,c58,e58⟩:=Kd.R_slice HO58.out
        subst e58
        have HP58:G7 (Pa gO wb_ v A58 (p ++ [(j:Int)])):=⟨Kd.F_mono (Kd.R_F (Kd.R_bound HO58.out)) (fun k hk=>⟨fun e=>by have h5:=hk.2.1;have h6:=blk_lt SZ.out.bO;omega,fun e=>by have h5:=hk.2.1;have h6:=Kd.N_lt SZ.out.hN k e.symm;omega⟩)⟩
        have hc58:=(Kd.R_reads' HO58.out).2.1
        refine one_ (i:=7) (N:=some 59) #[true,true,true,true,true,true,true,true] rfl rfl (Ju HT_.out (by kernel_rfl)) (by decide) (fun K hK=>?_)
        have he:=enters_ Try.func115 (by kernel_rfl) rfl #[.slice A58 (p ++ [(j:Int)]).length c58, .pointer (some ⟨gB,0,none⟩), .pointer (some ⟨gO,0,none⟩), .pointer (some ⟨gW,0,none⟩)] wb_
        refine call_ 115 #[.slice A58 (p ++ [(j:Int)]).length c58, .pointer (some ⟨gB,0,none⟩), .pointer (some ⟨gO,0,none⟩), .pointer (some ⟨gW,0,none⟩)] (by rfl) rfl ?hr ?_
        (case hr=>unfold execOp;simp[resolve,Deferred.ofValue,invoke,Act.eval,he])
        refine(walk hD sq h4 nBO nOB nWO nOW nBW nWB gO0 m (p ++ [(j:Int)]) ?s1 ?s2 ?s3 ?s4 A58 c58 wb_ v ys hc58 ?s5 SY.out HP58.out).mono ?_
        (case s1=>simp)
        (case s2=>exact fun x hx=>(List.mem_append.1 hx).elim (fun z=>hr x z) (fun z=>by have:=List.mem_singleton.1 z;have:=HSQ.out;omega))
        (case s3=>exact List.nodup_append.2 ⟨hnd,(by simp),fun a ha b hb e=>HIN.out (by rw[<- List.mem_singleton.1 hb, <- e];exact ha)⟩)
        (case s4=>rw[List.length_append,List.length_singleton];omega)
        (case s5=>have z:=HBd.out;rw[Nat.succ_mul] at z;omega)
        rintro e w9 ⟨rfl,v9,hs9,hk9⟩
        refine⟨_,rfl,?_⟩
        have HS9:=G7.mk hs9
        have HK9:=G7.mk (Kp.trans KY.out hk9)
        clear hs9 hk9
        refine hK.out _ _ ((G8 HS9.out.bW 0).trans rfl) (fun hHeld=>?_)
        clear hK K
        refine done_ (by kernel_rfl) ?_
        try go_wp2
        go_roundg k1
        case measure=>omega
        case rel=>exact⟨j + 1,v9,_,by omega,(by first|rw[HWJ.out]|go_num),⟨by(repeat(first|with_reducible refine St.drewN ?_ _|with_reducible refine St.drew ?_));exact HS9.out⟩,⟨by(repeat(first|with_reducible refine Kp.drewN ?_ _|with_reducible refine Kp.drew ?_));exact HK9.out⟩,⟨by have z:=HE.out;rw[rowI,HREC.out] at z;rw[List.append_assoc];exact z⟩,⟨by have z:=HBd.out;rw[Nat.succ_mul] at z;have y:=walk_len sq h4 m (p ++ [(j:Int)]);rw[List.length_append];omega⟩⟩
      · obtain rfl:j=row.length:=by omega
        have hk0:gk=0:=by omega
        subst hk0
        have c3b0:decide ((row.length:Int) < (row.length:Int))=false:=decide_eq_false (by omega)
        go_wp2
        go_end0
        exact⟨rfl,v,by have:=HE.out;rw[rowI,List.append_nil] at this;rw[<- this];(repeat(first|with_reducible refine St.drewN ?_ _|with_reducible refine St.drew ?_));exact SS.out,by(repeat(first|with_reducible refine Kp.drewN ?_ _|with_reducible refine Kp.drew ?_));exact KK.out⟩
def foundI (d:List (List Int)):Nat->Nat->List (List Int)
  | 0,_=>[]
  | e + 1,i=>walkI d d.length [(i:Int)] ++ foundI d e (i + 1)
theorem lit1 {gO:Nat} {vo:Value} (w:World) (i:Int) (h1:gO < w.heap.size) (h2:∀k,vo.ownBlock=some k->k < w.heap.size):Pa gO (w.alloc (.cells #[.int .i64 i] 3)) vo (some ⟨w.heap.size,0,none⟩) [i]:=by
  have hR:Kd.R (Kd.int .i64) 3 (w.alloc (.cells #[.int .i64 i] 3)) w.heap.size (fun _=>True) (.slice (some ⟨w.heap.size,0,none⟩) 1 1) [i]:=by
    refine⟨fun _ _=>trivial,[.int .i64 i],World.ownsRow_lit w #[.int .i64 i] 1 (Nat.le_refl _) (by decide) rfl,Reps.one (show Kd.M (Kd.int .i64) _ _ _ i [.int .i64 i] from rfl) (Reps.none _ _)⟩
  exact Kd.F_mono (Kd.R_F (Kd.R_bound hR)) (fun k hk=>⟨fun e=>by have:=hk.2.1;omega,fun e=>by have:=hk.2.1;have:=h2 k e.symm;omega⟩)
theorem size_alloc_ (w:World) (o:Obj):(w.alloc o).heap.size=w.heap.size + 1:=by rw[show(w.alloc o).heap=w.heap.push o from rfl,Array.size_push]
def at4 (w:World) (C1 C2 C3 C4:Array Value):World:=(((w.alloc (.cells C1 25)).alloc (.cells C2 22)).alloc (.cells C3 23)).alloc (.cells C4 115)
theorem at4_1 (w:World) (C1 C2 C3 C4:Array Value):(at4 w C1 C2 C3 C4).heap[w.heap.size]? = some (.cells C1 25 (0,0)):=Jg (Jg (Jg (blk_new w _) _) _) _
theorem at4_3 (w:World) (C1 C2 C3 C4:Array Value):(at4 w C1 C2 C3 C4).heap[w.heap.size + 1 + 1]? = some (.cells C3 23 (0,0)):=by
  have:=blk_new ((w.alloc (.cells C1 25)).alloc (.cells C2 22)) (.cells C3 23)
  rw[size_alloc_,size_alloc_] at this
  exact Jg this _
theorem at4_4 (w:World) (C1 C2 C3 C4:Array Value):(at4 w C1 C2 C3 C4).heap[w.heap.size + 1 + 1 + 1]? = some (.cells C4 115 (0,0)):=by
  have:=blk_new (((w.alloc (.cells C1 25)).alloc (.cells C2 22)).alloc (.cells C3 23)) (.cells C4 115)
  rw[size_alloc_,size_alloc_,size_alloc_] at this
  exact this
theorem st_init (w:World) (AC:Option Addr) (nC cC:Nat) (AD:Option Addr) (nD cD:Nat) :
    St w w.heap.size (w.heap.size + 1 + 1) (w.heap.size + 1 + 1 + 1) AC nC cC AD nD cD (.slice (some ⟨w.heap.size + 1,0,none⟩) 0 0) []
      ((at4 w #[.slice AC nC cC, .slice AD nD cD] #[] #[.slice (some ⟨w.heap.size + 1,0,none⟩) 0 0] #[.nilFunc]).setCell ⟨w.heap.size + 1 + 1 + 1,0,none⟩
        (.func (.func 115) #[] #[.pointer (some ⟨w.heap.size,0,none⟩), .pointer (some ⟨w.heap.size + 1 + 1,0,none⟩), .pointer (some ⟨w.heap.size + 1 + 1 + 1,0,none⟩)])):=by
  have hR:Kd.N (Kd.slice 3 (Kd.int .i64)) 22 ((w.alloc (.cells #[.slice AC nC cC, .slice AD nD cD] 25)).alloc (.cells #[] 22)) w.heap.size (fun k=>w.heap.size<=k/\k≠w.heap.size + 1 + 1) (.slice (some ⟨w.heap.size + 1,0,none⟩) 0 0) []:=by
    refine⟨fun k hk=>?_,[],rfl,⟨fun k hk=>hk.symm,[],?_,Reps.none _ _⟩,fun j x c hx _=>by simp at hx⟩
    · have:w.heap.size + 1=k:=by simpa [Value.ownBlock] using hk
      omega
    · have:=World.ownsRow_lit (base:=w.heap.size) (e:=22) (size:=(Kd.raw (Kd.slice 3 (Kd.int .i64)).sz).sz) (w.alloc (.cells #[.slice AC nC cC, .slice AD nD cD] 25)) #[] 0 (by rw[size_alloc_];omega) (by decide) (by simp)
      rw[size_alloc_] at this
      exact this
  refine⟨?_,Jp (at4_1 _ _ _ _ _) (by show w.heap.size≠w.heap.size + 1 + 1 + 1;omega) _,Jp (at4_3 _ _ _ _ _) (by show w.heap.size + 1 + 1≠w.heap.size + 1 + 1 + 1;omega) _,Jq (at4_4 _ _ _ _ _) 0 _ rfl,?_⟩
  · unfold at4;exact Jc (Jf (Jf (Jf (Jf (Below.refl _ _) _) _) _) _) (by omega)
  · refine Kd.N_below hR (Jc (Jf (Jf (Below.refl _ _) _) _) ?_)
    rw[size_alloc_,size_alloc_];omega
end Circ
open Circ
def G0.f (_:Nat) (c:List Int) (d:List (List Int)):Option (List (List Int)):=
  if c.length=d.length/\d.length<=4/\(∀i,i < d.length->(d.getD i []).length=d.length)/\(foundI d d.length 0).length<=20 then some (srtL ((foundI d d.length 0).length - 1) 1 (foundI d d.length 0)) else none
set_option maxHeartbeats 8000000 in
set_option maxRecDepth 100000 in
theorem G0.calls (k:Nat) (A0_0:Option Addr) (c0_0:Nat) (l0_0:List Int) (A0_1:Option Addr) (c0_1:Nat) (l0_1:List (List Int)) (r:List (List Int)) (w:World) (hr0_0:Kd.C (Kd.int .i64) w A0_0 l0_0.length l0_0) (hc0_0:l0_0.length<=c0_0) (hr0_1:Kd.C (Kd.slice 3 (Kd.int .i64)) w A0_1 l0_1.length l0_1) (hc0_1:l0_1.length<=c0_1) (h:G0.f k l0_0 l0_1=some r) :
    Calls Try.prog 96 #[.agg #[.slice A0_0 l0_0.length c0_0, .slice A0_1 l0_1.length c0_1]] w fun e w'=>∃v0_:Value,e = .returned (v0_)/\Kd.N (Kd.slice 3 (Kd.int .i64)) 22 w' w.heap.size (fun k_=>(w.heap.size<=k_)) v0_ r/\Below w.heap.size w w':=by
  have hu:=Try.underlying25
  unfold G0.f at h
  split at h
  case isFalse=>cases h
  case isTrue hh=>
  obtain⟨hcd,h4,sq,h20⟩:=hh
  have HR:=G7.mk (Option.some.inj h)
  have HCD:=G7.mk hcd
  clear hcd
  clear h
  have H20:=G7.mk h20
  clear h20
  have HD:=G7.mk hr0_1
  have HSQ:=G7.mk sq
  clear hr0_1 sq
  have z1:w.heap.size≠w.heap.size + 1 + 1:=by omega
  have z2:w.heap.size + 1 + 1≠w.heap.size:=by omega
  have z3:w.heap.size + 1 + 1 + 1≠w.heap.size + 1 + 1:=by omega
  have z4:w.heap.size + 1 + 1≠w.heap.size + 1 + 1 + 1:=by omega
  have z5:w.heap.size≠w.heap.size + 1 + 1 + 1:=by omega
  have z6:w.heap.size + 1 + 1 + 1≠w.heap.size:=by omega
  have z7:w.heap.size<=w.heap.size + 1 + 1:=by omega
  have hst:=at4_4 w #[.slice A0_0 l0_0.length c0_0, .slice A0_1 l0_1.length c0_1] #[] #[.slice (some ⟨w.heap.size + 1,0,none⟩) 0 0] #[.nilFunc]
  have hs0:(at4 w #[.slice A0_0 l0_0.length c0_0, .slice A0_1 l0_1.length c0_1] #[] #[.slice (some ⟨w.heap.size + 1,0,none⟩) 0 0] #[.nilFunc]).cell? ⟨w.heap.size + 1 + 1 + 1,0,none⟩=some .nilFunc:=(G8 hst 0).trans rfl
  have hf0:=Jj hst 0
  unfold at4 at hs0 hf0
  clear hst
  go_enter Try.func96,Try.ntmps96
  have S0:=G7.mk (st_init w A0_0 l0_0.length c0_0 A0_1 l0_1.length c0_1)
  unfold at4 at S0
  generalize hW4:((((w.alloc (.cells #[.slice A0_0 l0_0.length c0_0, .slice A0_1 l0_1.length c0_1] 25)).alloc (.cells #[] 22)).alloc (.cells #[.slice (some ⟨w.heap.size + 1,0,none⟩) 0 0] 23)).alloc (.cells #[.nilFunc] 115))=w4 at hs0 hf0 S0
  go_wp2_with ((with_reducible refine gate_store (t:=115) (p:=4) rfl ?_);refine store_event (t:=115) (p:=4) (v:=?vo) (w1:=w4.setCell ⟨w.heap.size + 1 + 1 + 1,0,none⟩
        (.func (.func 115) #[] #[.pointer (some ⟨w.heap.size,0,none⟩), .pointer (some ⟨w.heap.size + 1 + 1,0,none⟩), .pointer (some ⟨w.heap.size + 1 + 1 + 1,0,none⟩)])) ?hg ?ho ?hn ?hr ?_;(case ho=>rfl);(case hg=>rfl);(case hn=>rfl);(case hr=>go_simp;rw[run_store _ _ _ _ _ rfl];simp only[stored,hs0,hf0];rfl);intro w5 hw;rw[<- hw] at S0;have SS:=S0;clear S0 hs0 hf0 hW4 hw;have hz0:w5.cell? ⟨w.heap.size,0,none⟩=some (.slice A0_0 l0_0.length c0_0):=(G8 SS.out.bB 0).trans rfl)
  have h625:l0_1.length * 5 ^ l0_1.length<=4 * 625:=Nat.mul_le_mul h4 (Nat.pow_le_pow_right (by omega) h4)
  generalize hF:foundI l0_1 l0_1.length 0=F at HR H20
  have HF:=G7.mk hF
  clear hF
  obtain⟨n,hn⟩:∃n,n=l0_1.length:=⟨_,rfl⟩
  have HN:=G7.mk hn
  have H4:=G7.mk h4
  clear hn h4
  have H625:=G7.mk h625
  clear h625
  have HHR:=G7.mk hr0_0
  clear hr0_0
  go_loopg [11] (l0_0.length) (fun kq v11 w'=>∃(j:Nat) (v:Value) (ys:List (List Int)),kq + j=l0_0.length/\v11 = .int .i64 j/\G7 (St w w.heap.size (w.heap.size + 1 + 1) (w.heap.size + 1 + 1 + 1) A0_0 l0_0.length c0_0 A0_1 l0_1.length c0_1 v ys w')/\G7 (ys ++ foundI l0_1 kq j=F)/\G7 (ys.length + kq * 5 ^ l0_1.length<=1000000))
  case atStart=>exact⟨0,_,[],by omega,rfl,⟨by(repeat(first|with_reducible refine St.drewN ?_ _|with_reducible refine St.drew ?_));exact SS.out⟩,⟨by rw[<- HF.out,List.nil_append,HCD.out]⟩,⟨by have:=H625.out;rw[HCD.out,List.length_nil];omega⟩⟩
  case round=>
    clear SS
    obtain⟨j,v,ys,hj,rfl,SS,HE,HBd⟩:=hrel
    by_cases hlt:j < l0_0.length
    · obtain⟨k1,rfl⟩:∃k1,gk=k1 + 1:=⟨gk - 1,by omega⟩
      have HWJ:G7 (wrap64 ((j:Int) + 1)=((j + 1:Nat):Int)):=⟨by have:=H4.out;have:=HCD.out;unfold wrap64;omega⟩
      have hzW:wr.cell? ⟨w.heap.size + 1 + 1 + 1,0,none⟩=some (.func (.func 115) #[] #[.pointer (some ⟨w.heap.size,0,none⟩), .pointer (some ⟨w.heap.size + 1 + 1,0,none⟩), .pointer (some ⟨w.heap.size + 1 + 1 + 1,0,none⟩)]):=(G8 SS.out.bW 0).trans rfl
      have c3b0:decide ((j:Int) < (l0_0.length:Int))=true:=decide_eq_true (by omega)
      go_wp2_with (go_at_call 115;refine(walk HD.out HSQ.out H4.out z1 z2 z3 z4 z5 z6 z7 l0_1.length [(j:Int)] (by simp) ?s2 (by simp) (by simp) _ 1 _ v ys (Nat.le_refl _) ?s5 (SS.out.below (Jf (Below.refl _ _) _)) (lit1 wr (j:Int) (blk_lt SS.out.bO) (Kd.N_lt SS.out.hN))).mono ?_;(case s2=>exact fun x hx=>by have:=List.mem_singleton.1 hx;have:=HCD.out;omega);(case s5=>have z:=HBd.out;rw[Nat.succ_mul] at z;omega);rintro e w9 ⟨rfl,v9,hs9,_⟩;have HS9:=G7.mk hs9;clear hs9)
      go_roundg k1
      case measure=>omega
      case rel=>exact⟨j + 1,v9,_,by omega,(by first|rw[HWJ.out]|go_num),⟨by(repeat(first|with_reducible refine St.drewN ?_ _|with_reducible refine St.drew ?_));exact HS9.out⟩,⟨by have z:=HE.out;rw[foundI] at z;rw[List.append_assoc];exact z⟩,⟨by have z:=HBd.out;rw[Nat.succ_mul] at z;have y:=walk_len HSQ.out H4.out l0_1.length [(j:Int)];rw[List.length_append];omega⟩⟩
    · obtain rfl:j=l0_0.length:=by omega
      have hk0:gk=0:=by omega
      subst hk0
      have c3b0:decide ((l0_0.length:Int) < (l0_0.length:Int))=false:=decide_eq_false (by omega)
      have HYF:G7 (ys=F):=⟨by have:=HE.out;rw[foundI,List.append_nil] at this;exact this⟩
      have hzO:wr.cell? ⟨w.heap.size + 1 + 1,0,none⟩=some v:=(G8 SS.out.bO 0).trans rfl
      by_cases hys:ys=[]
      · subst hys
        obtain⟨AV,cV,eV⟩:=Kd.N_slice SS.out.hN
        have HEV:=G7.mk eV
        clear eV
        go_wp2_with (go_at_call 117;rw[HEV.out];refine(sort117_0 AV cV _).mono ?_;rintro e w9 ⟨rfl,⟨nd,rfl⟩⟩)
        go_ret
        refine⟨_,rfl,?_,?_⟩
        · rw[<- HR.out, <- HYF.out]
          exact Kd.N_mono (ok:=fun k=>w.heap.size<=k/\k≠w.heap.size + 1 + 1) (by(repeat(first|with_reducible refine Kd.N_drewN ?_ _|with_reducible refine Kd.N_drew ?_));exact SS.out.hN) (fun _ hk=>hk.1)
        · repeat(first|(with_reducible first|exact SS.out.hB|apply Jf|apply Je|apply Jd)|exact SS.out.hB)
      · have hlen:0 < ys.length:=List.length_pos_iff.2 hys
        obtain⟨g,cap,eV,hg,hgl,_⟩:=Kd.N_form SS.out.hN hlen
        have HEV:=G7.mk eV
        have HN9:=G7.mk (show Kd.N (Kd.slice 3 (Kd.int .i64)) 22 wr w.heap.size (fun k=>w.heap.size<=k/\k≠w.heap.size + 1 + 1) (.slice (some ⟨g,0,none⟩) ys.length cap) ys from eV ▸ SS.out.hN)
        have hgO:g≠w.heap.size + 1 + 1:=(SS.out.hN.1 g (by rw[eV];simp[Value.ownBlock])).2
        have HGO:=G7.mk hgO
        have HG:=G7.mk hg
        have h20:ys.length<=20:=by rw[HYF.out];exact H20.out
        clear eV hgO hg hgl hys hlen
        go_wp2_with (go_at_call 117;rw[HEV.out];refine(sort117 (show Kd.N (Kd.slice 3 (Kd.int .i64)) 22 _ w.heap.size (fun k=>w.heap.size<=k/\k≠w.heap.size + 1 + 1) (.slice (some ⟨g,0,none⟩) ys.length cap) ys by(repeat(first|with_reducible refine Kd.N_drewN ?_ _|with_reducible refine Kd.N_drew ?_));exact HN9.out) h20).mono ?_;rintro e w9 ⟨rfl,hs9⟩;have HS9:=G7.mk hs9;clear hs9;have hzO9:w9.cell? ⟨w.heap.size + 1 + 1,0,none⟩=some v:=(G8 ((HS9.out.2.1.2 _ (blk_lt SS.out.bO) (fun e=>HGO.out e.symm)).trans SS.out.bO) 0).trans rfl)
        go_ret
        refine⟨_,rfl,?_,?_⟩
        · rw[<- HR.out, <- HYF.out,HEV.out]
          exact Kd.N_mono (ok:=fun k=>w.heap.size<=k/\k≠w.heap.size + 1 + 1) (by(repeat(first|with_reducible refine Kd.N_drewN ?_ _|with_reducible refine Kd.N_drew ?_));exact HS9.out.1) (fun _ hk=>hk.1)
        · have hBB:Below w.heap.size w w9:=⟨HS9.out.2.2.1.trans SS.out.hB.os,HS9.out.2.2.2.1.trans SS.out.hB.tape,HS9.out.2.2.2.2.trans SS.out.hB.output,Nat.le_trans SS.out.hB.size HS9.out.2.1.1,fun i hi=>(HS9.out.2.1.2 i (Nat.lt_of_lt_of_le hi SS.out.hB.size) (fun e=>by have:=HG.out;omega)).trans (SS.out.hB.block i hi)⟩
          repeat(first|(with_reducible first|exact hBB|apply Jf|apply Je|apply Jd)|exact hBB)
end
end Go.Proofs.Ytfooakkhkehpiaa.PE
namespace Go.Proofs.Ytfooakkhkehpiaa.PE
open Go.RowKit Go.Proofs.YtfooakkhkehpiaaW.PrintWords Go.Proofs.YtfooakkhkehpiaaW.PrintLast Go.Proofs.YtfooakkhkehpiaaW.PrintMore Go.Proofs.Ytfooakkhkehpiaa.Qe
attribute [local go_sem] max2_int min2_int max_two min_two max_three min_three max_four min_four
set_option linter.unusedVariables false
set_option linter.unusedSimpArgs false
mutual
def Fj.l0:Nat->List Int->Int->List Int->Int->Int->List Int->List (List Int)->List Int->List (List Int)->Option (List Int × (List (List Int)))
 | 0,_,_,_,_,_,_,_,_,_=>none
 | k + 1,x1,x6,k7,x14,x15,lp0,fh6,ei1,br2=>if x15 < x14 then(if 0<=x15 then(if x15 < (k7.length:Int) then(if 0<=(rd k7 x15) then(if (rd k7 x15) < (fh6.length:Int) then(if (x1.length:Int)=0 then(none) else(if 0<=(Int.tmod (wrap64 (x15 + 1)) (x1.length:Int)) then(if (Int.tmod (wrap64 (x15 + 1)) (x1.length:Int)) < (x1.length:Int) then(if 0<=(rd x1 (Int.tmod (wrap64 (x15 + 1)) (x1.length:Int))) then(if (rd x1 (Int.tmod (wrap64 (x15 + 1)) (x1.length:Int))) < ((Jm fh6 (rd k7 x15)).length:Int) then(Fj.l0 k x1 (mn x6 (rd (Jm fh6 (rd k7 x15)) (rd x1 (Int.tmod (wrap64 (x15 + 1)) (x1.length:Int))))) k7 x14 (wrap64 (x15 + 1)) lp0 fh6 ei1 br2) else(none)) else(none)) else(none)) else(none))) else(none)) else(none)) else(none)) else(none)) else(Fj.l1 k x1 x6 x1 (x1.length:Int) 0 ei1 br2)
def Fj.l1:Nat->List Int->Int->List Int->Int->Int->List Int->List (List Int)->Option (List Int × (List (List Int)))
 | 0,_,_,_,_,_,_,_=>none
 | k + 1,x1,x6,x38,x39,zg,ei1,br2=>if zg < x39 then(if 0<=zg then(if zg < (x38.length:Int) then(if 0<=(rd x38 zg) then(if (rd x38 zg) < (br2.length:Int) then(if (x1.length:Int)=0 then(none) else(if 0<=(Int.tmod (wrap64 (zg + 1)) (x1.length:Int)) then(if (Int.tmod (wrap64 (zg + 1)) (x1.length:Int)) < (x1.length:Int) then(if 0<=(rd x1 (Int.tmod (wrap64 (zg + 1)) (x1.length:Int))) then(if (rd x1 (Int.tmod (wrap64 (zg + 1)) (x1.length:Int))) < ((Jm br2 (rd x38 zg)).length:Int) then(Fj.l1 k x1 x6 x38 x39 (wrap64 (zg + 1)) ei1 (br2.set ((rd x38 zg):Int).toNat ((Jm br2 (rd x38 zg)).set ((rd x1 (Int.tmod (wrap64 (zg + 1)) (x1.length:Int))):Int).toNat (wrap64 ((rd (Jm br2 (rd x38 zg)) (rd x1 (Int.tmod (wrap64 (zg + 1)) (x1.length:Int)))) - x6))))) else(none)) else(none)) else(none)) else(none))) else(none)) else(none)) else(none)) else(none)) else(some (ei1,br2))
end
def Fj.f (k:Nat) (ab:List Int) (aa:List (List Int)) (l1:List Int):Option (List Int × (List (List Int))):=(Fn.f k ab aa).bind fun bt467=>(Fj.l0 k l1 9 l1 (l1.length:Int) 0 ab aa bt467.1 bt467.2)
def Fj.T6:Bool × List (List Nat × List Nat):=(true,[([],[]),([],[]),([1],[1]),([],[]),([2,3],[2,3]),([4],[4]),([],[]),([],[]),([7],[7]),([],[]),([9],[9]),([8,10],[8,10]),([6,11],[6,11]),([12],[12]),([5,13],[5,13]),([14],[14]),([0,15],[0,15]),([16,0,1,2,3,4,5,6,7,8,9,10,11,12,13,14,15,16],[0,16])])
def Fj.B6:List Nat:=[0,0,2,0,14,30,0,0,128,0,512,1920,4032,8128,16382,32766,65535,131071]
theorem Fj.tab6:rtab .any (opsOf Try.f97 6)=Fj.T6:=by kernel_rfl
theorem Fj.bits6:waitsOk Fj.T6.2 Fj.B6=true:=by kernel_rfl
def Fj.T11:Bool × List (List Nat × List Nat):=(true,[([],[]),([0],[0]),([],[]),([1,2],[1,2]),([3],[3]),([],[]),([],[]),([6],[6]),([],[]),([8],[8]),([7,9],[7,9]),([5,10],[5,10]),([11],[11]),([4,12],[4,12]),([13],[13]),([],[]),([14,15],[14,15]),([4,12,0,1,2,3,4,5,6,7,8,9,10,11,12,13,14,15,16],[4,12]),([17,16,0,1,2,3,4,5,6,7,8,9,10,11,12,13,14,15,16],[16,17])])
def Fj.B11:List Nat:=[0,1,0,7,15,0,0,64,0,256,960,2016,4064,8191,16383,0,65535,131071,262143]
theorem Fj.tab11:rtab .any (opsOf Try.f97 11)=Fj.T11:=by kernel_rfl
theorem Fj.bits11:waitsOk Fj.T11.2 Fj.B11=true:=by kernel_rfl
theorem av6 {p:Prop} (h:p:=by repeat(first|(with_reducible first|exact HB.out|apply Jf|apply Je|apply Jd|refine Jc ?_ lp1.out|refine Jc ?_ lp2.out|refine Jc ?_ lp3.out|refine Jc ?_ GB39.out)|exact HB.out)):p:=h
set_option maxHeartbeats 8000000 in
set_option maxRecDepth 100000 in
theorem Fj.calls (k:Nat) (ae:Option Addr) (ac:Nat) (ab:List Int) (ag:Option Addr) (af:Nat) (aa:List (List Int)) (A1:Option Addr) (c1:Nat) (l1:List Int) (r1:List Int) (r2:List (List Int)) (w:World) (ca:Kd.C (Kd.int .i64) w ae ab.length ab) (ce:ab.length<=ac) (cb:Kd.C (Kd.slice 3 (Kd.int .i64)) w ag aa.length aa) (cg:aa.length<=af) (il:Kd.C (Kd.int .i64) w A1 l1.length l1) (iu:l1.length<=c1) (h:Fj.f k ab aa l1=some (r1,r2)) :
  Calls Try.prog 97 #[.agg #[.slice ae ab.length ac, .slice ag aa.length af], .slice A1 l1.length c1] w fun e w'=>∃v0_ v1_:Value,e = .returned (.agg #[v0_,v1_])/\Kd.R (Kd.int .i64) 3 w' w.heap.size (fun _=>True) v0_ r1/\Kd.S (Kd.slice 3 (Kd.int .i64)) 22 w' w.heap.size (fun k_=>some k_≠(v0_:Value).ownBlock) v1_ r2/\Below w.heap.size w w':=by
 have hu25:=Try.underlying25
 have bg:=A_ ca
 have bs:=A_ ce
 clear ca ce
 have bd:=A_ cb
 have bv:=A_ cg
 clear cb cg
 have fq:=A_ il
 have pb:=A_ iu
 clear il iu
 have HB:=A_ (Below.refl w.heap.size w)
 have H:=h
 unfold Fj.f at H
 clear h
 replace H:=Option.bind_eq_some_iff.mp H
 obtain⟨⟨am8,bb2⟩,yw,H⟩:=H
 try dsimp only at H
 have A3:=A_ yw
 clear yw
 have H':=A_ H
 clear H
 go_enter Try.func97,Try.ntmps97
 go_wp2_with (first|((with_reducible refine gd_ 2 ?_);refine bx_ (N:=2) #[.slice ae ab.length ac, .slice ag aa.length af] 25 ?_;intro ai1 hg w4 hbox hb;have pm:=A_ (hbox);have of7:=A_ ((g82_:w.heap.size<=ai1));have lp1:=of7;replace HB:=hs_ (av6) hb;clear hb hbox hg)|((with_reducible refine gd_ 4 ?_);refine bx_ (N:=4) #[.slice none 0 0, .slice none 0 0] 25 ?_;intro ab9 hg w5 hbox hb;have ra:=A_ (hbox);have of8:=A_ ((g82_:w.heap.size<=ab9));have lp2:=of8;replace HB:=hs_ (av6) hb;have jc5:=nl_ pm hg;have jc6:=nr_ pm hg;replace pm:=bb_ pm hb;clear hb hbox hg;have if0:=jc5.out;have if1:=jc6.out;obtain⟨z8,z9,aa0,aa1⟩:=blk2_ pm)|((with_reducible refine gc_ 111 ?_);refine gl_ 12 Try.func111 #[.agg #[.slice ae ab.length ac, .slice ag aa.length af]] ?_;(refine(Fn.calls k _ _ ab _ _ aa am8 bb2 _ (uC_ bg) bs.out (uC_ bd) bv.out A3.out).mono ?_);rintro e w8 ⟨of9,og0,rfl,ah,ak,hb⟩;refine⟨_,rfl,?_⟩;have fh7:=A_ (Kd.R_lower ah (G9 (av6)));have fh8:=A_ (Kd.S_lower ak (G9 (av6)));replace pm:=bb_ pm hb;replace ra:=bb_ ra hb;replace HB:=hs_ (av6) hb)|((with_reducible refine gd_ 5 ?_);refine bx_ (N:=5) #[.slice none 0 0, .slice none 0 0] 25 ?_;intro ai2 hg w9 hbox hb;replace fh7:=rb_ fh7 hb;replace fh8:=sb_ fh8 hb;have us:=A_ (hbox);have og1:=A_ ((g82_:w.heap.size<=ai2));have lp3:=og1;replace HB:=hs_ (av6) hb;have fh9:=nl_ pm hg;have jc7:=nr_ pm hg;replace pm:=bb_ pm hb;have fi0:=nl_ ra hg;have jc8:=nr_ ra hg;replace ra:=bb_ ra hb;clear hb hbox hg;obtain⟨h7,gg,yj⟩:=Kd.R_slice fh7.out;subst yj;have bf6:=jc7.out;have bf7:=fh9.out;have cj9:=jc8.out;have ck0:=fi0.out;obtain⟨sm,sn,so,sp⟩:=blk2_ us;obtain⟨nt,k0,bm1⟩:=Kd.S_slice fh8.out;subst bm1))
 go_loopg [6,15] k (fun kq v6 v15 w'=>∃(mw:Int) (rb:Int),v6 = .int .i64 mw/\v15 = .int .i64 rb/\G7 (Fj.l0 kq l1 mw l1 (l1.length:Int) rb ab aa am8 bb2=some (r1,r2))/\G7 (kq<=k)/\G7 (Kd.R (Kd.int .i64) 3 w' w.heap.size (fun _=>True) (.slice h7 am8.length gg) am8)/\G7 (Kd.S (Kd.slice 3 (Kd.int .i64)) 22 w' w.heap.size (fun k_=>some k_≠((.slice h7 am8.length gg):Value).ownBlock) (.slice nt bb2.length k0) bb2)/\G7 (hc_ w' ai1 #[(.slice ae ab.length ac),(.slice ag aa.length af)] 25)/\G7 (hc_ w' ab9 #[(.slice none 0 0),(.slice none 0 0)] 25)/\G7 (hc_ w' ai2 #[(.slice h7 am8.length gg),(.slice nt bb2.length k0)] 25)/\G7 (Below w.heap.size w w'))
 case atStart=>exact⟨(9),(0),(g3_),(g3_),H',⟨Nat.le_refl _⟩,⟨ra_ fh7⟩,⟨sa_ fh8⟩,⟨ba_ pm⟩,⟨ba_ ra⟩,⟨ba_ us⟩,⟨av6⟩⟩
 clear H'
 obtain⟨mw,rb,rfl,rfl,HA,HK1,as6,wf,pm,ra,us,HB⟩:=hrel
 cases gk with
 | zero=>exact absurd HA.out (by simp[Fj.l0])
 | succ k1=>?_
 have H:=HA.out
 clear HA
 simp only[Fj.l0] at H
 by_cases er:rb < (l1.length:Int)
 ·rw[if_pos er] at H
  have pc:=decide_eq_true er
  clear er
  obtain⟨af8,H⟩:=pd_ H
  obtain⟨ak3,H⟩:=pd_ H
  obtain⟨bg0,H⟩:=pd_ H
  obtain⟨th,H⟩:=pd_ H
  by_cases o0:(l1.length:Int)=0
  ·rw[if_pos o0] at H
   exact absurd H (by simp)
  rw[if_neg o0] at H
  have eg8:((l1.length:Int) == 0)=false:=beq_eq_false_iff_ne.mpr o0
  have lp4:((l1.length:Int) != 0)=true:=bne_iff_ne.mpr o0
  have lp5:¬ (l1=[]):=fun h_=>o0 (by rw[h_];rfl)
  obtain⟨ji21,hji21⟩:∃j_:Int,(Int.tmod (wrap64 (rb + 1)) (l1.length:Int))=j_:=⟨_,rfl⟩
  first|rw[hji21] at H|simp only[hji21] at H
  obtain⟨ax5,H⟩:=pd_ H
  obtain⟨bm4,H⟩:=pd_ H
  obtain⟨yl,H⟩:=pd_ H
  obtain⟨be9,H⟩:=pd_ H
  obtain⟨ji26,hji26⟩:∃j_:Int,(mn mw (rd (Jm aa (rd l1 rb)) (rd l1 (ji21))))=j_:=⟨_,rfl⟩
  first|rw[hji26] at H|simp only[hji26] at H
  have hji26_:(if (rd (Jm aa (rd l1 rb)) (rd l1 (ji21))) < mw then(rd (Jm aa (rd l1 rb)) (rd l1 (ji21))) else mw)=ji26:=hji26
  have H':=A_ H
  clear H
  obtain⟨⟨jc9,lp6,gt8⟩,fi1,fi2⟩:=rdp_ (Kd.at_int fq.out rb)
  cases lp6
  replace gt8:=cl_ HB gt8
  try go_wp2
  replace as6:=rd_ as6
  replace wf:=sd_ wf
  replace pm:=bd_ pm
  replace ra:=bd_ ra
  replace us:=bd_ us
  replace HB:=A_ (Jd HB.out)
  obtain⟨⟨jd0,og2,lp7,lp8,ei2,jd1,jd2⟩,fi3,fi4⟩:=rdp_ (at_L1 bd.out (rd l1 rb))
  have lp9:=ei2
  cases lp8
  replace ei2:=cl_ HB ei2
  have jd3:=A_ jd2
  have og3:=A_ jd1
  clear jd2 jd1
  obtain⟨⟨lq0,lq1,ei3⟩,fi5,fi6⟩:=rdp_ (Kd.at_int fq.out (ji21))
  have lq2:=ei3
  obtain rfl:jc9=lq0:=(by injection lq1)
  replace ei3:=cl_ HB ei3
  obtain⟨⟨jd4,lq3,ei4⟩,fi7,fi8⟩:=rdp_ (Kd.at_int jd3.out (rd l1 (ji21)))
  have lq4:=ei4
  cases lq3
  replace ei4:=cl_ HB ei4
  refine start_ (n:=18) (S:=fun w'=>w'.cell? ⟨ai1,0,none⟩=some (.slice ae ab.length ac)/\w'.cell? ⟨ai1,1,none⟩=some (.slice (some jd0) aa.length af)/\w'.cell? (jd0.add ((rd l1 rb)).toNat)=some (.slice (some jd4) (Jm aa (rd l1 rb)).length lp7)/\w'.cell? (jc9.add ((ji21)).toNat)=some (.int .i64 (rd l1 (ji21)))/\w'.cell? (jd4.add ((rd l1 (ji21))).toNat)=some (.int .i64 (rd (Jm aa (rd l1 rb)) (rd l1 (ji21))))) (ds:=[]) (tl_ 18 0) (g1_) rfl (g1_) ⟨(G8 pm.out 0).trans rfl,(G8 pm.out 1).trans rfl,((cl_ HB lp9).trans rfl),((cl_ HB lq2).trans rfl),((cl_ HB lq4).trans rfl)⟩ (fun hHeld=>?_);refine Js Fj.tab6 Fj.bits6 (fun HT_ HW_=>?_)
  generalize wr.drew=w27 at as6 wf pm ra us HB jd3 ei2 ei3 ei4 hHeld |-
  refine pw_ 0 20 (tl_ 18 1) ?_
  refine pw_ 1 21 (tl_ 18 3) ?_
  refine pw_ 3 23 (tl_ 18 11) ?_
  refine pw_ 6 26 (tl_ 18 75) ?_
  refine pw_ 7 27 (tl_ 18 203) ?_
  refine pw_ 8 28 (tl_ 18 459) ?_
  refine pw_ 9 29 (tl_ 18 971) ?_
  refine pw_ 10 30 (tl_ 18 1995) ?_
  refine pw_ 11 31 (tl_ 18 4043) ?_
  refine pw_ 12 32 (tl_ 18 8139) ?_
  refine tk4_ 2 22 (tl_ 18 8143) hHeld ?_
  refine pw_ 4 24 (tl_ 18 8159) ?_
  refine tk4_ 5 25 (tl_ 18 8191) hHeld ?_
  refine tk4_ 13 33 (tl_ 18 16383) hHeld ?_
  refine pw_ 14 34 (tl_ 18 32767) ?_
  refine tk4_ 15 35 (tl_ 18 65535) hHeld ?_
  refine pw_ 16 36 (tl_ 18 131071) ?_
  refine pw_ 17 6 (tl_ 18 262143) ?_
  refine done_ (done_of HT_.out (g1_)) ?_
  try go_wp2
  go_roundg k1
  case measure=>have:=HK1.out;omega
  case rel=>exact⟨(ji26),(wrap64 (rb + 1)),(by first|rfl|(simp;done)|(simp only[<- hji26] <;> (first|rfl|simp))|(simp[*];done)),(g3_),H',⟨g8_⟩,⟨uR_ as6⟩,⟨uS_ wf⟩,⟨uB_ pm⟩,⟨uB_ ra⟩,⟨uB_ us⟩,⟨av6⟩⟩
 rw[if_neg er] at H
 have pc:=decide_eq_false er
 clear er
 have H':=A_ H
 clear H
 go_wp2
 go_loopg [40] k1 (fun kq v40 w'=>∃(lf:Int) (bb3:List Int) (o6:List (List Int)) (dh1:Value) (gt9:Value),v40 = .int .i64 lf/\G7 (Fj.l1 kq l1 mw l1 (l1.length:Int) lf bb3 o6=some (r1,r2))/\G7 (kq<=k1)/\G7 (Kd.R (Kd.int .i64) 3 w' w.heap.size (fun _=>True) dh1 bb3)/\G7 (Kd.S (Kd.slice 3 (Kd.int .i64)) 22 w' w.heap.size (fun k_=>some k_≠(dh1:Value).ownBlock) gt9 o6)/\G7 (hc_ w' ai1 #[(.slice ae ab.length ac),(.slice ag aa.length af)] 25)/\G7 (hc_ w' ab9 #[(.slice none 0 0),(.slice none 0 0)] 25)/\G7 (hc_ w' ai2 #[dh1,gt9] 25)/\G7 (Below w.heap.size w w'))
 case atStart=>exact⟨(0),(am8),(bb2),(.slice h7 am8.length gg),(.slice nt bb2.length k0),(g3_),H',⟨Nat.le_refl _⟩,⟨uR_ as6⟩,⟨uS_ wf⟩,⟨uB_ pm⟩,⟨uB_ ra⟩,⟨uB_ us⟩,⟨av6⟩⟩
 clear H'
 obtain⟨lf,bb3,o6,dh1,gt9,rfl,HA,HK2,as6,wf,pm,ra,us,HB⟩:=hrel
 cases gk with
 | zero=>exact absurd HA.out (by simp[Fj.l1])
 | succ k2=>?_
 have H:=HA.out
 clear HA
 simp only[Fj.l1] at H
 by_cases lk:lf < (l1.length:Int)
 case neg=>
  rw[if_neg lk] at H
  have bn7:=decide_eq_false lk
  clear lk
  simp only[Option.some.injEq,Prod.mk.injEq] at H
  obtain⟨rfl,rfl⟩:=H
  have fa5:=jc7.out
  have fa6:=fh9.out
  have dy9:=jc8.out
  have dz0:=fi0.out
  obtain⟨gi8,gi9,gj0,gj1⟩:=blk2_ us
  obtain⟨dc,dd,cp9⟩:=Kd.R_slice as6.out
  subst cp9
  have hz8:=jc6.out
  have hz9:=jc5.out
  obtain⟨ia0,ia1,ia2,ia3⟩:=blk2_ ra
  obtain⟨ap9,aq0,dz1⟩:=Kd.S_slice wf.out
  subst dz1
  go_wp2
  refine bodyPost_ret (results_cell_row rfl _ _ ab9 25 #[.slice dc bb3.length dd, .slice ap9 o6.length aq0] (0,0) _ rfl (ba_ ra) Try.underlying25 rfl (g1_)) rfl ?_
  exact⟨_,_,g4_,ra_ as6,sa_ wf,av6⟩
 rw[if_pos lk] at H
 have bn7:=decide_eq_true lk
 clear lk
 obtain⟨gg7,H⟩:=pd_ H
 obtain⟨dc7,H⟩:=pd_ H
 obtain⟨dy8,H⟩:=pd_ H
 obtain⟨ge6,H⟩:=pd_ H
 by_cases qv:(l1.length:Int)=0
 ·rw[if_pos qv] at H
  exact absurd H (by simp)
 rw[if_neg qv] at H
 have ev2:((l1.length:Int) == 0)=false:=beq_eq_false_iff_ne.mpr qv
 have og4:((l1.length:Int) != 0)=true:=bne_iff_ne.mpr qv
 have og5:¬ (l1=[]):=fun h_=>qv (by rw[h_];rfl)
 obtain⟨ji34,hji34⟩:∃j_:Int,(Int.tmod (wrap64 (lf + 1)) (l1.length:Int))=j_:=⟨_,rfl⟩
 first|rw[hji34] at H|simp only[hji34] at H
 obtain⟨ge7,H⟩:=pd_ H
 obtain⟨ex9,H⟩:=pd_ H
 obtain⟨kn6,H⟩:=pd_ H
 obtain⟨kn7,H⟩:=pd_ H
 obtain⟨gu0,hyq⟩:∃y_:List Int,y_=((Jm o6 (rd l1 lf)).set ((rd l1 (ji34)):Int).toNat (wrap64 ((rd (Jm o6 (rd l1 lf)) (rd l1 (ji34))) - mw))):=⟨_,rfl⟩
 replace H:(Fj.l1 k2 l1 mw l1 (l1.length:Int) (wrap64 (lf + 1)) bb3 (o6.set ((rd l1 lf):Int).toNat gu0))=some (r1,r2):=qh_
 have lq5:=A_ hyq
 clear hyq
 obtain⟨jd5,hyq⟩:∃y_:List (List Int),y_=(o6.set ((rd l1 lf):Int).toNat gu0):=⟨_,rfl⟩
 replace H:(Fj.l1 k2 l1 mw l1 (l1.length:Int) (wrap64 (lf + 1)) bb3 jd5)=some (r1,r2):=qh_
 have lq6:=A_ hyq
 clear hyq
 have H':=A_ H
 clear H
 obtain⟨⟨jd6,lq7,jd7⟩,gu1,gu2⟩:=rdp_ (Kd.at_int fq.out lf)
 cases lq7
 replace jd7:=cl_ HB jd7
 try go_wp2
 replace as6:=rd_ as6
 replace wf:=sd_ wf
 replace pm:=bd_ pm
 replace ra:=bd_ ra
 replace us:=bd_ us
 replace HB:=A_ (Jd HB.out)
 obtain⟨az,ax,ab0⟩:=Kd.S_slice wf.out
 (first|subst ab0|(injection ab0 with f1_ f2_ f3_;have f4_:=f1_.symm;have f5_:=f3_.symm;clear f1_ f2_ f3_;subst f4_;subst f5_))
 have fi9:0<=((rd l1 lf):Int):=od_
 have fj0:(rd l1 lf) < (o6.length:Int):=od_
 obtain⟨gu3,og6,lq8,lq9,fj1,jd8,jd9⟩:=at_L1 (Kd.S_reads' wf.out).2.2 (rd l1 lf) fi9 fj0
 cases lq9
 obtain⟨ce479,hce479,hMe479,hcc479⟩:=Kd.S_get wf.out [] (rd l1 lf) fi9 (by first|exact fj0|exact od_|(have e_:=(Kd.S_reads' wf.out).1;omega))
 obtain⟨ve479_0,rfl,ge479_0⟩:=hMe479
 have hv479_0:=hcc479 0 _ rfl
 rw[Nat.add_zero,show((Kd.slice 3 (Kd.int .i64))).sz=1 from rfl,Nat.mul_one] at hv479_0
 replace hv479_0:=Option.some.inj (hv479_0.symm.trans fj1)
 rw[hv479_0] at ge479_0
 have ct5:=A_ (show Kd.R (Kd.int .i64) 3 _ _ _ _ (Jm o6 (rd l1 lf)) from ge479_0)
 clear hv479_0 ge479_0
 have HX479_0:=A_ fj1
 clear hcc479 hce479
 have gu4:=A_ jd9
 have og7:=A_ jd8
 clear jd9 jd8
 replace fi9:=eq_true fi9
 replace fj0:=eq_true fj0
 obtain⟨⟨lr0,lr1,fj2⟩,gu5,gu6⟩:=rdp_ (Kd.at_int fq.out (ji34))
 have lr2:=fj2
 obtain rfl:jd6=lr0:=(by injection lr1)
 replace fj2:=cl_ HB fj2
 obtain⟨⟨og8,lr3,gu9⟩,gu7,gu8⟩:=rdp_ (Kd.at_int (by repeat(first|(with_reducible exact gu4.out)|(with_reducible refine Kd.C_alloc ?_ _)|(with_reducible refine Kd.C_drewN ?_ _)|(with_reducible refine Kd.C_drew ?_)|exact gu4.out)) (rd l1 (ji34)))
 cases lr3
 have p39:0<=((rd l1 (ji34)):Int):=od_
 have q39:((rd l1 (ji34)):Int) < (((Jm o6 (rd l1 lf)).length:Int):Int):=od_
 obtain⟨dd9,yv,al6,ec4,gl39,cl39,HG39⟩:=Kd.R_form ct5.out (by omega)
 (first|cases al6|(injection al6 with ea_ en_ ec_;(first|subst ea_|(injection ea_ with ea_;subst ea_));subst ec_;clear en_))
 have GB39:=A_ ec4
 have GG39:=A_ HG39
 clear ec4 gl39 HG39
 (first|simp only[add_plain] at gu9|skip)
 obtain⟨gi7,hf39_0⟩:=Kd.R_celln 0 ct5.out ((rd l1 (ji34)):Int) p39 q39
 replace p39:=eq_true p39
 replace q39:=eq_true q39
 have hq42:((rd l1 lf):Int) < (o6.length:Int):=(by have h_:((rd l1 lf):Int) < ((o6.length:Int):Int):=od_;first|exact h_|(have e_:=(Kd.S_reads' wf.out).1;omega)|simpa only[List.length_set,List.length_set] using h_)
 obtain⟨oki42,ce42,hcl42,hM42,hcc42,hok42,hbk42⟩:=Kd.S_borrow wf.out [] ((rd l1 lf):Int) (od_) (by first|exact hq42|exact od_|(have e_:=(Kd.S_reads' wf.out).1;omega))
 obtain⟨ve42_0,rfl,ge42_0⟩:=hM42
 have hv42:=hcc42 0 _ rfl
 rw[Nat.add_zero,show((Kd.slice 3 (Kd.int .i64))).sz=1 from rfl,Nat.mul_one] at hv42
 replace hv42:=Option.some.inj (hv42.symm.trans HX479_0.out)
 subst hv42
 clear hcc42 hcl42
 replace ge42_0:=(show Kd.R (Kd.int .i64) 3 _ _ _ _ (Jm o6 (rd l1 lf)) from ge42_0)
 have HP42:=Kd.R_putg ge42_0 ((rd l1 (ji34)):Int) (wrap64 ((rd (Jm o6 (rd l1 lf)) (rd l1 (ji34))) - mw))
 rw[<- lq5.out] at HP42
 have HS42:=hbk42 HP42.2 (fun k_ e_=>by injection e_ with e_;subst e_;exact ge42_0.1 _ rfl) (x':=gu0) (Kd.M_row HP42.1)
 rw[<- lq6.out] at HS42
 have HQ42:=A_ HS42
 clear HP42 HS42 hbk42 hok42
 refine start_ (n:=19) (S:=fun w'=>w'.cell? ⟨ai2,0,none⟩=some (dh1)/\w'.cell? ⟨ai2,1,none⟩=some (.slice (some gu3) o6.length ax)/\w'.cell? (gu3.add ((rd l1 lf)).toNat)=some (.slice (some ⟨dd9,0,none⟩) (Jm o6 (rd l1 lf)).length lq8)/\w'.cell? (jd6.add ((ji34)).toNat)=some (.int .i64 (rd l1 (ji34)))/\w'.cell? ⟨dd9,((rd l1 (ji34))).toNat,none⟩=some (.int .i64 (rd (Jm o6 (rd l1 lf)) (rd l1 (ji34))))) (ds:=[18]) (tl_ 19 0) (g1_) rfl (g1_) ⟨(G8 us.out 0).trans rfl,(G8 us.out 1).trans rfl,fj1,((cl_ HB lr2).trans rfl),gu9⟩ (fun hHeld=>?_);refine Js Fj.tab11 Fj.bits11 (fun HT_ HW_=>?_)
 generalize wr.drew=o2 at as6 wf pm ra us HB GG39 ct5 HQ42 gu4 HX479_0 hf39_0 gi7 fj1 fj2 gu9 hHeld |-
 refine pw_ 0 45 (tl_ 19 1) ?_
 refine pw_ 2 47 (tl_ 19 5) ?_
 refine pw_ 5 50 (tl_ 19 37) ?_
 refine pw_ 6 51 (tl_ 19 101) ?_
 refine pw_ 7 52 (tl_ 19 229) ?_
 refine pw_ 8 53 (tl_ 19 485) ?_
 refine pw_ 9 54 (tl_ 19 997) ?_
 refine pw_ 10 55 (tl_ 19 2021) ?_
 refine pw_ 11 56 (tl_ 19 4069) ?_
 refine pw_ 15 60 (tl_ 19 36837) ?_
 refine tk4_ 1 46 (tl_ 19 36839) hHeld ?_
 refine pw_ 3 48 (tl_ 19 36847) ?_
 refine tk4_ 4 49 (tl_ 19 36863) hHeld ?_
 refine tk4_ 12 57 (tl_ 19 40959) hHeld ?_
 refine pw_ 13 58 (tl_ 19 49151) ?_
 refine tk4_ 14 59 (tl_ 19 65535) hHeld ?_
 refine pw_ 16 61 (tl_ 19 131071) ?_
 refine pw_ 17 62 (tl_ 19 262143) ?_
 refine last_ (i:=18) (N:=none) (tl_ 19 524287) rfl rfl (Ju HT_.out (g1_)) (by decide) (fun K hK=>?_)
 refine skip_ (w1:=?_) (by rfl) rfl ?_ ?_
 rotate_left
 ·go_simp
  rfl
 refine hK.out _ _ ?_
 clear hK K
 refine done_ (done_of HT_.out (g1_)) ?_
 try go_wp2
 go_roundg k2
 case measure=>have:=HK1.out;have:=HK2.out;omega
 case rel=>exact⟨(wrap64 (lf + 1)),(bb3),(jd5),(dh1),(.slice (some gu3) o6.length ax),(g3_),H',⟨g40_⟩,⟨by(with_reducible repeat(first|apply Kd.R_alloc|apply Kd.R_drewN|apply Kd.R_drew));exact Kd.R_mono (Kd.R_far (p:=⟨dd9,((rd l1 (ji34)):Int).toNat,none⟩) (Kd.R_far1 as6.out rfl ((ct5.out.1 _ rfl).1)) (fun _ hk=>hk.2) (.int .i64 (wrap64 ((rd (Jm o6 (rd l1 lf)) (rd l1 (ji34))) - mw)))) (fun _ hk=>trivial)⟩,⟨uS_ HQ42⟩,⟨by(with_reducible repeat(first|refine Jh ?_ _|refine Ji ?_|refine Jg ?_ _));refine Jp ?_ (by have h_:=Kd.R_ne ct5.out pm.out (by decide);intro e_;exact h_ (g6_)) _;exact uB_ pm⟩,⟨by(with_reducible repeat(first|refine Jh ?_ _|refine Ji ?_|refine Jg ?_ _));refine Jp ?_ (by have h_:=Kd.R_ne ct5.out ra.out (by decide);intro e_;exact h_ (g6_)) _;exact uB_ ra⟩,⟨by(with_reducible repeat(first|refine Jh ?_ _|refine Ji ?_|refine Jg ?_ _));refine Jp ?_ (by have h_:=Kd.R_ne ct5.out us.out (by decide);intro e_;exact h_ (g6_)) _;exact uB_ us⟩,⟨av6⟩⟩
def Fe.l0:Nat->Int->List Int->List (List Int)->Option (List Int × (List (List Int)) × Int)
 | 0,_,_,_=>none
 | k + 1,x5,gv0,gv1=>(G0.f k gv0 gv1).bind fun tn=>(if (tn.length:Int)=0 then(some (gv0,gv1,x5)) else(if 0 < (tn.length:Int) then((Fj.f k gv0 gv1 (Jm tn 0)).bind fun bt298=>(Fe.l0 k (wrap64 (x5 + 1)) bt298.1 bt298.2)) else(none)))
def Fe.f (k:Nat) (ab:List Int) (aa:List (List Int)):Option (List Int × (List (List Int)) × Int):=(Fn.f k ab aa).bind fun bt287=>(Fe.l0 k 0 bt287.1 bt287.2)
theorem Fe.calls0_q0 {p:Prop} (h:p:=by repeat(first|(with_reducible first|exact HB.out|apply Jf|apply Je|apply Jd|refine Jc ?_ lr4.out|refine Jc ?_ lr5.out|refine Jc ?_ lr6.out)|exact HB.out)):p:=h
set_option maxHeartbeats 8000000 in
set_option maxRecDepth 100000 in
theorem Fe.calls0 (k:Nat) (ae:Option Addr) (ac:Nat) (ab:List Int) (ag:Option Addr) (af:Nat) (aa:List (List Int)) (r1:List Int) (r2:List (List Int)) (r3:Int) (w:World) (ca:Kd.C (Kd.int .i64) w ae ab.length ab) (ce:ab.length<=ac) (cb:Kd.C (Kd.slice 3 (Kd.int .i64)) w ag aa.length aa) (cg:aa.length<=af) (h:Fe.f k ab aa=some (r1,r2,r3)) :
  Calls Try.prog 99 #[.agg #[.slice ae ab.length ac, .slice ag aa.length af]] w fun e w'=>∃v0_ v1_:Value,e = .returned (.tuple #[.agg #[v0_,v1_], .int .i64 r3])/\Kd.R (Kd.int .i64) 3 w' w.heap.size (fun k_=>(w.heap.size<=k_)) v0_ r1/\Kd.S (Kd.slice 3 (Kd.int .i64)) 22 w' w.heap.size (fun k_=>(w.heap.size<=k_)/\some k_≠(v0_:Value).ownBlock) v1_ r2/\Below w.heap.size w w':=by
 have hu25:=Try.underlying25
 have bg:=A_ ca
 have bs:=A_ ce
 clear ca ce
 have bd:=A_ cb
 have bv:=A_ cg
 clear cb cg
 have HB:=A_ (Below.refl w.heap.size w)
 have H:=h
 unfold Fe.f at H
 clear h
 replace H:=Option.bind_eq_some_iff.mp H
 obtain⟨⟨dh2,aq7⟩,vm,H⟩:=H
 try dsimp only at H
 have A2:=A_ vm
 clear vm
 have H':=A_ H
 clear H
 go_enter Try.func99,Try.ntmps99
 go_wp2_with (first|((with_reducible refine gd_ 1 ?_);refine bx_ (N:=1) #[.slice ae ab.length ac, .slice ag aa.length af] 25 ?_;intro tp hg w3 hbox hb;have o7:=A_ (hbox);have og9:=A_ ((g83_:w.heap.size<=tp));have lr4:=og9;replace HB:=A_ (Jr (Fe.calls0_q0) hb);clear hb hbox hg)|((with_reducible refine gd_ 2 ?_);refine bx_ (N:=2) #[.slice none 0 0, .slice none 0 0] 25 ?_;intro qq hg w4 hbox hb;have qg:=A_ (hbox);have oh0:=A_ ((g83_:w.heap.size<=qq));have lr5:=oh0;replace HB:=A_ (Jr (Fe.calls0_q0) hb);have je0:=nl_ o7 hg;have je1:=nr_ o7 hg;replace o7:=bb_ o7 hb;clear hb hbox hg;have eu2:=je0.out;have eu3:=je1.out;obtain⟨uf,ug,uh,ui⟩:=blk2_ o7)|((with_reducible refine gc_ 111 ?_);refine gl_ 8 Try.func111 #[.agg #[.slice ae ab.length ac, .slice ag aa.length af]] ?_;(refine(Fn.calls k _ _ ab _ _ aa dh2 aq7 _ (uC_ bg) bs.out (uC_ bd) bv.out A2.out).mono ?_);rintro e w7 ⟨lr7,ih7,rfl,ah,ak,hb⟩;refine⟨_,rfl,?_⟩;have fj3:=A_ (Kd.R_lower (Kd.R_newM (M:=fun k_=>(w.heap.size<=k_)) ah (G9 (Fe.calls0_q0)) (fun k_ h_=>h_)) (G9 (Fe.calls0_q0)));have bp3:=A_ (Kd.S_lower (Kd.S_mono (ok':=fun k_=>(w.heap.size<=k_)/\some k_≠(lr7:Value).ownBlock/\k_≠tp/\k_≠qq) (id (Kd.S_bound ak)) (fun k_ hk_=>⟨(Nat.le_trans (G9 (Fe.calls0_q0)) hk_.2.1),hk_.1,(Kd.freshB (g:=tp) (o:=.cells #[.slice ae ab.length ac, .slice ag aa.length af] 25 (0,0)) (uB_ o7) k_ hk_.2.1),(Kd.freshB (g:=qq) (o:=.cells #[.slice none 0 0, .slice none 0 0] 25 (0,0)) (uB_ qg) k_ hk_.2.1)⟩)) (G9 (Fe.calls0_q0)));replace o7:=bb_ o7 hb;replace qg:=bb_ qg hb;replace HB:=A_ (Jr (Fe.calls0_q0) hb))|((with_reducible refine gd_ 4 ?_);refine bx_ (N:=4) #[.slice none 0 0, .slice none 0 0] 25 ?_;intro ob hg w8 hbox hb;replace fj3:=rb_ fj3 hb;replace bp3:=A_ (Kd.S_below (Kd.S_elderB (uS_ bp3) ob (Nat.le_of_eq hg.symm)) hb);have oc:=A_ (hbox);have oh1:=A_ ((g83_:w.heap.size<=ob));have lr6:=oh1;replace HB:=A_ (Jr (Fe.calls0_q0) hb);have br3:=nl_ o7 hg;have ei5:=nr_ o7 hg;replace o7:=bb_ o7 hb;have br4:=nl_ qg hg;have ei6:=nr_ qg hg;replace qg:=bb_ qg hb;clear hb hbox hg;obtain⟨g3,gu,eo9⟩:=Kd.R_slice fj3.out;subst eo9;have cr9:=ei5.out;have cs0:=br3.out;have bf6:=ei6.out;have bf7:=br4.out;obtain⟨vi,vj,vk,vl⟩:=blk2_ oc;obtain⟨jc,gv,bn5⟩:=Kd.S_slice bp3.out;subst bn5))
 go_loopg [5] k (fun kq v5 w'=>∃(aj:Int) (r8:List Int) (r9:List (List Int)) (fj4:Value) (gv2:Value),v5 = .int .i64 aj/\G7 (Fe.l0 kq aj r8 r9=some (r1,r2,r3))/\G7 (kq<=k)/\G7 (Kd.R (Kd.int .i64) 3 w' w.heap.size (fun k_=>(w.heap.size<=k_)) fj4 r8)/\G7 (Kd.S (Kd.slice 3 (Kd.int .i64)) 22 w' w.heap.size (fun k_=>(w.heap.size<=k_)/\some k_≠(fj4:Value).ownBlock/\k_≠tp/\k_≠qq/\k_≠ob) gv2 r9)/\G7 (hc_ w' tp #[(.slice ae ab.length ac),(.slice ag aa.length af)] 25)/\G7 (hc_ w' qq #[(.slice none 0 0),(.slice none 0 0)] 25)/\G7 (hc_ w' ob #[fj4,gv2] 25)/\G7 (Below w.heap.size w w'))
 case atStart=>exact⟨(0),(dh2),(aq7),(.slice g3 dh2.length gu),(.slice jc aq7.length gv),(g3_),H',⟨Nat.le_refl _⟩,⟨ra_ fj3⟩,⟨sa_ bp3⟩,⟨ba_ o7⟩,⟨ba_ qg⟩,⟨ba_ oc⟩,⟨Fe.calls0_q0⟩⟩
 clear H'
 obtain⟨aj,r8,r9,fj4,gv2,rfl,HA,HK1,sa,s9,o7,qg,oc,HB⟩:=hrel
 cases gk with
 | zero=>exact absurd HA.out (by simp[Fe.l0])
 | succ k1=>?_
 have H:=HA.out
 clear HA
 simp only[Fe.l0] at H
 obtain⟨tn,A14,H⟩:=bind_ H
 by_cases er:(tn.length:Int)=0
 ·rw[if_pos er] at H
  have pc:((tn.length:Int) == 0)=true:=beq_iff_eq.mpr er
  have lr8:((tn.length:Int) != 0)=false:=bne_eq_false_iff_eq.mpr er
  clear er
  simp only[Option.some.injEq,Prod.mk.injEq] at H
  obtain⟨rfl,rfl,rfl⟩:=H
  have fb7:=ei5.out
  have fb8:=br3.out
  have je2:=ei6.out
  have je3:=br4.out
  obtain⟨ao6,ao7,ao8,ao9⟩:=blk2_ oc
  obtain⟨yt,yu,az2⟩:=Kd.R_slice sa.out
  subst az2
  obtain⟨bi5,bi6,ei7⟩:=Kd.S_slice s9.out
  subst ei7
  go_wp2_with (first|((with_reducible refine gc_ 96 ?_);refine gl_ 12 Try.func96 #[.agg #[.slice yt r8.length yu, .slice bi5 r9.length bi6]] ?_;(refine(G0.calls k1 _ _ r8 _ _ r9 tn _ (cR_ sa) (lR_ sa) (cS_ s9) (lS_ s9) A14.out).mono ?_);rintro e w21 ⟨ic9,rfl,ah,hb⟩;refine⟨_,rfl,?_⟩;have ag6:=A_ (Kd.N_lower (Kd.N_mono (ok':=fun k_=>(w.heap.size<=k_)/\some k_≠(.slice yt r8.length yu:Value).ownBlock/\some k_≠(.slice bi5 r9.length bi6:Value).ownBlock/\k_≠tp/\k_≠qq/\k_≠ob) ah (fun k_ hk_=>⟨(Nat.le_trans (G9 (Fe.calls0_q0)) hk_),(Kd.fresh' (Kd.R_lt (uR_ sa)) k_ hk_),(Kd.fresh' (Kd.S_lt (uS_ s9)) k_ hk_),(Kd.freshB (g:=tp) (o:=.cells #[.slice ae ab.length ac, .slice ag aa.length af] 25 (0,0)) (uB_ o7) k_ hk_),(Kd.freshB (g:=qq) (o:=.cells #[.slice none 0 0, .slice none 0 0] 25 (0,0)) (uB_ qg) k_ hk_),(Kd.freshB (g:=ob) (o:=.cells #[.slice yt r8.length yu, .slice bi5 r9.length bi6] 25 (0,0)) (uB_ oc) k_ hk_)⟩)) (G9 (Fe.calls0_q0)));replace sa:=rb_ sa hb;replace s9:=A_ (Kd.S_elder' (uS_ s9) (Kd.N_base (g101_)) hb);replace o7:=bb_ o7 hb;replace qg:=bb_ qg hb;replace oc:=bb_ oc hb;replace HB:=A_ (Jr (Fe.calls0_q0) hb);obtain⟨im,io,cs2⟩:=Kd.N_slice ag6.out;subst cs2;obtain⟨bw7,bw8,bw9,bx0⟩:=blk2_ oc;have fc0:=je1.out;have fc1:=je0.out;obtain⟨fb1,fb2,fb3,fb4⟩:=blk2_ qg))
  refine bodyPost_ret (Jt rfl _ _ qq 25 #[.slice yt r8.length yu, .slice bi5 r9.length bi6] (0,0) _ rfl (ba_ qg) Try.underlying25 rfl (g1_)) rfl ?_
  exact⟨_,_,g4_,ra_ sa,sa_ s9,Fe.calls0_q0⟩
 rw[if_neg er] at H
 have pc:((tn.length:Int) == 0)=false:=beq_eq_false_iff_ne.mpr er
 have lr8:((tn.length:Int) != 0)=true:=bne_iff_ne.mpr er
 have oh2:¬ (tn=[]):=fun h_=>er (by rw[h_];rfl)
 obtain⟨om,H⟩:=pos_ H
 have cm6:=decide_eq_true om
 have oh3:decide (0 < tn.length)=true:=decide_eq_true (by omega)
 clear om
 replace H:=Option.bind_eq_some_iff.mp H
 obtain⟨⟨dh3,aq9⟩,je4,H⟩:=H
 try dsimp only at H
 have A27:=A_ je4
 clear je4
 have H':=A_ H
 clear H
 have dc2:=ei5.out
 have dc3:=br3.out
 have dx9:=ei6.out
 have dy0:=br4.out
 obtain⟨es8,es9,et0,et1⟩:=blk2_ oc
 obtain⟨bh,bf,cs9⟩:=Kd.R_slice sa.out
 subst cs9
 obtain⟨b5,bw,bg1⟩:=Kd.S_slice s9.out
 subst bg1
 try go_wp2_with (first|((with_reducible refine gc_ 96 ?_);refine gl_ 12 Try.func96 #[.agg #[.slice bh r8.length bf, .slice b5 r9.length bw]] ?_;(refine(G0.calls k1 _ _ r8 _ _ r9 tn _ (cR_ sa) (lR_ sa) (cS_ s9) (lS_ s9) A14.out).mono ?_);rintro e w33 ⟨ic9,rfl,ah,hb⟩;refine⟨_,rfl,?_⟩;have ag6:=A_ (Kd.N_lower (Kd.N_mono (ok':=fun k_=>(w.heap.size<=k_)/\some k_≠(.slice bh r8.length bf:Value).ownBlock/\some k_≠(.slice b5 r9.length bw:Value).ownBlock/\k_≠tp/\k_≠qq/\k_≠ob) ah (fun k_ hk_=>⟨(Nat.le_trans (G9 (Fe.calls0_q0)) hk_),(Kd.fresh' (Kd.R_lt (uR_ sa)) k_ hk_),(Kd.fresh' (Kd.S_lt (uS_ s9)) k_ hk_),(Kd.freshB (g:=tp) (o:=.cells #[.slice ae ab.length ac, .slice ag aa.length af] 25 (0,0)) (uB_ o7) k_ hk_),(Kd.freshB (g:=qq) (o:=.cells #[.slice none 0 0, .slice none 0 0] 25 (0,0)) (uB_ qg) k_ hk_),(Kd.freshB (g:=ob) (o:=.cells #[.slice bh r8.length bf, .slice b5 r9.length bw] 25 (0,0)) (uB_ oc) k_ hk_)⟩)) (G9 (Fe.calls0_q0)));replace sa:=rb_ sa hb;replace s9:=A_ (Kd.S_elder' (uS_ s9) (Kd.N_base (g101_)) hb);replace o7:=bb_ o7 hb;replace qg:=bb_ qg hb;replace oc:=bb_ oc hb;replace HB:=A_ (Jr (Fe.calls0_q0) hb);obtain⟨oj,nu,cm4⟩:=Kd.N_slice ag6.out;subst cm4))
 replace sa:=rd_ sa
 replace s9:=sd_ s9
 replace ag6:=nd_ ag6
 replace o7:=bd_ o7
 replace qg:=bd_ qg
 replace oc:=bd_ oc
 replace HB:=A_ (Jd HB.out)
 have aq2:0<=(0:Int):=(by omega)
 have aq3:0 < (tn.length:Int):=od_
 obtain⟨ea5,je5,je6,ea6,cp3,je7,je8⟩:=at_L1 (Kd.N_reads' ag6.out).2.2 0 aq2 aq3
 cases ea6
 obtain⟨ce297,hce297,hMe297,hcc297⟩:=Kd.N_get ag6.out [] 0 aq2 (by first|exact aq3|exact od_|(have e_:=(Kd.N_reads' ag6.out).1;omega))
 obtain⟨ua297_0,uc297_0,rfl,ul297_0,ge297_0⟩:=Kd.FK_slice_open hMe297
 have hv297_0:=hcc297 0 _ rfl
 rw[Nat.add_zero,show((Kd.slice 3 (Kd.int .i64))).sz=1 from rfl,Nat.mul_one] at hv297_0
 replace hv297_0:=Option.some.inj (hv297_0.symm.trans cp3)
 injection hv297_0 with hva_ hvn_ hvc_
 rw[hva_] at ge297_0
 rw[hvc_] at ul297_0
 have gv3:=A_ (show Kd.V (Kd.int .i64) 3 _ w.heap.size _ _ (Jm tn 0) from Kd.V_mk ul297_0 ge297_0)
 clear hva_ hvn_ hvc_ ge297_0 ul297_0
 clear hcc297 hce297
 have qi297:(0 < tn.length)=True:=eq_true (by omega)
 (try rw[show((0:Int)).toNat=0 from rfl] at cp3)
 (try rw[Addr.add_zero'] at cp3)
 have dh4:=A_ je8
 have lr9:=A_ je7
 clear je8 je7
 replace aq2:=eq_true aq2
 replace aq3:=eq_true aq3
 refine start_ (n:=6) (S:=fun w'=>w'.cell? ⟨ob,0,none⟩=some (.slice bh r8.length bf)/\w'.cell? ⟨ob,1,none⟩=some (.slice b5 r9.length bw)/\w'.cell? ea5=some (.slice je5 (Jm tn 0).length je6)) (ds:=[5]) (tl_ 6 0) (g1_) rfl (g1_) ⟨(G8 oc.out 0).trans rfl,(G8 oc.out 1).trans rfl,cp3⟩ (fun hHeld=>?_)
 generalize w33.drew=w35 at sa s9 ag6 o7 qg oc HB gv3 dh4 cp3 hHeld |-
 refine pure_ (i:=1) (N:=some 19) (v:=?_) (a':=?_) (tl_ 6 2) rfl rfl (g1_) (fun _ _ _ h=>h) (Or.inl ⟨by rfl,?_⟩) ?_ ?_
 rotate_left
 ·intro w'
  go_simp
  with_reducible rfl
 rotate_left
 · exact sp_
 refine pure_ (i:=2) (N:=some 20) (v:=?_) (a':=?_) (tl_ 6 6) rfl rfl (g1_) (fun _ _ _ h=>h) (Or.inl ⟨by rfl,?_⟩) ?_ ?_
 rotate_left
 ·intro w'
  go_simp
  with_reducible rfl
 rotate_left
 · exact sp_
 refine take_ (i:=0) (N:=some 18) (v:=?_) (a':=?_) (tl_ 6 7) rfl rfl (g1_) (fun _ _ _ h=>h) (Or.inl ⟨by rfl,?_⟩) hHeld ?_ ?_
 rotate_left
 ·rintro w' ⟨s0,s1,s2⟩
  go_simp
  with_reducible rfl
 rotate_left
 · exact sp_
 refine take_ (i:=3) (N:=some 21) (v:=?_) (a':=?_) (tl_ 6 15) rfl rfl (g1_) (fun _ _ _ h=>h) (Or.inl ⟨by rfl,?_⟩) hHeld ?_ ?_
 rotate_left
 ·rintro w' ⟨s0,s1,s2⟩
  go_simp
  with_reducible rfl
 rotate_left
 · exact sp_
 refine one_ (i:=4) (N:=some 22) (tl_ 6 31) rfl rfl (g1_) (by decide) (fun K hK=>?_)
 refine goes_ Try.func97 (g1_) rfl #[.agg #[.slice bh r8.length bf, .slice b5 r9.length bw], .slice je5 (Jm tn 0).length je6] (by rfl) rfl rfl (gM_) ?_
 with_reducible refine(Fj.calls k1 _ _ r8 _ _ r9 _ _ (Jm tn 0) dh3 aq9 _ ?side1 ?side2 ?side3 ?side4 ?side5 ?side6 A27.out).mono ?_
 (case side1=>exact cR_ sa)
 (case side2=>exact lR_ sa)
 (case side3=>exact cS_ s9)
 (case side4=>exact lS_ s9)
 (case side5=>repeat(first|exact(by repeat(first|(with_reducible exact dh4.out)|(with_reducible refine Kd.C_alloc ?_ _)|(with_reducible refine Kd.C_drewN ?_ _)|(with_reducible refine Kd.C_drew ?_)|exact dh4.out))|(with_reducible refine Kd.C_alloc ?_ _)|(with_reducible refine Kd.C_drewN ?_ _)|(with_reducible refine Kd.C_drew ?_)))
 (case side6=>exact lr9.out)
 rintro e kn ⟨ls0,ii5,rfl,ah,ak,hb⟩
 have HS2_:=(hb.cell (World.block_lt_of_cell? _ _ (hHeld.2.2))).trans (hHeld.2.2)
 refine⟨_,rfl,?_⟩
 replace gv3:=A_ (Kd.V_mono (Kd.V_told (Kd.V_told (Kd.V_old (uV_ gv3) hb) (Kd.R_base ah)) (Kd.S_base (g70_))) (fun _ h_=>h_.1))
 have je9:=A_ (Kd.R_lower (Kd.R_new' (Kd.R_newM (M:=fun k_=>(w.heap.size<=k_)) ah (G9 (Fe.calls0_q0)) (fun k_ h_=>h_)) (Kd.R_lt (uR_ sa))) (G9 (Fe.calls0_q0)))
 have ed2:=A_ (Kd.S_lower (Kd.S_mono (ok':=fun k_=>(w.heap.size<=k_)/\some k_≠(ls0:Value).ownBlock/\some k_≠(.slice bh r8.length bf:Value).ownBlock/\some k_≠(.slice b5 r9.length bw:Value).ownBlock/\some k_≠(.slice (some ea5) tn.length nu:Value).ownBlock/\k_≠tp/\k_≠qq/\k_≠ob) (id (Kd.S_bound ak)) (fun k_ hk_=>⟨(Nat.le_trans (G9 (Fe.calls0_q0)) hk_.2.1),hk_.1,(Kd.fresh' (Kd.R_lt (uR_ sa)) k_ hk_.2.1),(Kd.fresh' (Kd.S_lt (uS_ s9)) k_ hk_.2.1),(Kd.fresh' (Kd.N_lt (uN_ ag6)) k_ hk_.2.1),(Kd.freshB (g:=tp) (o:=.cells #[.slice ae ab.length ac, .slice ag aa.length af] 25 (0,0)) (uB_ o7) k_ hk_.2.1),(Kd.freshB (g:=qq) (o:=.cells #[.slice none 0 0, .slice none 0 0] 25 (0,0)) (uB_ qg) k_ hk_.2.1),(Kd.freshB (g:=ob) (o:=.cells #[.slice bh r8.length bf, .slice b5 r9.length bw] 25 (0,0)) (uB_ oc) k_ hk_.2.1)⟩)) (G9 (Fe.calls0_q0)))
 replace sa:=A_ (Kd.R_elder' (uR_ sa) (Kd.R_base ah) hb)
 replace s9:=A_ (Kd.S_mono (Kd.S_told (Kd.S_told (Kd.S_old (uS_ s9) hb) (Kd.R_base ah)) (Kd.S_base (g70_))) (fun _ h_=>h_.1))
 replace ag6:=A_ (Kd.N_mono (Kd.N_told (Kd.N_told (Kd.N_old (uN_ ag6) hb) (Kd.R_base ah)) (Kd.S_base (g70_))) (fun _ h_=>h_.1))
 replace o7:=bb_ o7 hb
 replace qg:=bb_ qg hb
 replace oc:=bb_ oc hb
 replace dh4:=A_ (Kd.C_below (by repeat(first|(with_reducible exact dh4.out)|(with_reducible refine Kd.C_alloc ?_ _)|(with_reducible refine Kd.C_drewN ?_ _)|(with_reducible refine Kd.C_drew ?_)|exact dh4.out)) hb)
 replace HB:=A_ (Jr (Fe.calls0_q0) hb)
 obtain⟨ni,m0,dh5⟩:=Kd.R_slice je9.out
 (first|subst dh5|(injection dh5 with f1_ f2_ f3_;have f4_:=f1_.symm;have f5_:=f3_.symm;clear f1_ f2_ f3_;subst f4_;subst f5_))
 obtain⟨ag9,yv,al6⟩:=Kd.S_slice ed2.out
 (first|subst al6|(injection al6 with f1_ f2_ f3_;have f4_:=f1_.symm;have f5_:=f3_.symm;clear f1_ f2_ f3_;subst f4_;subst f5_))
 refine hK.out _ _ ⟨(G8 oc.out 0).trans rfl,(G8 oc.out 1).trans rfl,HS2_⟩ (fun hHeld=>?_)
 clear hK K
 refine nm_ ?_
 refine last_ (i:=5) (N:=none) (tl_ 6 63) rfl rfl (g1_) (by decide) (fun K hK=>?_)
 have oh4:kn.cell? ⟨ob,0,none⟩=some (.slice bh r8.length bf):=(G8 oc.out 0).trans rfl
 have oh5:=Jj oc.out 0
 have ls1:kn.cell? ⟨ob,1,none⟩=some (.slice b5 r9.length bw):=(G8 oc.out 1).trans rfl
 have ls2:=Jj oc.out 1
 refine skip_ (w1:=?_) (by rfl) rfl ?_ ?_
 rotate_left
 ·go_simp
  rfl
 refine hK.out _ _ ?_
 clear hK K
 refine done_ (g1_) ?_
 try go_wp2
 go_roundg k1
 case measure=>have:=HK1.out;omega
 case rel=>exact⟨(wrap64 (aj + 1)),(dh3),(aq9),(.slice ni dh3.length m0),(.slice ag9 aq9.length yv),(g3_),H',⟨g8_⟩,⟨ra_ je9⟩,⟨sa_ ed2⟩,⟨ba_ o7⟩,⟨ba_ qg⟩,⟨ba_ oc⟩,⟨Fe.calls0_q0⟩⟩
theorem Fe.calls (k:Nat) (ae:Option Addr) (ac:Nat) (ab:List Int) (ag:Option Addr) (af:Nat) (aa:List (List Int)) (r1:List Int) (r2:List (List Int)) (r3:Int) (w:World) (ca:Kd.C (Kd.int .i64) w ae ab.length ab) (ce:ab.length<=ac) (cb:Kd.C (Kd.slice 3 (Kd.int .i64)) w ag aa.length aa) (cg:aa.length<=af) (h:Fe.f k ab aa=some (r1,r2,r3)) :
  Calls Try.prog 99 #[.agg #[.slice ae ab.length ac, .slice ag aa.length af]] w fun e w'=>∃v0_ v1_:Value,e = .returned (.tuple #[.agg #[v0_,v1_], .int .i64 r3])/\Kd.R (Kd.int .i64) 3 w' w.heap.size (fun _=>True) v0_ r1/\Kd.S (Kd.slice 3 (Kd.int .i64)) 22 w' w.heap.size (fun k_=>some k_≠(v0_:Value).ownBlock) v1_ r2/\Below w.heap.size w w':=by
 refine(Fe.calls0 k ae ac ab ag af aa r1 r2 r3 w ca ce cb cg h).mono ?_
 rintro e w' ⟨v0_,v1_,he,h0,h1,hb⟩
 exact⟨v0_,v1_,he,Kd.R_mono h0 (fun _ _=>trivial),Kd.S_mono h1 (fun _ h_=>h_.2),hb⟩
attribute [local go_sem high] eqA69
mutual
def Fo.j0:Nat->Bool->List Int->List (List Int)->Int->Int->Int->Int->Option (List Int × (List (List Int)) × Bool)
 | 0,_,_,_,_,_,_,_=>none
 | k + 1,x10,bb4,bb5,ce4,ac0,as7,br5=>if x10=true then((G5.f k bb4 bb5 ac0 br5).bind fun bt489=>((Fi.f k bt489.1 bt489.2).bind fun gv4=>(some (bt489.1,bt489.2,gv4)))) else(if ce4=1 then((Gp.f k bb4 bb5 ac0).bind fun gv5=>(if gv5=true then((Gp.f k bb4 bb5 as7).bind fun gv6=>(if gv6=true then(Fo.j1 k (ac0 != as7) bb4 bb5 ce4 ac0 as7 br5) else(Fo.j1 k false bb4 bb5 ce4 ac0 as7 br5))) else(Fo.j1 k false bb4 bb5 ce4 ac0 as7 br5))) else(Fo.j1 k false bb4 bb5 ce4 ac0 as7 br5))
def Fo.j1:Nat->Bool->List Int->List (List Int)->Int->Int->Int->Int->Option (List Int × (List (List Int)) × Bool)
 | 0,_,_,_,_,_,_,_=>none
 | k + 1,x34,bb4,bb5,ce4,ac0,as7,br5=>if x34=true then((Fn.f k bb4 bb5).bind fun bt499=>(if 0<=ac0 then(if ac0 < (bt499.2.length:Int) then(if 0<=as7 then(if as7 < ((Jm bt499.2 ac0).length:Int) then((some (bt499.2.set (ac0:Int).toNat ((Jm bt499.2 ac0).set (as7:Int).toNat br5):List (List Int))).bind fun am9=>((Fi.f k bt499.1 am9).bind fun ct6=>(some (bt499.1,am9,ct6)))) else(none)) else(none)) else(none)) else(none))) else(if (ce4 == 2 && (ac0 == 0 && (as7 == 0 && (br5 == 0))))=true then((Ft.f k bb4 bb5).bind fun bt511=>(some (bt511.1,bt511.2,true))) else(if (ce4 == 3 && (ac0 == 0 && (as7 == 0 && (br5 == 0))))=true then((Fe.f k bb4 bb5).bind fun bt517=>(some (bt517.1,bt517.2.1,true))) else(some (([]:List Int),([]:List (List Int)),false))))
end
def Fo.f (k:Nat) (ab:List Int) (aa:List (List Int)) (aq:Int) (am:Int) (an:Int) (ao:Int):Option (List Int × (List (List Int)) × Bool):=if aq=0 then(if an=0 then((Gp.f k ab aa am).bind fun dh6=>(Fo.j0 k dh6 ab aa aq am an ao)) else(Fo.j0 k false ab aa aq am an ao)) else(Fo.j0 k false ab aa aq am an ao)
def Fo.T6:Bool × List (List Nat × List Nat):=(true,[([],[]),([0],[0]),([],[]),([2],[2]),([1,3],[1,3]),([4],[4]),([],[]),([6],[6]),([],[]),([8],[8]),([5,7,0,1,2,3,4,5,6,7,8,9],[5,7]),([10,9,0,1,2,3,4,5,6,7,8,9],[9,10])])
def Fo.B6:List Nat:=[0,1,0,4,15,31,0,64,0,256,1023,2047]
theorem Fo.tab6:rtab .any (opsOf Try.f123 6)=Fo.T6:=by kernel_rfl
theorem Fo.bits6:waitsOk Fo.T6.2 Fo.B6=true:=by kernel_rfl
theorem ka {p:Prop} (h:p:=by repeat(first|(with_reducible first|exact HB.out|apply Jf|apply Je|apply Jd|refine Jc ?_ ls7.out|refine Jc ?_ ls8.out|refine Jc ?_ ls9.out|refine Jc ?_ lt0.out|refine Jc ?_ lt1.out|refine Jc ?_ GB83.out|refine Jc ?_ lt2.out)|exact HB.out)):p:=h
set_option maxHeartbeats 8000000 in
set_option maxRecDepth 100000 in
theorem Fo.calls (k:Nat) (ae:Option Addr) (ac:Nat) (ab:List Int) (ag:Option Addr) (af:Nat) (aa:List (List Int)) (aq:Int) (am:Int) (an:Int) (ao:Int) (r1:List Int) (r2:List (List Int)) (r3:Bool) (w:World) (ca:Kd.C (Kd.int .i64) w ae ab.length ab) (ce:ab.length<=ac) (cb:Kd.C (Kd.slice 3 (Kd.int .i64)) w ag aa.length aa) (cg:aa.length<=af) (h:Fo.f k ab aa aq am an ao=some (r1,r2,r3)) :
  Calls Try.prog 123 #[.agg #[.slice ae ab.length ac, .slice ag aa.length af], .agg #[.int .i64 aq, .int .i64 am, .int .i64 an, .int .i64 ao]] w fun e w'=>∃v0_ v1_:Value,e = .returned (.tuple #[.agg #[v0_,v1_], .bool r3])/\Kd.R (Kd.int .i64) 3 w' w.heap.size (fun _=>True) v0_ r1/\Kd.S (Kd.slice 3 (Kd.int .i64)) 22 w' w.heap.size (fun k_=>some k_≠(v0_:Value).ownBlock) v1_ r2/\Below w.heap.size w w':=by
 have hu25:=Try.underlying25
 have hu69:=Try.underlying69
 have bg:=A_ ca
 have bs:=A_ ce
 clear ca ce
 have bd:=A_ cb
 have bv:=A_ cg
 clear cb cg
 have HB:=A_ (Below.refl w.heap.size w)
 have H:=h
 unfold Fo.f at H
 clear h
 have HC3:=A_ H
 clear H
 go_enter Try.func123,Try.ntmps123
 go_upto_region 1 with(first|((with_reducible refine gd_ 2 ?_);refine bx_ (N:=2) #[.slice ae ab.length ac, .slice ag aa.length af] 25 ?_;intro ut hg w4 hbox hb;have fg:=A_ (hbox);have oi0:=A_ ((g27_:w.heap.size<=ut));have ls7:=oi0;replace HB:=hs_ (ka) hb;clear hb hbox hg)|((with_reducible refine gd_ 3 ?_);refine bx_ (N:=3) #[.int .i64 aq, .int .i64 am, .int .i64 an, .int .i64 ao] 69 ?_;intro rc hg w5 hbox hb;have ex:=A_ (hbox);have oi1:=A_ ((g27_:w.heap.size<=rc));have ls8:=oi1;replace HB:=hs_ (ka) hb;have as8:=nl_ fg hg;have as9:=nr_ fg hg;replace fg:=bb_ fg hb;clear hb hbox hg)|((with_reducible refine gd_ 4 ?_);refine bx_ (N:=4) #[.slice none 0 0, .slice none 0 0] 25 ?_;intro jt hg w6 hbox hb;have en:=A_ (hbox);have oi2:=A_ ((g27_:w.heap.size<=jt));have ls9:=oi2;replace HB:=hs_ (ka) hb;have an0:=nl_ fg hg;have an1:=nr_ fg hg;replace fg:=bb_ fg hb;have ac1:=nl_ ex hg;have ac2:=nr_ ex hg;replace ex:=bb_ ex hb;clear hb hbox hg))
 (try simp only[Act.put,List.setIfInBounds_toArray,List.set_cons_zero,List.set_cons_succ])
 go_cut [10] (fun v10 wc=>∃(kq:Nat) (fj5:Bool),v10 = .bool fj5/\G7 (Fo.j0 kq fj5 ab aa aq am an ao=some (r1,r2,r3))/\G7 (kq<=k)/\G7 (hc_ wc ut #[(.slice ae ab.length ac),(.slice ag aa.length af)] 25)/\G7 (hc_ wc rc #[.int .i64 aq, .int .i64 am, .int .i64 an, .int .i64 ao] 69)/\G7 (hc_ wc jt #[(.slice none 0 0),(.slice none 0 0)] 25)/\G7 (Below w.heap.size w wc))
 case first=>
  have H:=HC3.out
  clear HC3
  by_cases c7:aq=0
  case neg=>
   rw[if_neg c7] at H
   have pw:(aq == 0)=false:=beq_eq_false_iff_ne.mpr c7
   have bm5:(aq != 0)=true:=bne_iff_ne.mpr c7
   (first|rw[pw]|(simp only[i64_w,i32_w];rw[pw])|skip)
   have H':=A_ H
   clear H
   have bw3:=as9.out
   have bw4:=as8.out
   have db4:=ac1.out
   have db5:=ac2.out
   obtain⟨t6,t7,ay0,gv7,t8,t9,ay1,gv8⟩:=blk4_ ex
   go_wp2
   go_meet
   case rel=>exact⟨_,(false),(g3_),H',⟨g9_⟩,⟨uB_ fg⟩,⟨uB_ ex⟩,⟨uB_ en⟩,⟨ka⟩⟩
  rw[if_pos c7] at H
  have pw:(aq == 0)=true:=beq_iff_eq.mpr c7
  have bm5:(aq != 0)=false:=bne_eq_false_iff_eq.mpr c7
  clear c7
  (first|rw[pw]|(simp only[i64_w,i32_w];rw[pw])|skip)
  by_cases c8:an=0
  ·rw[if_pos c8] at H
   have wx:(an == 0)=true:=beq_iff_eq.mpr c8
   have cc6:(an != 0)=false:=bne_eq_false_iff_eq.mpr c8
   clear c8
   obtain⟨dh6,A9,H⟩:=bind_ H
   have H':=A_ H
   clear H
   have cr9:=as9.out
   have cs0:=as8.out
   have bf6:=ac1.out
   have bf7:=ac2.out
   obtain⟨vi,vj,ba2,jf0,vk,vl,ba3,jf1⟩:=blk4_ ex
   have fz6:=an0.out
   have fz7:=an1.out
   obtain⟨ub,uc,ud,ue⟩:=blk2_ fg
   go_wp2_with (first|(go_at_call 83;(refine(Gp.calls k _ _ ab _ _ aa am dh6 _ (uC_ bg) bs.out (uC_ bd) bv.out A9.out).mono ?_);rintro e w15 ⟨rfl,hb⟩;replace fg:=bb_ fg hb;replace ex:=bb_ ex hb;replace en:=bb_ en hb;replace HB:=hs_ (ka) hb))
   go_meet
   case rel=>exact⟨_,(dh6),(g3_),H',⟨g9_⟩,⟨uB_ fg⟩,⟨uB_ ex⟩,⟨uB_ en⟩,⟨ka⟩⟩
  rw[if_neg c8] at H
  have wx:(an == 0)=false:=beq_eq_false_iff_ne.mpr c8
  have cc6:(an != 0)=true:=bne_iff_ne.mpr c8
  have H':=A_ H
  clear H
  have fb7:=as9.out
  have fb8:=as8.out
  have je2:=ac1.out
  have je3:=ac2.out
  obtain⟨ao6,ao7,cj6,jf2,ao8,ao9,cj7,jf3⟩:=blk4_ ex
  go_wp2
  go_meet
  case rel=>exact⟨_,(false),(g3_),H',⟨g9_⟩,⟨uB_ fg⟩,⟨uB_ ex⟩,⟨uB_ en⟩,⟨ka⟩⟩
 clear HC3
 obtain⟨kq,fj5,rfl,HA,HJ2,fg,ex,en,HB⟩:=hcut
 cases kq with
 | zero=>exact absurd HA.out (by simp[Fo.j0])
 | succ kj2=>?_
 have H:=HA.out
 clear HA
 simp only[Fo.j0] at H
 by_cases la:fj5=true
 ·subst la
  replace H:=ifp_ H
  replace H:=Option.bind_eq_some_iff.mp H
  obtain⟨⟨re,tq⟩,jf4,H⟩:=H
  try dsimp only at H
  have A23:=A_ jf4
  clear jf4
  obtain⟨gv4,A24,H⟩:=bind_ H
  simp only[Option.some.injEq,Prod.mk.injEq] at H
  obtain⟨rfl,rfl,rfl⟩:=H
  have gm0:=as8.out
  have gm1:=as9.out
  have gk8:=an0.out
  have gk9:=an1.out
  obtain⟨de0,de1,de2,de3⟩:=blk2_ fg
  have dc2:=ac1.out
  have dc3:=ac2.out
  obtain⟨da2,da3,fq9,lt3,da4,da5,fr0,lt4⟩:=blk4_ ex
  try go_wp2_with (first|((with_reducible refine gc_ 84 ?_);refine gl_ 30 Try.func84 #[.agg #[.slice ae ab.length ac, .slice ag aa.length af], .int .i64 am, .int .i64 ao] ?_;(refine(G5.calls kj2 _ _ ab _ _ aa am ao re tq _ (uC_ bg) bs.out (uC_ bd) bv.out A23.out).mono ?_);rintro e pv ⟨oi3,oi4,rfl,ah,ak,hb⟩;refine⟨_,rfl,?_⟩;have ai3:=A_ (Kd.R_lower ah (G9 (ka)));have ai4:=A_ (Kd.S_lower ak (G9 (ka)));replace fg:=bb_ fg hb;replace ex:=bb_ ex hb;replace en:=bb_ en hb;replace HB:=hs_ (ka) hb)|((with_reducible refine gd_ 6 ?_);refine bx_ (N:=6) #[.slice none 0 0, .slice none 0 0] 25 ?_;intro m3 hg w31 hbox hb;replace ai3:=rb_ ai3 hb;replace ai4:=sb_ ai4 hb;have ac3:=A_ (hbox);have oi5:=A_ ((g27_:w.heap.size<=m3));have lt0:=oi5;replace HB:=hs_ (ka) hb;have gv9:=nl_ fg hg;have lt5:=nr_ fg hg;replace fg:=bb_ fg hb;have gw0:=nl_ ex hg;have lt6:=nr_ ex hg;replace ex:=bb_ ex hb;have ei8:=nl_ en hg;have ct7:=nr_ en hg;replace en:=bb_ en hb;clear hb hbox hg;obtain⟨b5,bw,bg1⟩:=Kd.R_slice ai3.out;subst bg1;have bz8:=lt5.out;have bz9:=gv9.out;have ef0:=lt6.out;have ef1:=gw0.out;have oi6:=ct7.out;have oi7:=ei8.out;obtain⟨lt7,lt8,lt9,lu0⟩:=blk2_ ac3;obtain⟨ni,m0,dh5⟩:=Kd.S_slice ai4.out;subst dh5))
  have n0_:G7 (Kd.R (Kd.int .i64) 3 ((w31.setCell ⟨m3,0,none⟩ (.slice b5 re.length bw)).setCell ⟨m3,1,none⟩ (.slice ni tq.length m0)) w.heap.size (fun _=>True) (.slice b5 re.length bw) re):=⟨ra_ ai3⟩
  have n1_:G7 (Kd.S (Kd.slice 3 (Kd.int .i64)) 22 ((w31.setCell ⟨m3,0,none⟩ (.slice b5 re.length bw)).setCell ⟨m3,1,none⟩ (.slice ni tq.length m0)) w.heap.size (fun k_=>some k_≠(.slice b5 re.length bw:Value).ownBlock) (.slice ni tq.length m0) tq):=⟨sa_ ai4⟩
  have n2_:G7 (((w31.setCell ⟨m3,0,none⟩ (.slice b5 re.length bw)).setCell ⟨m3,1,none⟩ (.slice ni tq.length m0)).heap[ut]? = some (.cells #[.slice ae ab.length ac, .slice ag aa.length af] 25 (0,0))):=⟨ba_ fg⟩
  have n3_:G7 (((w31.setCell ⟨m3,0,none⟩ (.slice b5 re.length bw)).setCell ⟨m3,1,none⟩ (.slice ni tq.length m0)).heap[rc]? = some (.cells #[.int .i64 aq, .int .i64 am, .int .i64 an, .int .i64 ao] 69 (0,0))):=⟨ba_ ex⟩
  have n4_:G7 (((w31.setCell ⟨m3,0,none⟩ (.slice b5 re.length bw)).setCell ⟨m3,1,none⟩ (.slice ni tq.length m0)).heap[jt]? = some (.cells #[.slice none 0 0, .slice none 0 0] 25 (0,0))):=⟨ba_ en⟩
  have n5_:G7 (((w31.setCell ⟨m3,0,none⟩ (.slice b5 re.length bw)).setCell ⟨m3,1,none⟩ (.slice ni tq.length m0)).heap[m3]? = some (.cells #[.slice b5 re.length bw, .slice ni tq.length m0] 25 (0,0))):=⟨ba_ ac3⟩
  have n6_:G7 (Below w.heap.size w ((w31.setCell ⟨m3,0,none⟩ (.slice b5 re.length bw)).setCell ⟨m3,1,none⟩ (.slice ni tq.length m0))):=⟨ka⟩
  generalize ((w31.setCell ⟨m3,0,none⟩ (.slice b5 re.length bw)).setCell ⟨m3,1,none⟩ (.slice ni tq.length m0))=lc at n0_ n1_ n2_ n3_ n4_ n5_ n6_ |-
  have ai3:=n0_
  have ai4:=n1_
  have fg:=n2_
  have ex:=n3_
  have en:=n4_
  have ac3:=n5_
  have HB:=n6_
  clear n0_ n1_ n2_ n3_ n4_ n5_ n6_
  replace ai3:=rd_ ai3
  replace ai4:=sd_ ai4
  replace fg:=bd_ fg
  replace ex:=bd_ ex
  replace en:=bd_ en
  replace ac3:=bd_ ac3
  replace HB:=A_ (Jd HB.out)
  refine start_ (n:=5) (S:=fun w'=>w'.cell? ⟨m3,0,none⟩=some (.slice b5 re.length bw)/\w'.cell? ⟨m3,1,none⟩=some (.slice ni tq.length m0)) (ds:=[]) (tl_ 5 0) (g1_) rfl (g1_) ⟨(G8 ac3.out 0).trans rfl,(G8 ac3.out 1).trans rfl⟩ (fun hHeld=>?_)
  generalize lc.drew=w39 at ai3 ai4 fg ex en ac3 HB hHeld |-
  refine take_ (i:=0) (N:=some 31) (v:=?_) (a':=?_) (tl_ 5 1) rfl rfl (g1_) (fun _ _ _ h=>h) (Or.inl ⟨by rfl,?_⟩) hHeld ?_ ?_
  rotate_left
  ·rintro w' ⟨s0,s1⟩
   go_simp
   with_reducible rfl
  rotate_left
  · exact sp_
  refine take_ (i:=1) (N:=some 32) (v:=?_) (a':=?_) (tl_ 5 3) rfl rfl (g1_) (fun _ _ _ h=>h) (Or.inl ⟨by rfl,?_⟩) hHeld ?_ ?_
  rotate_left
  ·rintro w' ⟨s0,s1⟩
   go_simp
   with_reducible rfl
  rotate_left
  · exact sp_
  refine one_ (i:=2) (N:=some 33) (tl_ 5 7) rfl rfl (g1_) (by decide) (fun K hK=>?_)
  refine goes_ Try.func73 (g1_) rfl #[.agg #[.slice b5 re.length bw, .slice ni tq.length m0]] (by rfl) rfl rfl (gM_) ?_
  refine(Fi.calls kj2 _ _ re _ _ tq gv4 _ (cR_ ai3) (lR_ ai3) (cS_ ai4) (lS_ ai4) A24.out).mono ?_
  rintro e o2 ⟨rfl,hb⟩
  refine⟨_,rfl,?_⟩
  replace ai3:=rb_ ai3 hb
  replace ai4:=sb_ ai4 hb
  replace fg:=bb_ fg hb
  replace ex:=bb_ ex hb
  replace en:=bb_ en hb
  replace ac3:=bb_ ac3 hb
  replace HB:=hs_ (ka) hb
  refine hK.out _ _ ⟨(G8 ac3.out 0).trans rfl,(G8 ac3.out 1).trans rfl⟩ (fun hHeld=>?_)
  clear hK K
  refine nm_ ?_
  refine one_ (i:=3) (N:=none) (tl_ 5 15) rfl rfl (g1_) (by decide) (fun K hK=>?_)
  have oi8:o2.cell? ⟨jt,0,none⟩=some (.slice none 0 0):=(G8 en.out 0).trans rfl
  have oi9:=Jj en.out 0
  have oj2:=ct7.out
  have oj5:=ei8.out
  have ii7:o2.cell? ⟨jt,1,none⟩=some (.slice none 0 0):=(G8 en.out 1).trans rfl
  have ii8:=Jj en.out 1
  refine skip_ (w1:=?_) (by rfl) rfl ?_ ?_
  rotate_left
  ·go_simp
   rfl
  refine hK.out _ _ ⟨(cf_ ct7 ((cf_ ct7 (hHeld.1)))),(cf_ ct7 ((cf_ ct7 (hHeld.2))))⟩ (fun hHeld=>?_)
  clear hK K
  refine pure_ (i:=4) (N:=some 5) (v:=?_) (a':=?_) (tl_ 5 31) rfl rfl (g1_) (fun _ _ _ h=>h) (Or.inl ⟨by rfl,?_⟩) ?_ ?_
  rotate_left
  ·intro w'
   go_simp
   with_reducible rfl
  rotate_left
  · exact sp_
  refine done_ (g1_) ?_
  try go_wp2
  refine bodyPost_ret (Jt rfl _ _ jt 25 #[.slice b5 re.length bw, .slice ni tq.length m0] (0,0) _ rfl (ba_ en) Try.underlying25 rfl (g1_)) rfl ?_
  exact⟨_,_,g4_,ra_ ai3,sa_ ai4,ka⟩
 replace la:=Bool.eq_false_iff.mpr la
 subst la
 replace H:=ifn_ H
 have gw1:=A_ H
 clear H
 go_upto_region 4 with(fail)
 go_cut [34] (fun v34 wc=>∃(kq:Nat) (fj6:Bool),v34 = .bool fj6/\G7 (Fo.j1 kq fj6 ab aa aq am an ao=some (r1,r2,r3))/\G7 (kq<=kj2)/\G7 (hc_ wc ut #[(.slice ae ab.length ac),(.slice ag aa.length af)] 25)/\G7 (hc_ wc rc #[.int .i64 aq, .int .i64 am, .int .i64 an, .int .i64 ao] 69)/\G7 (hc_ wc jt #[(.slice none 0 0),(.slice none 0 0)] 25)/\G7 (Below w.heap.size w wc))
 case first=>
  have H:=gw1.out
  clear gw1
  by_cases c44:aq=1
  case neg=>
   rw[if_neg c44] at H
   have dh7:(aq == 1)=false:=beq_eq_false_iff_ne.mpr c44
   have jf5:(aq != 1)=true:=bne_iff_ne.mpr c44
   (first|rw[dh7]|(simp only[i64_w,i32_w];rw[dh7])|skip)
   have H':=A_ H
   clear H
   have fc7:=as9.out
   have fc8:=as8.out
   have in0:=ac1.out
   have in1:=ac2.out
   obtain⟨di4,di5,di6,lw7,di7,di8,di9,lw8⟩:=blk4_ ex
   go_wp2
   go_meet
   case rel=>exact⟨_,(false),(g3_),H',⟨g112_⟩,⟨uB_ fg⟩,⟨uB_ ex⟩,⟨uB_ en⟩,⟨ka⟩⟩
  rw[if_pos c44] at H
  have dh7:(aq == 1)=true:=beq_iff_eq.mpr c44
  have jf5:(aq != 1)=false:=bne_eq_false_iff_eq.mpr c44
  clear c44
  (first|rw[dh7]|(simp only[i64_w,i32_w];rw[dh7])|skip)
  obtain⟨gv5,A45,H⟩:=bind_ H
  by_cases c46:gv5=true
  case neg=>
   replace c46:=Bool.eq_false_iff.mpr c46
   subst c46
   replace H:=ifn_ H
   have H':=A_ H
   clear H
   have gw2:=as9.out
   have gw3:=as8.out
   have eg1:=ac1.out
   have eg2:=ac2.out
   obtain⟨dh8,dh9,di0,lw5,di1,di2,di3,lw6⟩:=blk4_ ex
   have im6:=an0.out
   have im7:=an1.out
   obtain⟨it2,it3,it4,it5⟩:=blk2_ fg
   go_wp2_with (first|(go_at_call 83;(refine(Gp.calls kj2 _ _ ab _ _ aa am false _ (uC_ bg) bs.out (uC_ bd) bv.out A45.out).mono ?_);rintro e w73 ⟨rfl,hb⟩;replace fg:=bb_ fg hb;replace ex:=bb_ ex hb;replace en:=bb_ en hb;replace HB:=hs_ (ka) hb))
   go_meet
   case rel=>exact⟨_,(false),(g3_),H',⟨g112_⟩,⟨uB_ fg⟩,⟨uB_ ex⟩,⟨uB_ en⟩,⟨ka⟩⟩
  subst c46
  replace H:=ifp_ H
  obtain⟨gv6,A47,H⟩:=bind_ H
  by_cases c48:gv6=true
  ·subst c48
   replace H:=ifp_ H
   have H':=A_ H
   clear H
   have il8:=as9.out
   have il9:=as8.out
   have gm4:=ac1.out
   have gm5:=ac2.out
   obtain⟨dz2,dz3,fc4,gm6,dz4,dz5,fc5,gm7⟩:=blk4_ ex
   have is3:=an0.out
   have is4:=an1.out
   obtain⟨lu1,lu2,lu3,lu4⟩:=blk2_ fg
   have MK83_0:=True.intro
   go_wp2_with (first|(clear MK83_0;go_at_call 83;(refine(Gp.calls kj2 _ _ ab _ _ aa am true _ (uC_ bg) bs.out (uC_ bd) bv.out A45.out).mono ?_);rintro e w54 ⟨rfl,hb⟩;replace fg:=bb_ fg hb;replace ex:=bb_ ex hb;replace en:=bb_ en hb;replace HB:=hs_ (ka) hb;obtain⟨ei9,ej0,ej1,ej2⟩:=blk2_ fg;obtain⟨gd8,gd9,lu5,lu6,ge0,ge1,lu7,lu8⟩:=blk4_ ex)|(go_at_call 83;(refine(Gp.calls kj2 _ _ ab _ _ aa an true _ (uC_ bg) bs.out (uC_ bd) bv.out A47.out).mono ?_);rintro e w57 ⟨rfl,hb⟩;replace fg:=bb_ fg hb;replace ex:=bb_ ex hb;replace en:=bb_ en hb;replace HB:=hs_ (ka) hb;obtain⟨ia4,ia5,lu9,lv0,ia6,ia7,lv1,lv2⟩:=blk4_ ex))
   go_meet
   case rel=>exact⟨_,((am != an)),(g3_),H',⟨g112_⟩,⟨uB_ fg⟩,⟨uB_ ex⟩,⟨uB_ en⟩,⟨ka⟩⟩
  replace c48:=Bool.eq_false_iff.mpr c48
  subst c48
  replace H:=ifn_ H
  have H':=A_ H
  clear H
  have le3:=as9.out
  have le4:=as8.out
  have lv3:=ac1.out
  have lv4:=ac2.out
  obtain⟨lv5,lv6,lv7,lv8,lv9,lw0,lw1,lw2⟩:=blk4_ ex
  have fj7:=an0.out
  have fj8:=an1.out
  obtain⟨df7,df8,df9,dg0⟩:=blk2_ fg
  have MK83_0:=True.intro
  go_wp2_with (first|(clear MK83_0;go_at_call 83;(refine(Gp.calls kj2 _ _ ab _ _ aa am true _ (uC_ bg) bs.out (uC_ bd) bv.out A45.out).mono ?_);rintro e w64 ⟨rfl,hb⟩;replace fg:=bb_ fg hb;replace ex:=bb_ ex hb;replace en:=bb_ en hb;replace HB:=hs_ (ka) hb;obtain⟨is7,is8,is9,it0⟩:=blk2_ fg;obtain⟨ce5,ce6,ce7,lw3,ce8,ce9,cf0,lw4⟩:=blk4_ ex)|(go_at_call 83;(refine(Gp.calls kj2 _ _ ab _ _ aa an false _ (uC_ bg) bs.out (uC_ bd) bv.out A47.out).mono ?_);rintro e w67 ⟨rfl,hb⟩;replace fg:=bb_ fg hb;replace ex:=bb_ ex hb;replace en:=bb_ en hb;replace HB:=hs_ (ka) hb))
  go_meet
  case rel=>exact⟨_,(false),(g3_),H',⟨g112_⟩,⟨uB_ fg⟩,⟨uB_ ex⟩,⟨uB_ en⟩,⟨ka⟩⟩
 clear gw1
 obtain⟨kq,fj6,rfl,HA,HJ42,fg,ex,en,HB⟩:=hcut
 cases kq with
 | zero=>exact absurd HA.out (by simp[Fo.j1])
 | succ kj42=>?_
 have H:=HA.out
 clear HA
 simp only[Fo.j1] at H
 by_cases c77:fj6=true
 case neg=>
  replace c77:=Bool.eq_false_iff.mpr c77
  subst c77
  replace H:=ifn_ H
  by_cases ai5:(aq == 2 && (am == 0 && (an == 0 && (ao == 0))))=true
  ·rw[if_pos ai5] at H
   have ly0:(aq == 2 && (am == 0 && (an == 0 && (ao == 0))))=true:=ai5
   (try(have ly1:decide (aq=2 && (am == 0 && (an == 0 && (ao == 0))))=true:=by simpa using ai5))
   (try(have ly2:(aq == 2 && (am == 0 && (an == 0 && (ao == 0))))=true:=by simpa using ai5))
   clear ai5
   replace H:=Option.bind_eq_some_iff.mp H
   obtain⟨⟨ej4,fk2⟩,jg2,H⟩:=H
   try dsimp only at H
   have ly3:=A_ jg2
   clear jg2
   simp only[Option.some.injEq,Prod.mk.injEq] at H
   obtain⟨rfl,rfl,rfl⟩:=H
   have on2:=as9.out
   have on3:=as8.out
   have gn9:=ac1.out
   have go0:=ac2.out
   obtain⟨on4,on5,on6,on7,on8,on9,oo0,oo1⟩:=blk4_ ex
   have ly4:=an0.out
   have ly5:=an1.out
   obtain⟨gq5,gq6,gq7,gq8⟩:=blk2_ fg
   go_wp2_with (first|((with_reducible refine gc_ 92 ?_);refine gl_ 78 Try.func92 #[.agg #[.slice ae ab.length ac, .slice ag aa.length af]] ?_;(refine(Ft.calls kj42 _ _ ab _ _ aa ej4 fk2 _ (uC_ bg) bs.out (uC_ bd) bv.out ly3.out).mono ?_);rintro e iw4 ⟨oo2,oo3,rfl,ah,ak,hb⟩;refine⟨_,rfl,?_⟩;have jg3:=A_ (Kd.R_lower ah (G9 (ka)));have jg4:=A_ (Kd.S_lower ak (G9 (ka)));replace fg:=bb_ fg hb;replace ex:=bb_ ex hb;replace en:=bb_ en hb;replace HB:=hs_ (ka) hb;obtain⟨fk3,fk4,ly6⟩:=Kd.R_slice jg3.out;subst ly6;obtain⟨ky7,ky8,ky9,kz0⟩:=blk2_ en;obtain⟨pg,ph,go6⟩:=Kd.S_slice jg4.out;subst go6))
   refine bodyPost_ret (Jt rfl _ _ jt 25 #[.slice fk3 ej4.length fk4, .slice pg fk2.length ph] (0,0) _ rfl (ba_ en) Try.underlying25 rfl (g1_)) rfl ?_
   exact⟨_,_,g4_,ra_ jg3,sa_ jg4,ka⟩
  rw[if_neg ai5] at H
  have ly0:(aq == 2 && (am == 0 && (an == 0 && (ao == 0))))=false:=by simpa using ai5
  (try(have ly1:decide (aq=2 && (am == 0 && (an == 0 && (ao == 0))))=false:=by simpa using ai5))
  (try(have ly2:(aq == 2 && (am == 0 && (an == 0 && (ao == 0))))=false:=by simpa using ai5))
  (try(have oo4:¬ (aq=2 && (am == 0 && (an == 0 && (ao == 0)))):=by simpa using ai5))
  clear ai5
  by_cases ai6:(aq == 3 && (am == 0 && (an == 0 && (ao == 0))))=true
  ·rw[if_pos ai6] at H
   have ly7:(aq == 3 && (am == 0 && (an == 0 && (ao == 0))))=true:=ai6
   (try(have ly8:decide (aq=3 && (am == 0 && (an == 0 && (ao == 0))))=true:=by simpa using ai6))
   (try(have ly9:(aq == 3 && (am == 0 && (an == 0 && (ao == 0))))=true:=by simpa using ai6))
   clear ai6
   replace H:=Option.bind_eq_some_iff.mp H
   obtain⟨⟨cu0,dj0,lz0⟩,jg5,H⟩:=H
   try dsimp only at H
   have lz1:=A_ jg5
   clear jg5
   simp only[Option.some.injEq,Prod.mk.injEq] at H
   obtain⟨rfl,rfl,rfl⟩:=H
   have lz2:=as9.out
   have lz3:=as8.out
   have ix5:=ac1.out
   have ix6:=ac2.out
   obtain⟨lg5,lg6,lg7,oo5,lg8,lg9,lh0,oo6⟩:=blk4_ ex
   have lz4:=an0.out
   have lz5:=an1.out
   obtain⟨oo7,oo8,oo9,op0⟩:=blk2_ fg
   go_wp2_with (first|((with_reducible refine gc_ 99 ?_);refine gl_ 85 Try.func99 #[.agg #[.slice ae ab.length ac, .slice ag aa.length af]] ?_;(refine(Fe.calls kj42 _ _ ab _ _ aa cu0 dj0 lz0 _ (uC_ bg) bs.out (uC_ bd) bv.out lz1.out).mono ?_);rintro e op1 ⟨op2,op3,rfl,ah,ak,hb⟩;refine⟨_,rfl,?_⟩;have fk5:=A_ (Kd.R_lower ah (G9 (ka)));have fk6:=A_ (Kd.S_lower ak (G9 (ka)));replace fg:=bb_ fg hb;replace ex:=bb_ ex hb;replace en:=bb_ en hb;replace HB:=hs_ (ka) hb)|((with_reducible refine gd_ 8 ?_);refine bx_ (N:=8) #[.slice none 0 0, .slice none 0 0] 25 ?_;intro at1 hg lz6 hbox hb;replace fk5:=rb_ fk5 hb;replace fk6:=sb_ fk6 hb;have gw7:=A_ (hbox);have op4:=A_ ((g27_:w.heap.size<=at1));have lt2:=op4;replace HB:=hs_ (ka) hb;have lz7:=nl_ fg hg;have lz8:=nr_ fg hg;replace fg:=bb_ fg hb;have lz9:=nl_ ex hg;have ma0:=nr_ ex hg;replace ex:=bb_ ex hb;have gw8:=nl_ en hg;have ma1:=nr_ en hg;replace en:=bb_ en hb;clear hb hbox hg;obtain⟨bi8,bi9,gw9⟩:=Kd.R_slice fk5.out;subst gw9;have gp0:=lz8.out;have gp1:=lz7.out;have jg6:=ma0.out;have jg7:=lz9.out;have ip1:=ma1.out;have ip2:=gw8.out;obtain⟨jg8,jg9,jh0,jh1⟩:=blk2_ gw7;obtain⟨cu1,cu2,gx0⟩:=Kd.S_slice fk6.out;subst gx0;obtain⟨ma2,ma3,ma4,ma5⟩:=blk2_ en))
   refine bodyPost_ret (Jt rfl _ _ jt 25 #[.slice bi8 cu0.length bi9, .slice cu1 dj0.length cu2] (0,0) _ rfl (ba_ en) Try.underlying25 rfl (g1_)) rfl ?_
   exact⟨_,_,g4_,ra_ fk5,sa_ fk6,ka⟩
  rw[if_neg ai6] at H
  have ly7:(aq == 3 && (am == 0 && (an == 0 && (ao == 0))))=false:=by simpa using ai6
  (try(have ly8:decide (aq=3 && (am == 0 && (an == 0 && (ao == 0))))=false:=by simpa using ai6))
  (try(have ly9:(aq == 3 && (am == 0 && (an == 0 && (ao == 0))))=false:=by simpa using ai6))
  (try(have op5:¬ (aq=3 && (am == 0 && (an == 0 && (ao == 0)))):=by simpa using ai6))
  clear ai6
  simp only[Option.some.injEq,Prod.mk.injEq] at H
  obtain⟨rfl,rfl,rfl⟩:=H
  have ma6:=as9.out
  have ma7:=as8.out
  have ip3:=ac1.out
  have ip4:=ac2.out
  obtain⟨la4,la5,op6,op7,la6,la7,op8,op9⟩:=blk4_ ex
  have ma8:=an1.out
  have ma9:=an0.out
  obtain⟨mb0,mb1,mb2,mb3⟩:=blk2_ en
  go_wp2
  refine bodyPost_ret (Jt rfl _ _ jt 25 #[.slice none 0 0, .slice none 0 0] (0,0) _ rfl (ba_ en) Try.underlying25 rfl (g1_)) rfl ?_
  exact⟨_,_,g4_,g25_,g38_,ka⟩
 subst c77
 replace H:=ifp_ H
 replace H:=Option.bind_eq_some_iff.mp H
 obtain⟨⟨mj,mb⟩,jf6,H⟩:=H
 try dsimp only at H
 have A78:=A_ jf6
 clear jf6
 obtain⟨oj8,H⟩:=pd_ H
 obtain⟨oj9,H⟩:=pd_ H
 obtain⟨ok0,H⟩:=pd_ H
 obtain⟨ok1,H⟩:=pd_ H
 obtain⟨gw4,hyq⟩:∃y_:List Int,y_=((Jm mb am).set (an:Int).toNat ao):=⟨_,rfl⟩
 replace H:((some (mb.set (am:Int).toNat gw4:List (List Int))).bind fun am9=>((Fi.f kj42 mj am9).bind fun ct6=>(some (mj,am9,ct6))))=some (r1,r2,r3):=qh_
 have lw9:=A_ hyq
 clear hyq
 obtain⟨am9,hyq⟩:∃y_:List (List Int),y_=(mb.set (am:Int).toNat gw4):=⟨_,rfl⟩
 replace H:((Fi.f kj42 mj am9).bind fun ct6=>(some (mj,am9,ct6)))=some (r1,r2,r3):=qh_
 have lx0:=A_ hyq
 clear hyq
 obtain⟨ct6,A84,H⟩:=bind_ H
 simp only[Option.some.injEq,Prod.mk.injEq] at H
 obtain⟨rfl,rfl,rfl⟩:=H
 have ok2:=as8.out
 have ok3:=as9.out
 have lf4:=an0.out
 have lf5:=an1.out
 obtain⟨lf6,lf7,lf8,lf9⟩:=blk2_ fg
 try go_wp2_with (first|((with_reducible refine gc_ 111 ?_);refine gl_ 58 Try.func111 #[.agg #[.slice ae ab.length ac, .slice ag aa.length af]] ?_;(refine(Fn.calls kj42 _ _ ab _ _ aa mj mb _ (uC_ bg) bs.out (uC_ bd) bv.out A78.out).mono ?_);rintro e w88 ⟨ok4,ok5,rfl,ah,ak,hb⟩;refine⟨_,rfl,?_⟩;have tr:=A_ (Kd.R_lower ah (G9 (ka)));have o8:=A_ (Kd.S_lower ak (G9 (ka)));replace fg:=bb_ fg hb;replace ex:=bb_ ex hb;replace en:=bb_ en hb;replace HB:=hs_ (ka) hb)|((with_reducible refine gd_ 7 ?_);refine bx_ (N:=7) #[.slice none 0 0, .slice none 0 0] 25 ?_;intro l4 hg w89 hbox hb;replace tr:=rb_ tr hb;replace o8:=sb_ o8 hb;have qr:=A_ (hbox);have ok6:=A_ ((g27_:w.heap.size<=l4));have lt1:=ok6;replace HB:=hs_ (ka) hb;have gw5:=nl_ fg hg;have lx1:=nr_ fg hg;replace fg:=bb_ fg hb;have gw6:=nl_ ex hg;have lx2:=nr_ ex hg;replace ex:=bb_ ex hb;have ej3:=nl_ en hg;have ct8:=nr_ en hg;replace en:=bb_ en hb;clear hb hbox hg;obtain⟨ou,ov,ct9⟩:=Kd.R_slice tr.out;subst ct9;have lx3:=lx1.out;have lx4:=gw5.out;have ok7:=lx2.out;have ok8:=gw6.out;have iv0:=ct8.out;have iv1:=ej3.out;obtain⟨ok9,ol0,ol1,ol2⟩:=blk2_ qr;obtain⟨at0,ts,lx5⟩:=Kd.S_slice o8.out;subst lx5))
 generalize hw_:((w89.setCell ⟨l4,0,none⟩ (.slice ou mj.length ov)).setCell ⟨l4,1,none⟩ (.slice at0 mb.length ts))=w96
 have n0_:G7 (Kd.R (Kd.int .i64) 3 w96 w.heap.size (fun _=>True) (.slice ou mj.length ov) mj):=A_ (by rw[<- hw_];exact ra_ tr)
 have n1_:G7 (Kd.S (Kd.slice 3 (Kd.int .i64)) 22 w96 w.heap.size (fun k_=>some k_≠(.slice ou mj.length ov:Value).ownBlock) (.slice at0 mb.length ts) mb):=A_ (by rw[<- hw_];exact sa_ o8)
 have n2_:G7 (hc_ w96 ut #[.slice ae ab.length ac, .slice ag aa.length af] 25):=A_ (by rw[<- hw_];exact ba_ fg)
 have n3_:G7 (hc_ w96 rc #[.int .i64 aq, .int .i64 am, .int .i64 an, .int .i64 ao] 69):=A_ (by rw[<- hw_];exact ba_ ex)
 have n4_:G7 (hc_ w96 jt #[.slice none 0 0, .slice none 0 0] 25):=A_ (by rw[<- hw_];exact ba_ en)
 have n5_:G7 (hc_ w96 l4 #[.slice ou mj.length ov, .slice at0 mb.length ts] 25):=A_ (by rw[<- hw_];exact ba_ qr)
 have n6_:G7 (Below w.heap.size w w96):=A_ (by rw[<- hw_];exact ka)
 clear hw_
 have tr:=n0_
 have o8:=n1_
 have fg:=n2_
 have ex:=n3_
 have en:=n4_
 have qr:=n5_
 have HB:=n6_
 clear n0_ n1_ n2_ n3_ n4_ n5_ n6_
 replace tr:=rd_ tr
 replace o8:=sd_ o8
 replace fg:=bd_ fg
 replace ex:=bd_ ex
 replace en:=bd_ en
 replace qr:=bd_ qr
 replace HB:=A_ (Jd HB.out)
 have fj9:0<=(am:Int):=od_
 have fk0:am < (mb.length:Int):=od_
 obtain⟨br6,ol3,lx6,lx7,fk1,jf7,jf8⟩:=at_L1 (Kd.S_reads' o8.out).2.2 am fj9 fk0
 cases lx7
 obtain⟨ce506,hce506,hMe506,hcc506⟩:=Kd.S_get o8.out [] am fj9 (by first|exact fk0|exact od_|(have e_:=(Kd.S_reads' o8.out).1;omega))
 obtain⟨ve506_0,rfl,ge506_0⟩:=hMe506
 have hv506_0:=hcc506 0 _ rfl
 rw[Nat.add_zero,show((Kd.slice 3 (Kd.int .i64))).sz=1 from rfl,Nat.mul_one] at hv506_0
 replace hv506_0:=Option.some.inj (hv506_0.symm.trans fk1)
 rw[hv506_0] at ge506_0
 have cf1:=A_ (show Kd.R (Kd.int .i64) 3 _ _ _ _ (Jm mb am) from ge506_0)
 clear hv506_0 ge506_0
 have HX506_0:=A_ fk1
 clear hcc506 hce506
 have lx8:=A_ jf8
 have ol4:=A_ jf7
 clear jf8 jf7
 replace fj9:=eq_true fj9
 replace fk0:=eq_true fk0
 have p83:0<=(an:Int):=od_
 have q83:(an:Int) < (((Jm mb am).length:Int):Int):=od_
 obtain⟨bi7,ol5,jf9,jg0,gl83,cl83,HG83⟩:=Kd.R_form cf1.out (by omega)
 (first|cases jf9|(injection jf9 with ea_ en_ ec_;(first|subst ea_|(injection ea_ with ea_;subst ea_));subst ec_;clear en_))
 have GB83:=A_ jg0
 have GG83:=A_ HG83
 clear jg0 gl83 HG83
 obtain⟨lx9,hf83_0⟩:=Kd.R_celln 0 cf1.out (an:Int) p83 q83
 replace p83:=eq_true p83
 replace q83:=eq_true q83
 have hq98:(am:Int) < (mb.length:Int):=(by have h_:(am:Int) < ((mb.length:Int):Int):=od_;first|exact h_|(have e_:=(Kd.S_reads' o8.out).1;omega)|simpa only[List.length_set,List.length_set] using h_)
 obtain⟨oki98,ce98,hcl98,hM98,hcc98,hok98,hbk98⟩:=Kd.S_borrow o8.out [] (am:Int) (od_) (by first|exact hq98|exact od_|(have e_:=(Kd.S_reads' o8.out).1;omega))
 obtain⟨ve98_0,rfl,ge98_0⟩:=hM98
 have hv98:=hcc98 0 _ rfl
 rw[Nat.add_zero,show((Kd.slice 3 (Kd.int .i64))).sz=1 from rfl,Nat.mul_one] at hv98
 replace hv98:=Option.some.inj (hv98.symm.trans HX506_0.out)
 subst hv98
 clear hcc98 hcl98
 replace ge98_0:=(show Kd.R (Kd.int .i64) 3 _ _ _ _ (Jm mb am) from ge98_0)
 have HP98:=Kd.R_putg ge98_0 (an:Int) ao
 rw[<- lw9.out] at HP98
 have HS98:=hbk98 HP98.2 (fun k_ e_=>by injection e_ with e_;subst e_;exact ge98_0.1 _ rfl) (x':=gw4) (Kd.M_row HP98.1)
 rw[<- lx0.out] at HS98
 have HQ98:=A_ HS98
 clear HP98 HS98 hbk98 hok98
 refine start_ (n:=12) (S:=fun w'=>w'.cell? ⟨l4,0,none⟩=some (.slice ou mj.length ov)/\w'.cell? ⟨l4,1,none⟩=some (.slice (some br6) mb.length ts)/\w'.cell? ⟨rc,0,none⟩=some (.int .i64 aq)/\w'.cell? ⟨rc,1,none⟩=some (.int .i64 am)/\w'.cell? ⟨rc,2,none⟩=some (.int .i64 an)/\w'.cell? ⟨rc,3,none⟩=some (.int .i64 ao)/\w'.cell? (br6.add (am).toNat)=some (.slice (some ⟨bi7,0,none⟩) (Jm mb am).length lx6)) (ds:=[11]) (tl_ 12 0) (g1_) rfl (g1_) ⟨(G8 qr.out 0).trans rfl,(G8 qr.out 1).trans rfl,(G8 ex.out 0).trans rfl,(G8 ex.out 1).trans rfl,(G8 ex.out 2).trans rfl,(G8 ex.out 3).trans rfl,fk1⟩ (fun hHeld=>?_);refine Js Fo.tab6 Fo.bits6 (fun HT_ HW_=>?_)
 generalize w96.drew=w97 at tr o8 fg ex en qr HB GG83 cf1 HQ98 lx8 HX506_0 hf83_0 fk1 lx9 hHeld |-
 refine pw_ 0 59 (tl_ 12 1) ?_
 refine pw_ 2 61 (tl_ 12 5) ?_
 refine pw_ 6 65 (tl_ 12 69) ?_
 refine pw_ 8 67 (tl_ 12 325) ?_
 refine tk3_ 1 60 (tl_ 12 327) hHeld ?_
 refine tk3_ 3 62 (tl_ 12 335) hHeld ?_
 refine pw_ 4 63 (tl_ 12 351) ?_
 refine tk3_ 5 64 (tl_ 12 383) hHeld ?_
 refine tk3_ 7 66 (tl_ 12 511) hHeld ?_
 refine tk3_ 9 68 (tl_ 12 1023) hHeld ?_
 refine pw_ 10 69 (tl_ 12 2047) ?_
 refine last_ (i:=11) (N:=none) (tl_ 12 4095) rfl rfl (Ju HT_.out (g1_)) (by decide) (fun K hK=>?_)
 refine skip_ (w1:=?_) (by rfl) rfl ?_ ?_
 rotate_left
 ·go_simp
  rfl
 refine hK.out _ _ ?_
 clear hK K
 refine done_ (done_of HT_.out (g1_)) ?_
 have n0_:G7 (Kd.R (Kd.int .i64) 3 (w97.setCell ⟨bi7,(an:Int).toNat,none⟩ (.int .i64 ao)) w.heap.size (fun _=>True) (.slice ou mj.length ov) mj):=⟨by(with_reducible repeat(first|apply Kd.R_alloc|apply Kd.R_drewN|apply Kd.R_drew));exact Kd.R_mono (Kd.R_far (p:=⟨bi7,(an:Int).toNat,none⟩) (Kd.R_far1 tr.out rfl ((cf1.out.1 _ rfl).1)) (fun _ hk=>hk.2) (.int .i64 ao)) (fun _ hk=>trivial)⟩
 have n1_:G7 (Kd.S (Kd.slice 3 (Kd.int .i64)) 22 (w97.setCell ⟨bi7,(an:Int).toNat,none⟩ (.int .i64 ao)) w.heap.size (fun k_=>some k_≠(.slice ou mj.length ov:Value).ownBlock) (.slice (some br6) mb.length ts) am9):=⟨uS_ HQ98⟩
 have n2_:G7 ((w97.setCell ⟨bi7,(an:Int).toNat,none⟩ (.int .i64 ao)).heap[ut]? = some (.cells #[.slice ae ab.length ac, .slice ag aa.length af] 25 (0,0))):=⟨by(with_reducible repeat(first|refine Jh ?_ _|refine Ji ?_|refine Jg ?_ _));refine Jp ?_ (by have h_:=Kd.R_ne cf1.out fg.out (by decide);intro e_;exact h_ (g6_)) _;exact uB_ fg⟩
 have n3_:G7 ((w97.setCell ⟨bi7,(an:Int).toNat,none⟩ (.int .i64 ao)).heap[rc]? = some (.cells #[.int .i64 aq, .int .i64 am, .int .i64 an, .int .i64 ao] 69 (0,0))):=⟨by(with_reducible repeat(first|refine Jh ?_ _|refine Ji ?_|refine Jg ?_ _));refine Jp ?_ (by have h_:=Kd.R_ne cf1.out ex.out (by decide);intro e_;exact h_ (g6_)) _;exact uB_ ex⟩
 have n4_:G7 ((w97.setCell ⟨bi7,(an:Int).toNat,none⟩ (.int .i64 ao)).heap[jt]? = some (.cells #[.slice none 0 0, .slice none 0 0] 25 (0,0))):=⟨by(with_reducible repeat(first|refine Jh ?_ _|refine Ji ?_|refine Jg ?_ _));refine Jp ?_ (by have h_:=Kd.R_ne cf1.out en.out (by decide);intro e_;exact h_ (g6_)) _;exact uB_ en⟩
 have n5_:G7 ((w97.setCell ⟨bi7,(an:Int).toNat,none⟩ (.int .i64 ao)).heap[l4]? = some (.cells #[.slice ou mj.length ov, .slice (some br6) mb.length ts] 25 (0,0))):=⟨by(with_reducible repeat(first|refine Jh ?_ _|refine Ji ?_|refine Jg ?_ _));refine Jp ?_ (by have h_:=Kd.R_ne cf1.out qr.out (by decide);intro e_;exact h_ (g6_)) _;exact uB_ qr⟩
 have n6_:G7 (Below w.heap.size w (w97.setCell ⟨bi7,(an:Int).toNat,none⟩ (.int .i64 ao))):=⟨ka⟩
 generalize (w97.setCell ⟨bi7,(an:Int).toNat,none⟩ (.int .i64 ao))=gp8 at n0_ n1_ n2_ n3_ n4_ n5_ n6_ |-
 have tr:=n0_
 have o8:=n1_
 have fg:=n2_
 have ex:=n3_
 have en:=n4_
 have qr:=n5_
 have HB:=n6_
 clear n0_ n1_ n2_ n3_ n4_ n5_ n6_
 try go_wp2
 replace tr:=rd_ tr
 replace o8:=sd_ o8
 replace fg:=bd_ fg
 replace ex:=bd_ ex
 replace en:=bd_ en
 replace qr:=bd_ qr
 replace HB:=A_ (Jd HB.out)
 refine start_ (n:=5) (S:=fun w'=>w'.cell? ⟨l4,0,none⟩=some (.slice ou mj.length ov)/\w'.cell? ⟨l4,1,none⟩=some (.slice (some br6) mb.length ts)) (ds:=[]) (tl_ 5 0) (g1_) rfl (g1_) ⟨(G8 qr.out 0).trans rfl,(G8 qr.out 1).trans rfl⟩ (fun hHeld=>?_)
 generalize gp8.drew=lg0 at tr o8 fg ex en qr HB hHeld |-
 refine take_ (i:=0) (N:=some 70) (v:=?_) (a':=?_) (tl_ 5 1) rfl rfl (g1_) (fun _ _ _ h=>h) (Or.inl ⟨by rfl,?_⟩) hHeld ?_ ?_
 rotate_left
 ·rintro w' ⟨s0,s1⟩
  go_simp
  with_reducible rfl
 rotate_left
 · exact sp_
 refine take_ (i:=1) (N:=some 71) (v:=?_) (a':=?_) (tl_ 5 3) rfl rfl (g1_) (fun _ _ _ h=>h) (Or.inl ⟨by rfl,?_⟩) hHeld ?_ ?_
 rotate_left
 ·rintro w' ⟨s0,s1⟩
  go_simp
  with_reducible rfl
 rotate_left
 · exact sp_
 refine one_ (i:=2) (N:=some 72) (tl_ 5 7) rfl rfl (g1_) (by decide) (fun K hK=>?_)
 refine goes_ Try.func73 (g1_) rfl #[.agg #[.slice ou mj.length ov, .slice (some br6) am9.length ts]] (by rfl) rfl rfl (by(try simp only[List.map_toArray,List.map_cons,List.map_nil]);first|done|(rw[show am9.length=mb.length from(Kd.S_reads' o8.out).1.symm] <;> rfl)|rfl|(simp only[List.length_drop,List.length_take];rfl)) ?_
 with_reducible refine(Fi.calls kj42 _ _ mj _ _ am9 ct6 _ ?side1 ?side2 ?side3 ?side4 A84.out).mono ?_
 (case side1=>exact cR_ tr)
 (case side2=>exact lR_ tr)
 (case side3=>exact cS_ o8)
 (case side4=>rw[show am9.length=mb.length from(Kd.S_reads' o8.out).1.symm];exact(Kd.S_reads' o8.out).2.1)
 rintro e jg1 ⟨rfl,hb⟩
 refine⟨_,rfl,?_⟩
 replace tr:=rb_ tr hb
 replace o8:=sb_ o8 hb
 replace fg:=bb_ fg hb
 replace ex:=bb_ ex hb
 replace en:=bb_ en hb
 replace qr:=bb_ qr hb
 replace HB:=hs_ (ka) hb
 refine hK.out _ _ ⟨(G8 qr.out 0).trans rfl,(G8 qr.out 1).trans rfl⟩ (fun hHeld=>?_)
 clear hK K
 refine nm_ ?_
 refine one_ (i:=3) (N:=none) (tl_ 5 15) rfl rfl (g1_) (by decide) (fun K hK=>?_)
 have ol6:jg1.cell? ⟨jt,0,none⟩=some (.slice none 0 0):=(G8 en.out 0).trans rfl
 have ol7:=Jj en.out 0
 have ol9:=ac1.out
 have om0:=ct8.out
 have om2:=ac2.out
 have om3:=ej3.out
 have om4:jg1.cell? ⟨jt,1,none⟩=some (.slice none 0 0):=(G8 en.out 1).trans rfl
 have om5:=Jj en.out 1
 refine skip_ (w1:=?_) (by rfl) rfl ?_ ?_
 rotate_left
 ·go_simp
  rfl
 refine hK.out _ _ ⟨(cf_ ct8 ((cf_ ct8 (hHeld.1)))),(cf_ ct8 ((cf_ ct8 (hHeld.2))))⟩ (fun hHeld=>?_)
 clear hK K
 refine pure_ (i:=4) (N:=some 5) (v:=?_) (a':=?_) (tl_ 5 31) rfl rfl (g1_) (fun _ _ _ h=>h) (Or.inl ⟨by rfl,?_⟩) ?_ ?_
 rotate_left
 ·intro w'
  go_simp
  with_reducible rfl
 rotate_left
 · exact sp_
 refine done_ (g1_) ?_
 try go_wp2
 refine bodyPost_ret (Jt rfl _ _ jt 25 #[.slice ou mj.length ov, .slice (some br6) mb.length ts] (0,0) _ rfl (ba_ en) Try.underlying25 rfl (g1_)) rfl ?_
 exact⟨_,_,g4_,ra_ tr,sa_ o8,ka⟩
def Fs.l0:Nat->List Int->List Int->Int->Int->Option (Bool)
 | 0,_,_,_,_=>none
 | k + 1,x0,x1,vx,k7=>if k7 < vx then(if 0<=k7 then(if k7 < (x0.length:Int) then(if k7 < (x1.length:Int) then(if (rd x0 k7)=(rd x1 k7) then(Fs.l0 k x0 x1 vx (wrap64 (k7 + 1))) else(some false)) else(none)) else(none)) else(none)) else(some true)
def Fs.f (k:Nat) (l0:List Int) (l1:List Int):Option (Bool):=if (l0.length:Int)=(l1.length:Int) then(Fs.l0 k l0 l1 (l0.length:Int) 0) else(some false)
set_option maxHeartbeats 8000000 in
set_option maxRecDepth 100000 in
theorem Fs.calls (k:Nat) (A0:Option Addr) (c0:Nat) (l0:List Int) (A1:Option Addr) (c1:Nat) (l1:List Int) (r:Bool) (w:World) (e8:Kd.C (Kd.int .i64) w A0 l0.length l0) (d4:l0.length<=c0) (il:Kd.C (Kd.int .i64) w A1 l1.length l1) (iu:l1.length<=c1) (h:Fs.f k l0 l1=some r) :
  Calls Try.prog 131 #[.slice A0 l0.length c0, .slice A1 l1.length c1] w fun e w'=>e = .returned (.bool r)/\Drawn0 w w':=by
 have fo:=A_ e8
 have oh:=A_ d4
 clear e8 d4
 have fq:=A_ il
 have pb:=A_ iu
 clear il iu
 have H:=h
 unfold Fs.f at H
 clear h
 by_cases c3:(l0.length:Int)=(l1.length:Int)
 case neg=>
  rw[if_neg c3] at H
  have gm:((l0.length:Int) == (l1.length:Int))=false:=beq_eq_false_iff_ne.mpr c3
  have ns:((l0.length:Int) != (l1.length:Int))=true:=bne_iff_ne.mpr c3
  have ua:(l0.length == l1.length)=false:=by first|simpa using c3|(simp at c3 |-;omega)
  obtain rfl:=Option.some.inj H
  go_enter Try.func131,Try.ntmps131
  go_wp2
  repeat(go_quiet (fail);try go_wp2)
  go_ret
  exact⟨g3_,g5_⟩
 rw[if_pos c3] at H
 have gm:((l0.length:Int) == (l1.length:Int))=true:=beq_iff_eq.mpr c3
 have ns:((l0.length:Int) != (l1.length:Int))=false:=bne_eq_false_iff_eq.mpr c3
 have ua:(l0.length == l1.length)=true:=by first|simpa using c3|(simp at c3 |-;omega)
 clear c3
 have H':=A_ H
 clear H
 go_enter Try.func131,Try.ntmps131
 go_wp2
 repeat(go_quiet (fail);try go_wp2)
 go_loopg [13] k (fun kq v13 w'=>∃(bz:Int),v13 = .int .i64 bz/\G7 (Fs.l0 kq l0 l1 (l0.length:Int) bz=some r)/\G7 (kq<=k)/\Drawn0 w w')
 case atStart=>exact⟨(0),(g3_),H',⟨Nat.le_refl _⟩,g5_⟩
 clear H'
 obtain⟨bz,rfl,HA,HK1,⟨m1,rfl⟩⟩:=hrel
 cases gk with
 | zero=>exact absurd HA.out (by simp[Fs.l0])
 | succ k1=>?_
 have H:=HA.out
 clear HA
 simp only[Fs.l0] at H
 by_cases c4:bz < (l0.length:Int)
 case neg=>
  rw[if_neg c4] at H
  have ib:=decide_eq_false c4
  clear c4
  obtain rfl:=Option.some.inj H
  go_wp2
  repeat(go_quiet (fail);try go_wp2)
  go_ret
  exact⟨g3_,g5_⟩
 rw[if_pos c4] at H
 have ib:=decide_eq_true c4
 clear c4
 obtain⟨ki,H⟩:=pd_ H
 obtain⟨kb,H⟩:=pd_ H
 obtain⟨pw,H⟩:=pd_ H
 by_cases c8:(rd l0 bz)=(rd l1 bz)
 ·rw[if_pos c8] at H
  have wx:((rd l0 bz) == (rd l1 bz))=true:=beq_iff_eq.mpr c8
  have cc6:((rd l0 bz) != (rd l1 bz))=false:=bne_eq_false_iff_eq.mpr c8
  clear c8
  have H':=A_ H
  clear H
  obtain⟨⟨mb4,gx1,mb5⟩,cu3,cu4⟩:=rdp_ (Kd.at_int fo.out bz)
  cases gx1
  obtain⟨⟨mb6,gx2,mb7⟩,cu5,cu6⟩:=rdp_ (Kd.at_int fq.out bz)
  cases gx2
  go_wp2
  repeat(go_quiet (fail);try go_wp2)
  go_roundg k1
  case measure=>have:=HK1.out;omega
  case rel=>exact⟨(wrap64 (bz + 1)),(g3_),H',⟨g8_⟩,g5_⟩
 rw[if_neg c8] at H
 have wx:((rd l0 bz) == (rd l1 bz))=false:=beq_eq_false_iff_ne.mpr c8
 have cc6:((rd l0 bz) != (rd l1 bz))=true:=bne_iff_ne.mpr c8
 obtain rfl:=Option.some.inj H
 obtain⟨⟨mb4,gx1,mb5⟩,cu3,cu4⟩:=rdp_ (Kd.at_int fo.out bz)
 cases gx1
 obtain⟨⟨mb6,gx2,mb7⟩,cu5,cu6⟩:=rdp_ (Kd.at_int fq.out bz)
 cases gx2
 go_wp2
 repeat(go_quiet (fail);try go_wp2)
 go_ret
 exact⟨g3_,g5_⟩
def F8.el (k:Nat):List (List Int)->List (List Int)->Option Bool
 | x :: r,y :: s=>(Fs.f k x y).bind fun t=>if t=true then F8.el k r s else some false
 | _,_=>some true
def F8.f (k:Nat) (l0:List (List Int)) (l1:List (List Int)):Option (Bool):=if (l0.length:Int)=(l1.length:Int) then F8.el k l0 l1 else some false
theorem F8.at {w:World} {A:Option Addr} {n:Nat} {xs:List (List Int)} (h:Kd.C (Kd.slice 3 (Kd.int .i64)) w A n xs) (j:Nat) (hj:j < n) :
  ∃ad A0 c0,A=some ad/\w.cell? (ad.add j)=some (.slice A0 (xs.getD j []).length c0)/\(xs.getD j []).length<=c0/\(Kd.int .i64).C w A0 (xs.getD j []).length (xs.getD j []):=by
 obtain⟨ad,c,rfl,hcl,⟨A0,c0,rfl,hl,hC⟩,hcc⟩:=Kd.C_get h [] (j:Int) (by omega) (by omega)
 refine⟨ad,A0,c0,rfl,?_,hl,hC⟩
 have:=hcc 0 _ rfl
 have hs:(Kd.slice 3 (Kd.int .i64)).sz=1:=rfl
 rw[hs] at this
 simpa using this
set_option maxHeartbeats 4000000 in
set_option maxRecDepth 100000 in
theorem F8.calls (k:Nat) (A0:Option Addr) (c0:Nat) (l0:List (List Int)) (A1:Option Addr) (c1:Nat) (l1:List (List Int)) (r:Bool) (w:World) (e8:Kd.C (Kd.slice 3 (Kd.int .i64)) w A0 l0.length l0) (d4:l0.length<=c0) (il:Kd.C (Kd.slice 3 (Kd.int .i64)) w A1 l1.length l1) (iu:l1.length<=c1) (h:F8.f k l0 l1=some r) :
  Calls Try.prog 132 #[.slice A0 l0.length c0, .slice A1 l1.length c1, .func (.func 131) #[] #[]] w fun e w'=>e = .returned (.bool r)/\Drawn0 w w':=by
 have hn:l0.length<=9223372036854775807:=e8.2.1
 have fo:=A_ e8
 have fq:=A_ il
 clear e8 il
 unfold F8.f at h
 by_cases hl:(l0.length:Int)=(l1.length:Int)
 case neg=>
  rw[if_neg hl] at h
  obtain rfl:=Option.some.inj h
  have gm:((l0.length:Int) == (l1.length:Int))=false:=beq_eq_false_iff_ne.mpr hl
  have ns:((l0.length:Int) != (l1.length:Int))=true:=bne_iff_ne.mpr hl
  have ua:(l0.length == l1.length)=false:=by first|simpa using hl|(simp at hl |-;omega)
  clear h hl
  go_enter Try.func132,Try.ntmps132
  go_wp2
  repeat(go_quiet (fail);try go_wp2)
  go_ret
  exact⟨rfl,g5_⟩
 rw[if_pos hl] at h
 have H:=A_ h
 have gm:((l0.length:Int) == (l1.length:Int))=true:=beq_iff_eq.mpr hl
 have ns:((l0.length:Int) != (l1.length:Int))=false:=bne_eq_false_iff_eq.mpr hl
 have ua:(l0.length == l1.length)=true:=by first|simpa using hl|(simp at hl |-;omega)
 have HL:G7 (l1.length=l0.length):=⟨by omega⟩
 clear h hl
 go_enter Try.func132,Try.ntmps132
 go_wp2
 repeat(go_quiet (fail);try go_wp2)
 go_loopg [17] (l0.length) (fun kq v17 w'=>∃j:Nat,kq + j=l0.length/\v17 = .int .i64 j/\G7 (F8.el k (l0.drop j) (l1.drop j)=some r)/\Drawn0 w w')
 case atStart=>exact⟨0,by omega,rfl,⟨H.out⟩,g5_⟩
 clear H
 obtain⟨j,hj,rfl,HA,⟨m1,rfl⟩⟩:=hrel
 by_cases hlt:j < l0.length
 case neg=>
  obtain rfl:j=l0.length:=by omega
  have hr:G7 (true=r):=⟨by
   have:=HA.out
   rw[List.drop_of_length_le (Nat.le_refl _)] at this
   simp only[F8.el] at this
   exact Option.some.inj this⟩
  have ib:decide ((l0.length:Int) < (l0.length:Int))=false:=decide_eq_false (by omega)
  clear HA
  go_wp2
  repeat(go_quiet (fail);try go_wp2)
  go_ret
  exact⟨by rw[<- hr.out];try rfl,g5_⟩
 obtain⟨k1,rfl⟩:∃k1,gk=k1 + 1:=⟨gk - 1,by omega⟩
 have hd0:l0.drop j=l0.getD j [] :: l0.drop (j + 1):=by
  rw[List.drop_eq_getElem_cons hlt];simp[List.getD_eq_getElem?_getD,List.getElem?_eq_getElem hlt]
 have hlt1:j < l1.length:=by rw[HL.out];exact hlt
 have hd1:l1.drop j=l1.getD j [] :: l1.drop (j + 1):=by
  rw[List.drop_eq_getElem_cons hlt1];simp[List.getD_eq_getElem?_getD,List.getElem?_eq_getElem hlt1]
 have HX:=HA.out
 rw[hd0,hd1] at HX
 simp only[F8.el] at HX
 clear HA
 obtain⟨ad0,B0,b0,e0,hx0,hm0,hi0⟩:=F8.at fo.out j hlt
 obtain⟨ad1,B1,b1,e1,hx1,hm1,hi1⟩:=F8.at fq.out j hlt1
 cases e0
 cases e1
 have HI0:=A_ hi0
 have HI1:=A_ hi1
 have p5:(0<=(j:Int))=True:=eq_true (by omega)
 have q5:((j:Int) < (l0.length:Int))=True:=eq_true (by omega)
 have q6:((j:Int) < (l1.length:Int))=True:=eq_true (by have:=HL.out;omega)
 have ib:decide ((j:Int) < (l0.length:Int))=true:=decide_eq_true (by omega)
 clear hi0 hi1 hd0 hd1
 generalize l0.getD j []=x at hx0 hm0 HI0 HX
 generalize l1.getD j []=y at hx1 hm1 HI1 HX
 obtain⟨t,hT,HX⟩:=Option.bind_eq_some_iff.mp HX
 have HT:=A_ hT
 clear hT
 have hx0':w.cell? (ad0.add j)=some (.slice B0 x.length b0):=hx0
 have hx1':w.cell? (ad1.add j)=some (.slice B1 y.length b1):=hx1
 by_cases ht:t=true
 ·subst ht
  rw[if_pos rfl] at HX
  have HX':=A_ HX
  clear HX
  go_wp2_with (go_at_call 131;refine(Fs.calls k _ _ x _ _ y true _ ?s1 ?s2 ?s3 ?s4 HT.out).mono ?_;(case s1=>repeat(first|exact HI0.out|(with_reducible refine Kd.C_drewN ?_ _)|(with_reducible refine Kd.C_drew ?_)));(case s2=>exact hm0);(case s3=>repeat(first|exact HI1.out|(with_reducible refine Kd.C_drewN ?_ _)|(with_reducible refine Kd.C_drew ?_)));(case s4=>exact hm1);rintro e w9 ⟨rfl,⟨nd,rfl⟩⟩)
  go_roundg k1
  case measure=>omega
  case rel=>exact⟨j + 1,by omega,by go_num,HX',g107_⟩
 obtain rfl:t=false:=by simpa using ht
 rw[if_neg (by decide)] at HX
 obtain rfl:=Option.some.inj HX
 clear HX ht
 go_wp2_with (go_at_call 131;refine(Fs.calls k _ _ x _ _ y false _ ?s1 ?s2 ?s3 ?s4 HT.out).mono ?_;(case s1=>repeat(first|exact HI0.out|(with_reducible refine Kd.C_drewN ?_ _)|(with_reducible refine Kd.C_drew ?_)));(case s2=>exact hm0);(case s3=>repeat(first|exact HI1.out|(with_reducible refine Kd.C_drewN ?_ _)|(with_reducible refine Kd.C_drew ?_)));(case s4=>exact hm1);rintro e w9 ⟨rfl,⟨nd,rfl⟩⟩)
 go_ret
 exact⟨rfl,g107_⟩
def G2.f (k:Nat) (ab:List Int) (aa:List (List Int)) (fh:List Int) (fm:List (List Int)):Option (Bool):=(Fs.f k ab fh).bind fun ej5=>(if ej5=true then((F8.f k aa fm).bind fun ej6=>(some ej6)) else(some false))
theorem bw2 {p:Prop} (h:p:=by repeat(first|(with_reducible first|exact HB.out|apply Jf|apply Je|apply Jd|refine Jc ?_ jh2.out|refine Jc ?_ jh3.out)|exact HB.out)):p:=h
set_option maxHeartbeats 8000000 in
set_option maxRecDepth 100000 in
theorem G2.calls (k:Nat) (ae:Option Addr) (ac:Nat) (ab:List Int) (ag:Option Addr) (af:Nat) (aa:List (List Int)) (mr:Option Addr) (mg:Nat) (fh:List Int) (np:Option Addr) (nr:Nat) (fm:List (List Int)) (r:Bool) (w:World) (ca:Kd.C (Kd.int .i64) w ae ab.length ab) (ce:ab.length<=ac) (cb:Kd.C (Kd.slice 3 (Kd.int .i64)) w ag aa.length aa) (cg:aa.length<=af) (av7:Kd.C (Kd.int .i64) w mr fh.length fh) (av8:fh.length<=mg) (av9:Kd.C (Kd.slice 3 (Kd.int .i64)) w np fm.length fm) (aw0:fm.length<=nr) (h:G2.f k ab aa fh fm=some r) :
  Calls Try.prog 124 #[.agg #[.slice ae ab.length ac, .slice ag aa.length af], .agg #[.slice mr fh.length mg, .slice np fm.length nr]] w fun e w'=>e = .returned (.bool r)/\Below w.heap.size w w':=by
 have hu25:=Try.underlying25
 have bg:=A_ ca
 have bs:=A_ ce
 clear ca ce
 have bd:=A_ cb
 have bv:=A_ cg
 clear cb cg
 have aj9:=A_ av7
 have aw1:=A_ av8
 clear av7 av8
 have aw2:=A_ av9
 have bk4:=A_ aw0
 clear av9 aw0
 have HB:=A_ (Below.refl w.heap.size w)
 have H:=h
 unfold G2.f at H
 clear h
 obtain⟨ej5,A3,H⟩:=bind_ H
 by_cases c4:ej5=true
 ·subst c4
  replace H:=ifp_ H
  obtain⟨ej6,A5,H⟩:=bind_ H
  obtain rfl:=Option.some.inj H
  go_enter Try.func124,Try.ntmps124
  go_wp2_with (first|((with_reducible refine gd_ 2 ?_);refine bx_ (N:=2) #[.slice ae ab.length ac, .slice ag aa.length af] 25 ?_;intro an2 hg w6 hbox hb;have bb6:=A_ (hbox);have mb8:=A_ ((g48_:w.heap.size<=an2));have jh2:=mb8;replace HB:=hs_ (bw2) hb;clear hb hbox hg)|((with_reducible refine gd_ 3 ?_);refine bx_ (N:=3) #[.slice mr fh.length mg, .slice np fm.length nr] 25 ?_;intro br7 hg w7 hbox hb;have gx3:=A_ (hbox);have mb9:=A_ ((g48_:w.heap.size<=br7));have jh3:=mb9;replace HB:=hs_ (bw2) hb;have gx4:=nl_ bb6 hg;have gx5:=nr_ bb6 hg;replace bb6:=bb_ bb6 hb;clear hb hbox hg;have da8:=gx4.out;have da9:=gx5.out;obtain⟨af4,af5,af6,af7⟩:=blk2_ bb6;obtain⟨ye,yf,yg,yh⟩:=blk2_ gx3)|((with_reducible refine gc_ 131 ?_);refine gl_ 9 Try.func131 #[.slice ae ab.length ac, .slice mr fh.length mg] ?_;(refine(Fs.calls k _ _ ab _ _ fh true _ (uC_ bg) bs.out (uC_ aj9) aw1.out A3.out).mono ?_);rintro e w' ⟨rfl,⟨nd,rfl⟩⟩;refine⟨_,rfl,?_⟩)|(go_at_call 132;(refine(F8.calls k _ _ aa _ _ fm ej6 _ (cu_ (Kd.C_below bd.out (bw2))) bv.out (cu_ (Kd.C_below aw2.out (bw2))) bk4.out A5.out).mono ?_);rintro e w' ⟨rfl,⟨nd,rfl⟩⟩))
  go_ret
  exact⟨g4_,bw2⟩
 replace c4:=Bool.eq_false_iff.mpr c4
 subst c4
 replace H:=ifn_ H
 obtain rfl:=Option.some.inj H
 go_enter Try.func124,Try.ntmps124
 go_wp2_with (first|((with_reducible refine gd_ 2 ?_);refine bx_ (N:=2) #[.slice ae ab.length ac, .slice ag aa.length af] 25 ?_;intro an2 hg kj hbox hb;have bb6:=A_ (hbox);have mb8:=A_ ((g48_:w.heap.size<=an2));have jh2:=mb8;replace HB:=hs_ (bw2) hb;clear hb hbox hg)|((with_reducible refine gd_ 3 ?_);refine bx_ (N:=3) #[.slice mr fh.length mg, .slice np fm.length nr] 25 ?_;intro br7 hg t5 hbox hb;have gx3:=A_ (hbox);have mb9:=A_ ((g48_:w.heap.size<=br7));have jh3:=mb9;replace HB:=hs_ (bw2) hb;have gx4:=nl_ bb6 hg;have gx5:=nr_ bb6 hg;replace bb6:=bb_ bb6 hb;clear hb hbox hg;have fz6:=gx4.out;have fz7:=gx5.out;obtain⟨ub,uc,ud,ue⟩:=blk2_ bb6;obtain⟨ch0,ch1,ch2,ch3⟩:=blk2_ gx3)|((with_reducible refine gc_ 131 ?_);refine gl_ 9 Try.func131 #[.slice ae ab.length ac, .slice mr fh.length mg] ?_;(refine(Fs.calls k _ _ ab _ _ fh false _ (uC_ bg) bs.out (uC_ aj9) aw1.out A3.out).mono ?_);rintro e w' ⟨rfl,⟨nd,rfl⟩⟩;refine⟨_,rfl,?_⟩))
 go_ret
 exact⟨g4_,bw2⟩
attribute [local go_sem high] eqA69
def Fb.j0:Nat->Bool->List Int->List (List Int)->List (S25)->List Int->List (List Int)->Option (List Int × (List (List Int)) × (List (S25)) × Bool)
 | 0,_,_,_,_,_,_=>none
 | k + 1,x48,jh4,jh5,gx6,jh6,jh7=>if x48=true then(some (jh4,jh5,gx6,false)) else(if gx6.length < 2932031007402 then((some (gx6 ++ [(⟨jh4,jh5⟩:S25)]:List (S25))).bind fun uu=>(if (uu.length:Int) > 8 then(if 1<=(uu.length:Int) then((Fh.f k jh6 jh7 (uu.drop (1:Int).toNat)).bind fun bt573=>(some (bt573.1,bt573.2.1,bt573.2.2,true))) else(none)) else((Fh.f k jh6 jh7 uu).bind fun bt582=>(some (bt582.1,bt582.2.1,bt582.2.2,true))))) else(none))
def Fb.f (k:Nat) (ab:List Int) (aa:List (List Int)) (ai:List (S25)) (aq:Int) (am:Int) (an:Int) (ao:Int):Option (List Int × (List (List Int)) × (List (S25)) × Bool):=(Fh.f k ab aa ai).bind fun bt534=>(if (aq == 4 && (am == 0 && (an == 0 && (ao == 0))))=true then(if (wrap64 ((bt534.2.2.length:Int) - 1)) < 0 then(some (bt534.1,bt534.2.1,bt534.2.2,false)) else(if 0<=(wrap64 ((bt534.2.2.length:Int) - 1)) then(if (wrap64 ((bt534.2.2.length:Int) - 1)) < (bt534.2.2.length:Int) then(if (wrap64 ((bt534.2.2.length:Int) - 1))<=(bt534.2.2.length:Int) then((Fh.f k ((Jn bt534.2.2 (wrap64 ((bt534.2.2.length:Int) - 1))).f0) ((Jn bt534.2.2 (wrap64 ((bt534.2.2.length:Int) - 1))).f1) (bt534.2.2.take ((wrap64 ((bt534.2.2.length:Int) - 1)):Int).toNat)).bind fun bt549=>(some (bt549.1,bt549.2.1,bt549.2.2,true))) else(none)) else(none)) else(none))) else((Fo.f k ab aa aq am an ao).bind fun bt558=>(if bt558.2.2=true then((G2.f k bt558.1 bt558.2.1 ab aa).bind fun dj1=>(Fb.j0 k dj1 bt534.1 bt534.2.1 bt534.2.2 bt558.1 bt558.2.1)) else(Fb.j0 k true bt534.1 bt534.2.1 bt534.2.2 bt558.1 bt558.2.1))))
def Fb.T6:Bool × List (List Nat × List Nat):=(true,[([],[]),([0],[0]),([],[]),([1,2],[1,2]),([3],[3]),([],[]),([5],[5]),([],[]),([6,7],[6,7]),([4,8],[4,8]),([9],[9]),([10,10,0,1,2,3,4,5,6,7,8,9,10],[10]),([11,0,1,2,3,4,5,6,7,8,9,10,11],[])])
def Fb.B6:List Nat:=[0,1,0,7,15,0,32,0,224,511,1023,2047,4095]
theorem Fb.tab6:rtab .any (opsOf Try.f102 6)=Fb.T6:=by kernel_rfl
theorem Fb.bits6:waitsOk Fb.T6.2 Fb.B6=true:=by kernel_rfl
theorem Fb.calls_s_q0 {p:Prop} (h:p:=by repeat(first|(with_reducible first|exact HB.out|apply Jf|apply Je|apply Jd|refine Jc ?_ gx7.out|refine Jc ?_ gx8.out|refine Jc ?_ gx9.out|refine Jc ?_ gy0.out|refine Jc ?_ mc0.out)|exact HB.out)):p:=h
set_option maxHeartbeats 8000000 in
set_option maxRecDepth 100000 in
theorem Fb.calls_s (k:Nat) (ae:Option Addr) (ac:Nat) (ab:List Int) (ag:Option Addr) (af:Nat) (aa:List (List Int)) (av:Option Addr) (au:Nat) (ai:List (S25)) (aq:Int) (am:Int) (an:Int) (ao:Int) (r1:List Int) (r2:List (List Int)) (r3:List (S25)) (r4:Bool) (w:World) (ca:Kd.C (Kd.int .i64) w ae ab.length ab) (ce:ab.length<=ac) (cb:Kd.C (Kd.slice 3 (Kd.int .i64)) w ag aa.length aa) (cg:aa.length<=af) (g8:Kd.C k25 w av ai.length ai) (g9:ai.length<=au) (h:Fb.f k ab aa ai aq am an ao=some (r1,r2,r3,r4)) :
  Calls Try.prog 102 #[.agg #[.slice ae ab.length ac, .slice ag aa.length af, .slice av ai.length au], .agg #[.int .i64 aq, .int .i64 am, .int .i64 an, .int .i64 ao]] w fun e w'=>∃v0_ v1_ v2_:Value,e = .returned (.tuple #[.agg #[v0_,v1_,v2_], .bool r4])/\DkS w.heap.size w.heap.size w'.heap.size v0_ v1_ v2_ r1 r2 r3 w'/\Below w.heap.size w w':=by
 have hu28:=Try.underlying28
 have hu69:=Try.underlying69
 have hu25:=Try.underlying25
 have bg:=A_ ca
 have bs:=A_ ce
 clear ca ce
 have bd:=A_ cb
 have bv:=A_ cg
 clear cb cg
 have gc:=A_ g8
 have gx:=A_ g9
 clear g8 g9
 have HB:=A_ (Below.refl w.heap.size w)
 have H:=h
 unfold Fb.f at H
 clear h
 replace H:=Option.bind_eq_some_iff.mp H
 obtain⟨⟨gp,ig,fn⟩,yw,H⟩:=H
 try dsimp only at H
 have A3:=A_ yw
 clear yw
 by_cases c4:(aq == 4 && (am == 0 && (an == 0 && (ao == 0))))=true
 case neg=>
  rw[if_neg c4] at H
  have ib:(aq == 4 && (am == 0 && (an == 0 && (ao == 0))))=false:=by simpa using c4
  (try(have fk7:decide (aq=4 && (am == 0 && (an == 0 && (ao == 0))))=false:=by simpa using c4))
  (try(have jh8:(aq == 4 && (am == 0 && (an == 0 && (ao == 0))))=false:=by simpa using c4))
  (try(have os3:¬ (aq=4 && (am == 0 && (an == 0 && (ao == 0)))):=by simpa using c4))
  clear c4
  replace H:=Option.bind_eq_some_iff.mp H
  obtain⟨⟨jo,ks,jj9⟩,jk0,H⟩:=H
  try dsimp only at H
  have A57:=A_ jk0
  clear jk0
  have cr3:=A_ H
  clear H
  go_enter Try.func102,Try.ntmps102
  go_upto_region 8 with(first|((with_reducible refine gd_ 2 ?_);refine bx_ (N:=2) #[.slice ae ab.length ac, .slice ag aa.length af, .slice av ai.length au] 28 ?_;intro lg hg w59 hbox hb;have gj:=A_ (hbox);have jh9:=A_ ((g10_:w.heap.size<=lg));have gx7:=jh9;replace HB:=A_ (Jr (Fb.calls_s_q0) hb);clear hb hbox hg)|((with_reducible refine gd_ 3 ?_);refine bx_ (N:=3) #[.int .i64 aq, .int .i64 am, .int .i64 an, .int .i64 ao] 69 ?_;intro lh hg w60 hbox hb;have hf:=A_ (hbox);have ji0:=A_ ((g10_:w.heap.size<=lh));have gx8:=ji0;replace HB:=A_ (Jr (Fb.calls_s_q0) hb);have dj2:=nl_ gj hg;have dj3:=nr_ gj hg;replace gj:=bb_ gj hb;clear hb hbox hg)|((with_reducible refine gd_ 4 ?_);refine bx_ (N:=4) #[.slice none 0 0, .slice none 0 0, .slice none 0 0] 28 ?_;intro ix hg w61 hbox hb;have f6:=A_ (hbox);have ji1:=A_ ((g10_:w.heap.size<=ix));have gx9:=ji1;replace HB:=A_ (Jr (Fb.calls_s_q0) hb);have at2:=nl_ gj hg;have at3:=nr_ gj hg;replace gj:=bb_ gj hb;have bb7:=nl_ hf hg;have bb8:=nr_ hf hg;replace hf:=bb_ hf hb;clear hb hbox hg;have fj7:=dj2.out;have fj8:=dj3.out;have jk1:=at2.out;have jk2:=at3.out;obtain⟨jk3,jk4,jk5,jk6,jk7,jk8⟩:=blk3_ gj)|((with_reducible refine gc_ 104 ?_);refine gl_ 12 Try.func104 #[.agg #[.slice ae ab.length ac, .slice ag aa.length af, .slice av ai.length au]] ?_;(refine(Fh.calls_s k _ _ ab _ _ aa _ _ ai gp ig fn _ (uC_ bg) bs.out (uC_ bd) bv.out (uC_ gc) gx.out A3.out).mono ?_);rintro e w65 ⟨ji2,ji4,ji5,rfl,hds_,hb⟩;obtain⟨LO,HI,HLO,HDS⟩:=hds_.tk (b:=w.heap.size) (G9 (Fb.calls_s_q0));obtain⟨ah,ak,aw⟩:=hds_.tellR;clear hds_;refine⟨_,rfl,?_⟩;have nj:=A_ (Kd.R_lower ah (G9 (Fb.calls_s_q0)));have nk:=A_ (Kd.S_lower ak (G9 (Fb.calls_s_q0)));have j3:=A_ (Kd.R_lower aw (G9 (Fb.calls_s_q0)));replace gj:=bb_ gj hb;replace hf:=bb_ hf hb;replace f6:=bb_ f6 hb;replace HB:=A_ (Jr (Fb.calls_s_q0) hb))|((with_reducible refine gd_ 6 ?_);refine bx_ (N:=6) #[.slice none 0 0, .slice none 0 0, .slice none 0 0] 28 ?_;intro ed hg w66 hbox hb;have hd_:=DkS.mv HDS hb (g17_);clear HDS;have HDS:=hd_;clear hd_;replace nj:=rb_ nj hb;replace nk:=sb_ nk hb;replace j3:=rb_ j3 hb;have ii:=A_ (hbox);have ji6:=A_ ((g10_:w.heap.size<=ed));have gy0:=ji6;replace HB:=A_ (Jr (Fb.calls_s_q0) hb);have ac4:=nl_ gj hg;have br8:=nr_ gj hg;replace gj:=bb_ gj hb;have ai7:=nl_ hf hg;have cf2:=nr_ hf hg;replace hf:=bb_ hf hb;have tt:=nl_ f6 hg;have tu:=nr_ f6 hg;replace f6:=bb_ f6 hb;clear hb hbox hg;obtain⟨pn,po,me3⟩:=Kd.R_slice nj.out;subst me3;have gw2:=br8.out;have gw3:=ac4.out;have eg1:=cf2.out;have eg2:=ai7.out;have gn6:=tu.out;have gn7:=tt.out;obtain⟨ek2,ek3,ek4,ek5,ek6,ek7⟩:=blk3_ ii;obtain⟨m4,m5,ek8⟩:=Kd.S_slice nk.out;subst ek8;obtain⟨wg,wh,me4⟩:=Kd.R_slice j3.out;subst me4;have fc7:=bb7.out;have fc8:=bb8.out;obtain⟨it8,it9,iu0,iu1,iu2,iu3,iu4,iu5⟩:=blk4_ hf;obtain⟨di4,di5,di6,di7,di8,di9⟩:=blk3_ gj)|((with_reducible refine gc_ 123 ?_);refine gl_ 38 Try.func123 #[.agg #[.slice ae ab.length ac, .slice ag aa.length af], .agg #[.int .i64 aq, .int .i64 am, .int .i64 an, .int .i64 ao]] ?_;(refine(Fo.calls k _ _ ab _ _ aa aq am an ao jo ks jj9 _ (Kd.C_below bg.out (Fb.calls_s_q0)) bs.out (Kd.C_below bd.out (Fb.calls_s_q0)) bv.out A57.out).mono ?_);rintro e w77 ⟨os4,os5,rfl,ah,ak,hb⟩;refine⟨_,rfl,?_⟩;have hd_:=DkS.mv HDS hb (g17_);clear HDS;have HDS:=hd_;clear hd_;replace j3:=A_ (Kd.R_mono (Kd.R_told (Kd.R_told (Kd.R_old (ra_ j3) hb) (Kd.R_base ah)) (Kd.S_base ak)) (fun _ h_=>h_.1));have br9:=A_ (Kd.R_lower (Kd.R_new' ah (Kd.R_lt (ra_ nj))) (G9 (Fb.calls_s_q0)));have bs0:=A_ (Kd.S_lower (Kd.S_new' (Kd.S_new' ak (Kd.R_lt (ra_ nj))) (Kd.S_lt (sa_ nk))) (G9 (Fb.calls_s_q0)));replace nj:=A_ (Kd.R_elder' (ra_ nj) (Kd.R_base ah) hb);replace nk:=A_ (Kd.S_mono (Kd.S_told (Kd.S_told (Kd.S_old (sa_ nk) hb) (Kd.R_base ah)) (Kd.S_base ak)) (fun _ h_=>h_.1));replace gj:=A_ (Jk (g:=lg) (o:=.cells #[.slice ae ab.length ac, .slice ag aa.length af, .slice av ai.length au] 28 (0,0)) (ba_ gj) hb);replace hf:=A_ (Jk (g:=lh) (o:=.cells #[.int .i64 aq, .int .i64 am, .int .i64 an, .int .i64 ao] 69 (0,0)) (ba_ hf) hb);replace f6:=A_ (Jk (g:=ix) (o:=.cells #[.slice none 0 0, .slice none 0 0, .slice none 0 0] 28 (0,0)) (ba_ f6) hb);replace ii:=A_ (Jk (g:=ed) (o:=.cells #[.slice pn gp.length po, .slice m4 ig.length m5, .slice wg fn.length wh] 28 (0,0)) (ba_ ii) hb);replace HB:=A_ (Jr (Fb.calls_s_q0) hb))|((with_reducible refine gd_ 8 ?_);refine bx_ (N:=8) #[.slice none 0 0, .slice none 0 0] 25 ?_;intro ip hg w78 hbox hb;have GH565:=DkS.ge HDS hg (g17_);have hd_:=DkS.mv HDS hb (g17_);clear HDS;have HDS:=hd_;clear hd_;replace nj:=rb_ nj hb;replace nk:=sb_ nk hb;replace j3:=A_ (Kd.R_below (Kd.R_elderB (uR_ j3) ip (Nat.le_of_eq hg.symm)) hb);replace br9:=rb_ br9 hb;replace bs0:=sb_ bs0 hb;have lm:=A_ (hbox);have os6:=A_ ((g10_:w.heap.size<=ip));have mc0:=os6;replace HB:=A_ (Jr (Fb.calls_s_q0) hb);have cf3:=nl_ gj hg;have fl2:=nr_ gj hg;replace gj:=bb_ gj hb;have cf4:=nl_ hf hg;have fl3:=nr_ hf hg;replace hf:=bb_ hf hb;have bs1:=nl_ f6 hg;have ek9:=nr_ f6 hg;replace f6:=bb_ f6 hb;have bs2:=nl_ ii hg;have el0:=nr_ ii hg;replace ii:=bb_ ii hb;clear hb hbox hg;obtain⟨ln,li,me5⟩:=Kd.R_slice br9.out;subst me5;have in4:=fl2.out;have in5:=cf3.out;have lf1:=fl3.out;have lf2:=cf4.out;have in6:=ek9.out;have in7:=bs1.out;have kw7:=el0.out;have kw8:=bs2.out;obtain⟨me6,me7,me8,me9⟩:=blk2_ lm;obtain⟨nl,m6,mf0⟩:=Kd.S_slice bs0.out;subst mf0))
  (try simp only[Act.put,List.setIfInBounds_toArray,List.set_cons_zero,List.set_cons_succ])
  go_cut [48] (fun v48 wc=>∃(kq:Nat) (fl4:Bool),v48 = .bool fl4/\G7 (Fb.j0 kq fl4 gp ig fn jo ks=some (r1,r2,r3,r4))/\G7 (kq<=k)/\G7 (Kd.R (Kd.int .i64) 3 wc w.heap.size (fun k_=>some k_≠((.slice ln jo.length li):Value).ownBlock) (.slice pn gp.length po) gp)/\G7 (Kd.S (Kd.slice 3 (Kd.int .i64)) 22 wc w.heap.size (fun k_=>some k_≠((.slice pn gp.length po):Value).ownBlock/\some k_≠((.slice ln jo.length li):Value).ownBlock/\some k_≠((.slice nl ks.length m6):Value).ownBlock) (.slice m4 ig.length m5) ig)/\G7 (Kd.R k25 25 wc w.heap.size (fun k_=>some k_≠((.slice pn gp.length po):Value).ownBlock/\some k_≠((.slice m4 ig.length m5):Value).ownBlock/\some k_≠((.slice ln jo.length li):Value).ownBlock/\some k_≠((.slice nl ks.length m6):Value).ownBlock/\k_≠ip) (.slice wg fn.length wh) fn)/\G7 (Kd.R (Kd.int .i64) 3 wc w.heap.size (fun k_=>some k_≠((.slice pn gp.length po):Value).ownBlock) (.slice ln jo.length li) jo)/\G7 (Kd.S (Kd.slice 3 (Kd.int .i64)) 22 wc w.heap.size (fun k_=>some k_≠((.slice pn gp.length po):Value).ownBlock/\some k_≠((.slice m4 ig.length m5):Value).ownBlock/\some k_≠((.slice ln jo.length li):Value).ownBlock) (.slice nl ks.length m6) ks)/\G7 (hc_ wc lg #[(.slice ae ab.length ac),(.slice ag aa.length af),(.slice av ai.length au)] 28)/\G7 (hc_ wc lh #[.int .i64 aq, .int .i64 am, .int .i64 an, .int .i64 ao] 69)/\G7 (hc_ wc ix #[(.slice none 0 0),(.slice none 0 0),(.slice none 0 0)] 28)/\G7 (hc_ wc ed #[(.slice pn gp.length po),(.slice m4 ig.length m5),(.slice wg fn.length wh)] 28)/\G7 (hc_ wc ip #[(.slice ln jo.length li),(.slice nl ks.length m6)] 25)/\G7 (Below w.heap.size w wc)/\G7 (DkS w.heap.size LO HI (.slice pn gp.length po) (.slice m4 ig.length m5) (.slice wg fn.length wh) gp ig fn wc))
  case first=>
   have H:=cr3.out
   clear cr3
   by_cases c86:jj9=true
   case neg=>
    replace c86:=Bool.eq_false_iff.mpr c86
    subst c86
    replace H:=ifn_ H
    have H':=A_ H
    clear H
    go_wp2
    go_meet
    case rel=>exact⟨_,(true),(g3_),H',⟨g9_⟩,⟨ra_ nj⟩,⟨sa_ nk⟩,⟨ra_ j3⟩,⟨ra_ br9⟩,⟨sa_ bs0⟩,⟨ba_ gj⟩,⟨ba_ hf⟩,⟨ba_ f6⟩,⟨ba_ ii⟩,⟨ba_ lm⟩,⟨Fb.calls_s_q0⟩,⟨DkS.go HDS (g17_)⟩⟩
   subst c86
   replace H:=ifp_ H
   obtain⟨dj1,A87,H⟩:=bind_ H
   have H':=A_ H
   clear H
   have os7:=fl2.out
   have os8:=cf3.out
   have os9:=fl3.out
   have ot0:=cf4.out
   have ot1:=ek9.out
   have ot2:=bs1.out
   have lx3:=el0.out
   have lx4:=bs2.out
   obtain⟨iu6,iu7,iu8,iu9⟩:=blk2_ lm
   have iv0:=dj2.out
   have iv1:=dj3.out
   have iv2:=at2.out
   have iv3:=at3.out
   have gp6:=ac4.out
   have gp7:=br8.out
   obtain⟨iv4,iv5,iv6,iv7,iv8,iv9⟩:=blk3_ gj
   go_wp2_with (first|(go_at_call 124;(with_reducible refine(G2.calls k _ _ jo _ _ ks _ _ ab _ _ aa dj1 _ ?side1 ?side2 ?side3 ?side4 ?side5 ?side6 ?side7 ?side8 A87.out).mono ?_);(case side1=>refine(Kd.R_reads' (e:=3) (base:=w.heap.size) (ok:=fun k_=>(True/\some k_≠(.slice pn gp.length po:Value).ownBlock)) (n:=jo.length) (c:=li) ?_).2.2;exact(ra_ br9));(case side2=>exact lR_ br9);(case side3=>refine(Kd.S_reads' (e:=22) (base:=w.heap.size) (ok:=fun k_=>((some k_≠(.slice ln jo.length li:Value).ownBlock/\some k_≠(.slice pn gp.length po:Value).ownBlock)/\some k_≠(.slice m4 ig.length m5:Value).ownBlock)) (n:=ks.length) (c:=m6) ?_).2.2;exact(sa_ bs0));(case side4=>exact lS_ bs0);(case side5=>exact Kd.C_below bg.out (Fb.calls_s_q0));(case side6=>exact bs.out);(case side7=>exact Kd.C_below bd.out (Fb.calls_s_q0));(case side8=>exact bv.out);rintro e w97 ⟨rfl,hb⟩;have hd_:=DkS.mv HDS hb (g17_);clear HDS;have HDS:=hd_;clear hd_;replace nj:=A_ (Kd.R_below (ra_ nj) hb);replace nk:=A_ (Kd.S_below (sa_ nk) hb);replace j3:=A_ (Kd.R_below (ra_ j3) hb);replace br9:=A_ (Kd.R_below (ra_ br9) hb);replace bs0:=A_ (Kd.S_below (sa_ bs0) hb);replace gj:=A_ (Jk (g:=lg) (o:=.cells #[.slice ae ab.length ac, .slice ag aa.length af, .slice av ai.length au] 28 (0,0)) (ba_ gj) hb);replace hf:=A_ (Jk (g:=lh) (o:=.cells #[.int .i64 aq, .int .i64 am, .int .i64 an, .int .i64 ao] 69 (0,0)) (ba_ hf) hb);replace f6:=A_ (Jk (g:=ix) (o:=.cells #[.slice none 0 0, .slice none 0 0, .slice none 0 0] 28 (0,0)) (ba_ f6) hb);replace ii:=A_ (Jk (g:=ed) (o:=.cells #[.slice pn gp.length po, .slice m4 ig.length m5, .slice wg fn.length wh] 28 (0,0)) (ba_ ii) hb);replace lm:=A_ (Jk (g:=ip) (o:=.cells #[.slice ln jo.length li, .slice nl ks.length m6] 25 (0,0)) (ba_ lm) hb);replace HB:=A_ (Jr (Fb.calls_s_q0) hb)))
   go_meet
   case rel=>exact⟨_,(dj1),(g3_),H',⟨g9_⟩,⟨by(with_reducible repeat(first|apply Kd.R_alloc|apply Kd.R_drewN|apply Kd.R_drew));exact Kd.R_mono nj.out (fun _ hk=>hk.2)⟩,⟨by(with_reducible repeat(first|apply Kd.S_alloc|apply Kd.S_drewN|apply Kd.S_drew));exact Kd.S_mono nk.out (fun _ hk=>⟨hk.1.1,⟨hk.1.2,hk.2⟩⟩)⟩,⟨by(with_reducible repeat(first|apply Kd.R_alloc|apply Kd.R_drewN|apply Kd.R_drew));exact Kd.R_mono j3.out (fun _ hk=>⟨hk.1.1.1.1,⟨hk.1.1.1.2,⟨hk.1.1.2,⟨hk.1.2,hk.2⟩⟩⟩⟩)⟩,⟨by(with_reducible repeat(first|apply Kd.R_alloc|apply Kd.R_drewN|apply Kd.R_drew));exact Kd.R_mono br9.out (fun _ hk=>hk.2)⟩,⟨by(with_reducible repeat(first|apply Kd.S_alloc|apply Kd.S_drewN|apply Kd.S_drew));exact Kd.S_mono bs0.out (fun _ hk=>⟨hk.1.2,⟨hk.2,hk.1.1⟩⟩)⟩,⟨uB_ gj⟩,⟨uB_ hf⟩,⟨uB_ f6⟩,⟨uB_ ii⟩,⟨uB_ lm⟩,⟨Fb.calls_s_q0⟩,⟨DkS.go HDS (g17_)⟩⟩
  clear cr3
  clear HDS;obtain⟨kq,fl4,rfl,HA,HJ57,fl5,fl6,sb,tv,tw,gj,hf,f6,ii,lm,HB,HDS⟩:=hcut
  cases kq with
  | zero=>exact absurd HA.out (by simp[Fb.j0])
  | succ kj57=>?_
  have H:=HA.out
  clear HA
  simp only[Fb.j0] at H
  by_cases c98:fl4=true
  ·subst c98
   replace H:=ifp_ H
   simp only[Option.some.injEq,Prod.mk.injEq] at H
   obtain⟨rfl,rfl,rfl,rfl⟩:=H
   have ot4:=br8.out
   have ot5:=ac4.out
   have ot6:=cf2.out
   have ot7:=ai7.out
   have ot8:=tu.out
   have ot9:=tt.out
   have ou0:=bs2.out
   have ou1:=el0.out
   obtain⟨ou2,ou3,ou4,ou5,ou6,ou7⟩:=blk3_ ii
   have fd3:=at3.out
   have fd4:=at2.out
   have fd5:=bb8.out
   have fd6:=bb7.out
   have fd7:=bs1.out
   have fd8:=ek9.out
   obtain⟨cr4,cr5,df2,cr6,cr7,df3⟩:=blk3_ f6
   go_wp2
   refine bodyPost_ret (Jt rfl _ _ ix 28 #[.slice pn gp.length po, .slice m4 ig.length m5, .slice wg fn.length wh] (0,0) _ rfl (ba_ f6) Try.underlying28 rfl (g1_)) rfl ?_
   exact⟨_,_,_,g4_,DkS.end_ HDS HLO (g17_),Fb.calls_s_q0⟩
  replace c98:=Bool.eq_false_iff.mpr c98
  subst c98
  replace H:=ifn_ H
  obtain⟨el1,H⟩:=pos_ H
  have jk9:=A_ el1
  clear el1
  obtain⟨uu,hyq⟩:∃y_:List (S25),y_=(fn ++ [(⟨gp,ig⟩:S25)]):=⟨_,rfl⟩
  replace H:(if (uu.length:Int) > 8 then(if 1<=(uu.length:Int) then((Fh.f kj57 jo ks (uu.drop (1:Int).toNat)).bind fun bt573=>(some (bt573.1,bt573.2.1,bt573.2.2,true))) else(none)) else((Fh.f kj57 jo ks uu).bind fun bt582=>(some (bt582.1,bt582.2.1,bt582.2.2,true))))=some (r1,r2,r3,r4):=qh_
  have jl0:=A_ hyq
  clear hyq
  by_cases bs3:(uu.length:Int) > 8
  ·rw[if_pos bs3] at H
   have mf1:=decide_eq_true bs3
   have mf2:decide (8 < uu.length)=true:=decide_eq_true (by omega)
   clear bs3
   obtain⟨fl7,H⟩:=pos_ H
   have ou8:=eq_true fl7
   have ou9:=decide_eq_true fl7
   clear fl7
   obtain⟨cu8,hyq⟩:∃y_:List (S25),y_=(uu.drop (1:Int).toNat):=⟨_,rfl⟩
   replace H:((Fh.f kj57 jo ks cu8).bind fun bt573=>(some (bt573.1,bt573.2.1,bt573.2.2,true)))=some (r1,r2,r3,r4):=qh_
   have jl1:=A_ hyq
   clear hyq
   replace H:=Option.bind_eq_some_iff.mp H
   obtain⟨⟨fl8,gy4,jl2⟩,jl3,H⟩:=H
   try dsimp only at H
   have mf3:=A_ jl3
   clear jl3
   simp only[Option.some.injEq,Prod.mk.injEq] at H
   obtain⟨rfl,rfl,rfl,rfl⟩:=H
   have mf4:=br8.out
   have mf5:=ac4.out
   have go3:=cf2.out
   have go4:=ai7.out
   have jl4:=tu.out
   have jl5:=tt.out
   have iw5:=bs2.out
   have iw6:=el0.out
   obtain⟨ov0,ov1,ov2,ov3,ov4,ov5⟩:=blk3_ ii
   go_wp2_with (first|((with_reducible refine gate_builtin (b:=.append) (xs:=#[.tmp 51, .tmp 54]) rfl ?_);at_builtin;refine Kd.R_append k25 (w0:=w) w.heap.size rfl (.tmp 51) (.tmp 54) 26 25 (.agg #[(.slice none 0 0),(.slice none 0 0)]) 48 rfl Try.underlying26 info25 rfl (by decide) (by omega) (.slice wg fn.length wh) fn (⟨gp,ig⟩:S25) [.slice pn gp.length po, .slice m4 ig.length m5] (fun k_=>some k_≠(.slice ln jo.length li:Value).ownBlock/\some k_≠(.slice nl ks.length m6:Value).ownBlock/\k_≠ip) (fun k_=>((fun k_=>some k_≠(.slice ln jo.length li:Value).ownBlock/\some k_≠(.slice nl ks.length m6:Value).ownBlock/\k_≠ip)) k_/\some k_≠(.slice wg fn.length wh:Value).ownBlock) rfl rfl ?aP (fun _ hk=>hk) ?aF ?aO ?aB ?aS ?aL ?_;(case aP=>exact k25_mkM _ _ _ (⟨gp,ig⟩:S25) (Kd.R_mono (Kd.R_types (Kd.R_apart' (Kd.R_apart' (fl5.out) (Kd.S_typed tw.out) (by decide)) (Kd.R_typed sb.out) (by decide)) lm.out (by decide)) (fun k_ hk=>⟨⟨hk.1.1.1,⟨hk.1.1.2,hk.2⟩⟩,hk.1.2⟩)) (Kd.R_mono (Kd.R_types (Kd.R_apart' ((Kd.S_R fl6.out)) (Kd.R_typed sb.out) (by decide)) lm.out (by decide)) (fun k_ hk=>⟨⟨hk.1.1.2.1,⟨hk.1.1.2.2,hk.2⟩⟩,hk.1.2⟩)));(case aB=>exact(Fb.calls_s_q0));(case aF=>exact(fun k_ hk=>⟨Kd.fresh' (Kd.R_lt (uR_ tv)) k_ hk,Kd.fresh' (Kd.S_lt (uS_ tw)) k_ hk,Kd.freshB (g:=ip) (o:=.cells #[.slice ln jo.length li, .slice nl ks.length m6] 25 (0,0)) (uB_ lm) k_ hk⟩));(case aO=>exact(yR_ sb (fun _ hk=>⟨hk.2.2.1,⟨hk.2.2.2.1,hk.2.2.2.2⟩⟩)));(case aS=>exact(G9 (Fb.calls_s_q0)));(case aL=>have:=jk9.out;omega);intro mf6 io3 ho hb hg hat;rw[<- jl0.out] at ho;replace tv:=A_ (Kd.R_over' (uR_ tv) (Kd.R_typed (uR_ sb)) (by decide) hg);replace tw:=A_ (Kd.S_over' (uS_ tw) (Kd.R_typed (uR_ sb)) (by decide) hg);replace gj:=(bg_ gj hg (Kd.R_ne sb.out gj.out (by decide)));replace hf:=(bg_ hf hg (Kd.R_ne sb.out hf.out (by decide)));replace f6:=(bg_ f6 hg (Kd.R_ne sb.out f6.out (by decide)));replace ii:=(bg_ ii hg (Kd.R_ne sb.out ii.out (by decide)));replace lm:=(bg_ lm hg (Kd.R_away sb.out (fun _ hk=>hk.2.2.2.2)));replace HB:=A_ (hb);have bj0:=A_ (ho);clear sb fl5 fl6;clear ho hb hg hat;obtain⟨el2,fl9,mf7⟩:=Kd.R_slice bj0.out;subst mf7;have aw3:(1:Int)<=((uu.length:Int):Int):=od_;obtain⟨i0119,jl6,_,hsz119,_⟩:=info_parts info25;have hcut119:=cut_from (P:=Try.prog) 26 25 .i64 Try.underlying26 jl6 2 hsz119 el2 uu.length fl9 1 (by omega) aw3;have el3:=Kd.Q_drop (k:=(1:Int).toNat) (Kd.Q_of_R bj0.out) (by omega);obtain⟨gy5,hA119⟩:∃A1,A1=(if fl9=(1:Int).toNat then el2 else(el2:Option Addr).map (·.add ((1:Int).toNat * 2))):=⟨_,rfl⟩;obtain⟨fm0,gy6⟩:∃c1,c1=fl9 - (1:Int).toNat:=⟨_,rfl⟩;have hy119:cu8.length=uu.length - (1:Int).toNat:=(by rw[jl1.out,List.length_drop]);rw[<- jl1.out] at el3;rw[<- hy119, <- hA119, <- gy6] at hcut119;replace el3:Kd.Q k25 25 io3 w.heap.size (fun k_=>some k_≠(.slice ln jo.length li:Value).ownBlock/\some k_≠(.slice nl ks.length m6:Value).ownBlock/\k_≠ip) (.slice gy5 cu8.length fm0) cu8:=(by rw[hA119,gy6,hy119];exact el3);have HE119:G7 ((Value.slice gy5 cu8.length fm0).ownBlock=(.slice el2 uu.length fl9:Value).ownBlock):=⟨by rw[hA119];split <;> (cases(el2:Option Addr) <;> rfl)⟩;clear hy119 jl6 hsz119 bj0 hA119 gy6;have el4:=A_ el3;clear el3;replace aw3:=eq_true aw3;have mf8:=fl2.out;have mf9:=cf3.out;have lz4:=fl3.out;have lz5:=cf4.out;have ov6:=ek9.out;have ov7:=bs1.out;obtain⟨ov8,ov9,ow0,ow1⟩:=blk2_ lm)|((with_reducible refine gc_ 104 ?_);refine gl_ 64 Try.func104 #[.agg #[.slice ln jo.length li, .slice nl ks.length m6, .slice gy5 cu8.length fm0]] ?_;(refine(Fh.calls_s kj57 _ _ jo _ _ ks _ _ cu8 fl8 gy4 jl2 _ (cR_ tv) (lR_ tv) (cS_ tw) (lS_ tw) (cQ_ el4) (lQ_ el4) mf3.out).mono ?_);rintro e lz6 ⟨ow2,ow3,ow4,rfl,hds_,hb⟩;obtain⟨LO,HI,HLO,HDS⟩:=hds_.tk (b:=w.heap.size) (G9 (Fb.calls_s_q0));obtain⟨ah,ak,aw⟩:=hds_.tellR;clear hds_;refine⟨_,rfl,?_⟩;have mg0:=A_ (Kd.R_lower (Kd.R_new' ah (Kd.R_lt (uR_ tv))) (G9 (Fb.calls_s_q0)));have mg1:=A_ (Kd.S_lower (Kd.S_new' (Kd.S_new' ak (Kd.R_lt (uR_ tv))) (Kd.S_lt (uS_ tw))) (G9 (Fb.calls_s_q0)));have mg2:=A_ (Kd.R_lower (Kd.R_newB (Kd.R_new' (Kd.R_new' (Kd.R_new' aw (Kd.R_lt (uR_ tv))) (Kd.S_lt (uS_ tw))) (Kd.Q_lt (uQ_ el4))) (g:=ip) (o:=.cells #[.slice ln jo.length li, .slice nl ks.length m6] 25 (0,0)) (uB_ lm)) (G9 (Fb.calls_s_q0)));replace tv:=A_ (Kd.R_elder' (uR_ tv) (Kd.R_base ah) hb);replace tw:=A_ (Kd.S_mono (Kd.S_told (Kd.S_told (Kd.S_old (uS_ tw) hb) (Kd.R_base ah)) (Kd.S_base ak)) (fun _ h_=>h_.1));replace el4:=A_ (Kd.Q_mono (Kd.Q_told (Kd.Q_told (Kd.Q_told (Kd.Q_old (uQ_ el4) hb) (Kd.R_base ah)) (Kd.S_base ak)) (Kd.R_base aw)) (fun _ h_=>h_.1));replace gj:=bb_ gj hb;replace hf:=bb_ hf hb;replace f6:=bb_ f6 hb;replace ii:=bb_ ii hb;replace lm:=bb_ lm hb;replace HB:=A_ (Jr (Fb.calls_s_q0) hb);obtain⟨bi8,bi9,gw9⟩:=Kd.R_slice mg0.out;subst gw9;have gp0:=at3.out;have gp1:=at2.out;have jg6:=bb8.out;have jg7:=bb7.out;obtain⟨ow5,ow6,ow7,ow8,ow9,ox0⟩:=blk3_ f6;obtain⟨jl7,jl8,mg3⟩:=Kd.S_slice mg1.out;subst mg3;obtain⟨cu1,cu2,gx0⟩:=Kd.R_slice mg2.out;subst gx0))
   refine bodyPost_ret (Jt rfl _ _ ix 28 #[.slice bi8 fl8.length bi9, .slice jl7 gy4.length jl8, .slice cu1 jl2.length cu2] (0,0) _ rfl (ba_ f6) Try.underlying28 rfl (g1_)) rfl ?_
   exact⟨_,_,_,g4_,DkS.end_ HDS HLO (g17_),Fb.calls_s_q0⟩
  rw[if_neg bs3] at H
  have mf1:=decide_eq_false bs3
  have mf2:decide (8 < uu.length)=false:=decide_eq_false (by omega)
  clear bs3
  replace H:=Option.bind_eq_some_iff.mp H
  obtain⟨⟨fm1,gy7,jl9⟩,jm0,H⟩:=H
  try dsimp only at H
  have mg4:=A_ jm0
  clear jm0
  simp only[Option.some.injEq,Prod.mk.injEq] at H
  obtain⟨rfl,rfl,rfl,rfl⟩:=H
  have ma6:=br8.out
  have ma7:=ac4.out
  have ip3:=cf2.out
  have ip4:=ai7.out
  have ox1:=tu.out
  have ox2:=tt.out
  have ma8:=bs2.out
  have ma9:=el0.out
  obtain⟨mb0,mb1,ox3,mb2,mb3,ox4⟩:=blk3_ ii
  go_wp2_with (first|((with_reducible refine gate_builtin (b:=.append) (xs:=#[.tmp 51, .tmp 54]) rfl ?_);at_builtin;refine Kd.R_append k25 (w0:=w) w.heap.size rfl (.tmp 51) (.tmp 54) 26 25 (.agg #[(.slice none 0 0),(.slice none 0 0)]) 48 rfl Try.underlying26 info25 rfl (by decide) (by omega) (.slice wg fn.length wh) fn (⟨gp,ig⟩:S25) [.slice pn gp.length po, .slice m4 ig.length m5] (fun k_=>some k_≠(.slice ln jo.length li:Value).ownBlock/\some k_≠(.slice nl ks.length m6:Value).ownBlock/\k_≠ip) (fun k_=>((fun k_=>some k_≠(.slice ln jo.length li:Value).ownBlock/\some k_≠(.slice nl ks.length m6:Value).ownBlock/\k_≠ip)) k_/\some k_≠(.slice wg fn.length wh:Value).ownBlock) rfl rfl ?aP (fun _ hk=>hk) ?aF ?aO ?aB ?aS ?aL ?_;(case aP=>exact k25_mkM _ _ _ (⟨gp,ig⟩:S25) (Kd.R_mono (Kd.R_types (Kd.R_apart' (Kd.R_apart' (fl5.out) (Kd.S_typed tw.out) (by decide)) (Kd.R_typed sb.out) (by decide)) lm.out (by decide)) (fun k_ hk=>⟨⟨hk.1.1.1,⟨hk.1.1.2,hk.2⟩⟩,hk.1.2⟩)) (Kd.R_mono (Kd.R_types (Kd.R_apart' ((Kd.S_R fl6.out)) (Kd.R_typed sb.out) (by decide)) lm.out (by decide)) (fun k_ hk=>⟨⟨hk.1.1.2.1,⟨hk.1.1.2.2,hk.2⟩⟩,hk.1.2⟩)));(case aB=>exact(Fb.calls_s_q0));(case aF=>exact(fun k_ hk=>⟨Kd.fresh' (Kd.R_lt (uR_ tv)) k_ hk,Kd.fresh' (Kd.S_lt (uS_ tw)) k_ hk,Kd.freshB (g:=ip) (o:=.cells #[.slice ln jo.length li, .slice nl ks.length m6] 25 (0,0)) (uB_ lm) k_ hk⟩));(case aO=>exact(yR_ sb (fun _ hk=>⟨hk.2.2.1,⟨hk.2.2.2.1,hk.2.2.2.2⟩⟩)));(case aS=>exact(G9 (Fb.calls_s_q0)));(case aL=>have:=jk9.out;omega);intro mf6 lb0 ho hb hg hat;rw[<- jl0.out] at ho;replace tv:=A_ (Kd.R_over' (uR_ tv) (Kd.R_typed (uR_ sb)) (by decide) hg);replace tw:=A_ (Kd.S_over' (uS_ tw) (Kd.R_typed (uR_ sb)) (by decide) hg);replace gj:=(bg_ gj hg (Kd.R_ne sb.out gj.out (by decide)));replace hf:=(bg_ hf hg (Kd.R_ne sb.out hf.out (by decide)));replace f6:=(bg_ f6 hg (Kd.R_ne sb.out f6.out (by decide)));replace ii:=(bg_ ii hg (Kd.R_ne sb.out ii.out (by decide)));replace lm:=(bg_ lm hg (Kd.R_away sb.out (fun _ hk=>hk.2.2.2.2)));replace HB:=A_ (hb);have bj0:=A_ (ho);clear sb fl5 fl6;clear ho hb hg hat;obtain⟨mg5,mg6,mg7⟩:=Kd.R_slice bj0.out;subst mg7;have ox5:=fl2.out;have ox6:=cf3.out;have mg8:=fl3.out;have mg9:=cf4.out;have ip6:=ek9.out;have ip7:=bs1.out;obtain⟨ox7,ox8,ox9,oy0⟩:=blk2_ lm)|((with_reducible refine gc_ 104 ?_);refine gl_ 64 Try.func104 #[.agg #[.slice ln jo.length li, .slice nl ks.length m6, .slice mg5 uu.length mg6]] ?_;(refine(Fh.calls_s kj57 _ _ jo _ _ ks _ _ uu fm1 gy7 jl9 _ (cR_ tv) (lR_ tv) (cS_ tw) (lS_ tw) (cR_ bj0) (lR_ bj0) mg4.out).mono ?_);rintro e oy1 ⟨oy2,oy3,oy4,rfl,hds_,hb⟩;obtain⟨LO,HI,HLO,HDS⟩:=hds_.tk (b:=w.heap.size) (G9 (Fb.calls_s_q0));obtain⟨ah,ak,aw⟩:=hds_.tellR;clear hds_;refine⟨_,rfl,?_⟩;have mh0:=A_ (Kd.R_lower (Kd.R_new' ah (Kd.R_lt (uR_ tv))) (G9 (Fb.calls_s_q0)));have mh1:=A_ (Kd.S_lower (Kd.S_new' (Kd.S_new' ak (Kd.R_lt (uR_ tv))) (Kd.S_lt (uS_ tw))) (G9 (Fb.calls_s_q0)));have mh2:=A_ (Kd.R_lower (Kd.R_newB (Kd.R_new' (Kd.R_new' (Kd.R_new' aw (Kd.R_lt (uR_ tv))) (Kd.S_lt (uS_ tw))) (Kd.R_lt (uR_ bj0))) (g:=ip) (o:=.cells #[.slice ln jo.length li, .slice nl ks.length m6] 25 (0,0)) (uB_ lm)) (G9 (Fb.calls_s_q0)));replace tv:=A_ (Kd.R_elder' (uR_ tv) (Kd.R_base ah) hb);replace tw:=A_ (Kd.S_mono (Kd.S_told (Kd.S_told (Kd.S_old (uS_ tw) hb) (Kd.R_base ah)) (Kd.S_base ak)) (fun _ h_=>h_.1));replace bj0:=A_ (Kd.R_mono (Kd.R_told (Kd.R_told (Kd.R_told (Kd.R_old (uR_ bj0) hb) (Kd.R_base ah)) (Kd.S_base ak)) (Kd.R_base aw)) (fun _ h_=>h_.1));replace gj:=bb_ gj hb;replace hf:=bb_ hf hb;replace f6:=bb_ f6 hb;replace ii:=bb_ ii hb;replace lm:=bb_ lm hb;replace HB:=A_ (Jr (Fb.calls_s_q0) hb);obtain⟨gy8,gy9,mh3⟩:=Kd.R_slice mh0.out;subst mh3;have lb9:=at3.out;have lc0:=at2.out;have lc1:=bb8.out;have lc2:=bb7.out;obtain⟨lc3,lc4,oy5,lc5,lc6,oy6⟩:=blk3_ f6;obtain⟨zh,zi,gz0⟩:=Kd.S_slice mh1.out;subst gz0;obtain⟨bb9,bc0,gz1⟩:=Kd.R_slice mh2.out;subst gz1))
  refine bodyPost_ret (Jt rfl _ _ ix 28 #[.slice gy8 fm1.length gy9, .slice zh gy7.length zi, .slice bb9 jl9.length bc0] (0,0) _ rfl (ba_ f6) Try.underlying28 rfl (g1_)) rfl ?_
  exact⟨_,_,_,g4_,DkS.end_ HDS HLO (g17_),Fb.calls_s_q0⟩
 rw[if_pos c4] at H
 have ib:(aq == 4 && (am == 0 && (an == 0 && (ao == 0))))=true:=c4
 (try(have fk7:decide (aq=4 && (am == 0 && (an == 0 && (ao == 0))))=true:=by simpa using c4))
 (try(have jh8:(aq == 4 && (am == 0 && (an == 0 && (ao == 0))))=true:=by simpa using c4))
 clear c4
 by_cases c5:(wrap64 ((fn.length:Int) - 1)) < 0
 ·rw[if_pos c5] at H
  have ki:=decide_eq_true c5
  clear c5
  simp only[Option.some.injEq,Prod.mk.injEq] at H
  obtain⟨rfl,rfl,rfl,rfl⟩:=H
  go_enter Try.func102,Try.ntmps102
  go_wp2_with (first|((with_reducible refine gd_ 2 ?_);refine bx_ (N:=2) #[.slice ae ab.length ac, .slice ag aa.length af, .slice av ai.length au] 28 ?_;intro lg hg w6 hbox hb;have gj:=A_ (hbox);have jh9:=A_ ((g10_:w.heap.size<=lg));have gx7:=jh9;replace HB:=A_ (Jr (Fb.calls_s_q0) hb);clear hb hbox hg)|((with_reducible refine gd_ 3 ?_);refine bx_ (N:=3) #[.int .i64 aq, .int .i64 am, .int .i64 an, .int .i64 ao] 69 ?_;intro lh hg w7 hbox hb;have hf:=A_ (hbox);have ji0:=A_ ((g10_:w.heap.size<=lh));have gx8:=ji0;replace HB:=A_ (Jr (Fb.calls_s_q0) hb);have dj2:=nl_ gj hg;have dj3:=nr_ gj hg;replace gj:=bb_ gj hb;clear hb hbox hg)|((with_reducible refine gd_ 4 ?_);refine bx_ (N:=4) #[.slice none 0 0, .slice none 0 0, .slice none 0 0] 28 ?_;intro ix hg w8 hbox hb;have f6:=A_ (hbox);have ji1:=A_ ((g10_:w.heap.size<=ix));have gx9:=ji1;replace HB:=A_ (Jr (Fb.calls_s_q0) hb);have at2:=nl_ gj hg;have at3:=nr_ gj hg;replace gj:=bb_ gj hb;have bb7:=nl_ hf hg;have bb8:=nr_ hf hg;replace hf:=bb_ hf hb;clear hb hbox hg;have cz0:=dj2.out;have cz1:=dj3.out;have cr9:=at2.out;have cs0:=at3.out;obtain⟨si,sj,aw4,sk,sl,aw5⟩:=blk3_ gj)|((with_reducible refine gc_ 104 ?_);refine gl_ 12 Try.func104 #[.agg #[.slice ae ab.length ac, .slice ag aa.length af, .slice av ai.length au]] ?_;(refine(Fh.calls_s k _ _ ab _ _ aa _ _ ai gp ig fn _ (uC_ bg) bs.out (uC_ bd) bv.out (uC_ gc) gx.out A3.out).mono ?_);rintro e t5 ⟨ji2,ji4,ji5,rfl,hds_,hb⟩;obtain⟨LO,HI,HLO,HDS⟩:=hds_.tk (b:=w.heap.size) (G9 (Fb.calls_s_q0));obtain⟨ah,ak,aw⟩:=hds_.tellR;clear hds_;refine⟨_,rfl,?_⟩;have nj:=A_ (Kd.R_lower ah (G9 (Fb.calls_s_q0)));have nk:=A_ (Kd.S_lower ak (G9 (Fb.calls_s_q0)));have j3:=A_ (Kd.R_lower aw (G9 (Fb.calls_s_q0)));replace gj:=bb_ gj hb;replace hf:=bb_ hf hb;replace f6:=bb_ f6 hb;replace HB:=A_ (Jr (Fb.calls_s_q0) hb))|((with_reducible refine gd_ 6 ?_);refine bx_ (N:=6) #[.slice none 0 0, .slice none 0 0, .slice none 0 0] 28 ?_;intro ed hg ps hbox hb;have hd_:=DkS.mv HDS hb (g17_);clear HDS;have HDS:=hd_;clear hd_;replace nj:=rb_ nj hb;replace nk:=sb_ nk hb;replace j3:=rb_ j3 hb;have ii:=A_ (hbox);have ji6:=A_ ((g10_:w.heap.size<=ed));have gy0:=ji6;replace HB:=A_ (Jr (Fb.calls_s_q0) hb);have ac4:=nl_ gj hg;have br8:=nr_ gj hg;replace gj:=bb_ gj hb;have ai7:=nl_ hf hg;have cf2:=nr_ hf hg;replace hf:=bb_ hf hb;have tt:=nl_ f6 hg;have tu:=nr_ f6 hg;replace f6:=bb_ f6 hb;clear hb hbox hg;obtain⟨nt,k0,bm1⟩:=Kd.R_slice nj.out;subst bm1;have dc5:=br8.out;have dc6:=ac4.out;have fb7:=cf2.out;have fb8:=ai7.out;have je2:=tu.out;have je3:=tt.out;obtain⟨ao6,ao7,cj6,ao8,ao9,cj7⟩:=blk3_ ii;obtain⟨yt,yu,az2⟩:=Kd.S_slice nk.out;subst az2;obtain⟨bi5,bi6,ei7⟩:=Kd.R_slice j3.out;subst ei7;have ih8:=bb7.out;have ih9:=bb8.out;obtain⟨ae5,ae6,dr7,mc1,ae7,ae8,dr8,mc2⟩:=blk4_ hf;obtain⟨bw7,bw8,da0,bw9,bx0,da1⟩:=blk3_ f6))
  refine bodyPost_ret (Jt rfl _ _ ix 28 #[.slice nt gp.length k0, .slice yt ig.length yu, .slice bi5 fn.length bi6] (0,0) _ rfl (ba_ f6) Try.underlying28 rfl (g1_)) rfl ?_
  exact⟨_,_,_,g4_,DkS.end_ HDS HLO (g17_),Fb.calls_s_q0⟩
 rw[if_neg c5] at H
 have ki:=decide_eq_false c5
 clear c5
 obtain⟨ji24,hji24⟩:∃j_:Int,(wrap64 ((fn.length:Int) - 1))=j_:=⟨_,rfl⟩
 first|rw[hji24] at H|simp only[hji24] at H
 (try rw[hji24] at ki)
 (try rw[hji24] at A3)
 have hji24w:(IntKind.i64.wrap ((fn.length:Int) - 1))=ji24:=(i64_w _).trans hji24
 obtain⟨be9,H⟩:=pd_ H
 obtain⟨cm6,H⟩:=pd_ H
 have ca3:=eq_true (od_:0<=(ji24))
 obtain⟨lk,H⟩:=pos_ H
 have bn7:=eq_true lk
 have mc3:=decide_eq_true lk
 clear lk
 obtain⟨ej8,hyq⟩:∃y_:List (S25),y_=(fn.take ((ji24):Int).toNat):=⟨_,rfl⟩
 replace H:((Fh.f k ((Jn fn (ji24)).f0) ((Jn fn (ji24)).f1) ej8).bind fun bt549=>(some (bt549.1,bt549.2.1,bt549.2.2,true)))=some (r1,r2,r3,r4):=qh_
 have ji7:=A_ hyq
 clear hyq
 replace H:=Option.bind_eq_some_iff.mp H
 obtain⟨⟨fk8,gy1,ji8⟩,ji9,H⟩:=H
 try dsimp only at H
 have A29:=A_ ji9
 clear ji9
 simp only[Option.some.injEq,Prod.mk.injEq] at H
 obtain⟨rfl,rfl,rfl,rfl⟩:=H
 go_enter Try.func102,Try.ntmps102
 try go_wp2_with (first|((with_reducible refine gd_ 2 ?_);refine bx_ (N:=2) #[.slice ae ab.length ac, .slice ag aa.length af, .slice av ai.length au] 28 ?_;intro lg hg pv hbox hb;have gj:=A_ (hbox);have jh9:=A_ ((g10_:w.heap.size<=lg));have gx7:=jh9;replace HB:=A_ (Jr (Fb.calls_s_q0) hb);clear hb hbox hg)|((with_reducible refine gd_ 3 ?_);refine bx_ (N:=3) #[.int .i64 aq, .int .i64 am, .int .i64 an, .int .i64 ao] 69 ?_;intro lh hg w31 hbox hb;have hf:=A_ (hbox);have ji0:=A_ ((g10_:w.heap.size<=lh));have gx8:=ji0;replace HB:=A_ (Jr (Fb.calls_s_q0) hb);have dj2:=nl_ gj hg;have dj3:=nr_ gj hg;replace gj:=bb_ gj hb;clear hb hbox hg)|((with_reducible refine gd_ 4 ?_);refine bx_ (N:=4) #[.slice none 0 0, .slice none 0 0, .slice none 0 0] 28 ?_;intro ix hg w32 hbox hb;have f6:=A_ (hbox);have ji1:=A_ ((g10_:w.heap.size<=ix));have gx9:=ji1;replace HB:=A_ (Jr (Fb.calls_s_q0) hb);have at2:=nl_ gj hg;have at3:=nr_ gj hg;replace gj:=bb_ gj hb;have bb7:=nl_ hf hg;have bb8:=nr_ hf hg;replace hf:=bb_ hf hb;clear hb hbox hg;have bz8:=dj2.out;have bz9:=dj3.out;have ef0:=at2.out;have ef1:=at3.out;obtain⟨bm8,bm9,cd1,bn0,bn1,cd2⟩:=blk3_ gj)|((with_reducible refine gc_ 104 ?_);refine gl_ 12 Try.func104 #[.agg #[.slice ae ab.length ac, .slice ag aa.length af, .slice av ai.length au]] ?_;(refine(Fh.calls_s k _ _ ab _ _ aa _ _ ai gp ig fn _ (uC_ bg) bs.out (uC_ bd) bv.out (uC_ gc) gx.out A3.out).mono ?_);rintro e kn ⟨ji2,ji4,ji5,rfl,hds_,hb⟩;obtain⟨LO,HI,HLO,HDS⟩:=hds_.tk (b:=w.heap.size) (G9 (Fb.calls_s_q0));obtain⟨ah,ak,aw⟩:=hds_.tellR;clear hds_;refine⟨_,rfl,?_⟩;have nj:=A_ (Kd.R_lower ah (G9 (Fb.calls_s_q0)));have nk:=A_ (Kd.S_lower ak (G9 (Fb.calls_s_q0)));have j3:=A_ (Kd.R_lower aw (G9 (Fb.calls_s_q0)));replace gj:=bb_ gj hb;replace hf:=bb_ hf hb;replace f6:=bb_ f6 hb;replace HB:=A_ (Jr (Fb.calls_s_q0) hb))|((with_reducible refine gd_ 6 ?_);refine bx_ (N:=6) #[.slice none 0 0, .slice none 0 0, .slice none 0 0] 28 ?_;intro ed hg su hbox hb;have hd_:=DkS.mv HDS hb (g17_);clear HDS;have HDS:=hd_;clear hd_;replace nj:=rb_ nj hb;replace nk:=sb_ nk hb;replace j3:=rb_ j3 hb;have ii:=A_ (hbox);have ji6:=A_ ((g10_:w.heap.size<=ed));have gy0:=ji6;replace HB:=A_ (Jr (Fb.calls_s_q0) hb);have ac4:=nl_ gj hg;have br8:=nr_ gj hg;replace gj:=bb_ gj hb;have ai7:=nl_ hf hg;have cf2:=nr_ hf hg;replace hf:=bb_ hf hb;have tt:=nl_ f6 hg;have tu:=nr_ f6 hg;replace f6:=bb_ f6 hb;clear hb hbox hg;obtain⟨kw,jn,ap8⟩:=Kd.R_slice nj.out;subst ap8;have oq0:=br8.out;have oq1:=ac4.out;have oq2:=cf2.out;have oq3:=ai7.out;have mc4:=tu.out;have mc5:=tt.out;obtain⟨mc6,mc7,mc8,mc9,md0,md1⟩:=blk3_ ii;obtain⟨n0,na,bh2⟩:=Kd.S_slice nk.out;subst bh2;obtain⟨ep,ea,gy2⟩:=Kd.R_slice j3.out;subst gy2;have dy9:=bb7.out;have dz0:=bb8.out;obtain⟨gi8,gi9,md2,md3,gj0,gj1,md4,md5⟩:=blk4_ hf))
 generalize hw_:(((su.setCell ⟨ed,0,none⟩ (.slice kw gp.length jn)).setCell ⟨ed,1,none⟩ (.slice n0 ig.length na)).setCell ⟨ed,2,none⟩ (.slice ep fn.length ea))=w47
 have n0_:G7 (Kd.R (Kd.int .i64) 3 w47 w.heap.size (fun _=>True) (.slice kw gp.length jn) gp):=A_ (by rw[<- hw_];exact ra_ nj)
 have n1_:G7 (Kd.S (Kd.slice 3 (Kd.int .i64)) 22 w47 w.heap.size (fun k_=>some k_≠(.slice kw gp.length jn:Value).ownBlock) (.slice n0 ig.length na) ig):=A_ (by rw[<- hw_];exact sa_ nk)
 have n2_:G7 (Kd.R k25 25 w47 w.heap.size (fun k_=>some k_≠(.slice kw gp.length jn:Value).ownBlock/\some k_≠(.slice n0 ig.length na:Value).ownBlock) (.slice ep fn.length ea) fn):=A_ (by rw[<- hw_];exact ra_ j3)
 have n3_:G7 (hc_ w47 lg #[.slice ae ab.length ac, .slice ag aa.length af, .slice av ai.length au] 28):=A_ (by rw[<- hw_];exact ba_ gj)
 have n4_:G7 (hc_ w47 lh #[.int .i64 aq, .int .i64 am, .int .i64 an, .int .i64 ao] 69):=A_ (by rw[<- hw_];exact ba_ hf)
 have n5_:G7 (hc_ w47 ix #[.slice none 0 0, .slice none 0 0, .slice none 0 0] 28):=A_ (by rw[<- hw_];exact ba_ f6)
 have n6_:G7 (hc_ w47 ed #[.slice kw gp.length jn, .slice n0 ig.length na, .slice ep fn.length ea] 28):=A_ (by rw[<- hw_];exact ba_ ii)
 have n7_:G7 (Below w.heap.size w w47):=A_ (by rw[<- hw_];exact Fb.calls_s_q0)
 clear hw_
 have nj:=n0_
 have nk:=n1_
 have j3:=n2_
 have gj:=n3_
 have hf:=n4_
 have f6:=n5_
 have ii:=n6_
 have HB:=n7_
 clear n0_ n1_ n2_ n3_ n4_ n5_ n6_ n7_
 replace nj:=rd_ nj
 replace nk:=sd_ nk
 replace j3:=rd_ j3
 replace gj:=bd_ gj
 replace hf:=bd_ hf
 replace f6:=bd_ f6
 replace ii:=bd_ ii
 replace HB:=A_ (Jd HB.out)
 have ej9:0<=((ji24):Int):=od_
 have ek0:(ji24) < (fn.length:Int):=od_
 obtain⟨cu7,jj0,jj1,jj2,jj3,md6,fk9,fl0,jj4,jj5,jj6,jj7⟩:=at_T25 (Kd.R_reads' j3.out).2.2 (ji24) ej9 ek0
 cases md6
 obtain⟨ce544,hce544,hMe544,hcc544⟩:=Kd.R_get j3.out z25 (ji24) ej9 (by first|exact ek0|exact od_|(have e_:=(Kd.R_reads' j3.out).1;omega))
 obtain⟨ve544_0,ve544_1,rfl,ge544_0,ge544_1⟩:=k25_openM hMe544
 have hv544_0:=hcc544 0 _ rfl
 rw[Nat.add_zero] at hv544_0
 replace hv544_0:=Option.some.inj (hv544_0.symm.trans fk9)
 rw[hv544_0] at ge544_0
 have dj4:=A_ (show Kd.R (Kd.int .i64) 3 _ _ _ _ ((Jn fn (ji24)).f0) from ge544_0)
 clear hv544_0 ge544_0
 have hv544_1:=hcc544 1 _ rfl
 rw[add_field _ _ 1 (by omega)] at hv544_1
 replace hv544_1:=Option.some.inj (hv544_1.symm.trans fl0)
 rw[hv544_1] at ge544_1
 have ek1:=A_ (show Kd.R (Kd.slice 3 (Kd.int .i64)) 22 _ _ _ _ ((Jn fn (ji24)).f1) from ge544_1)
 clear hv544_1 ge544_1
 clear hcc544 hce544
 have dj5:=A_ jj5
 have md7:=A_ jj4
 clear jj5 jj4
 have dj6:=A_ jj7
 have md8:=A_ jj6
 clear jj7 jj6
 replace ej9:=eq_true ej9
 replace ek0:=eq_true ek0
 have q49:((ji24):Int)<=((fn.length:Int):Int):=od_
 obtain⟨i049,jj8,_,hsz49,_⟩:=info_parts info25
 have hroom49:fn.length<=ea:=(Kd.R_reads' j3.out).2.1
 have hC49:Kd.C k25 _ (some cu7) fn.length fn:=(Kd.R_reads' j3.out).2.2
 have hcut49:=cut_to (P:=Try.prog) 26 25 .i64 Try.underlying26 jj8 (some cu7) fn.length ea (ji24) (od_) q49 hroom49
 have gy3:=Kd.C_take (m:=((ji24):Int).toNat) hC49 (by omega)
 have hy49:ej8.length=((ji24):Int).toNat:=(by rw[ji7.out,List.length_take];omega)
 rw[<- ji7.out] at gy3
 rw[<- hy49] at hcut49
 have dj7:=A_ gy3
 have md9:=A_ (show ej8.length<=ea from by omega)
 clear gy3 hC49 hroom49 jj8 hsz49
 have KY49:=A_ hy49
 clear hy49
 have KL49:=A_ (show((ji24):Int).toNat<=fn.length from by omega)
 replace q49:=eq_true q49
 refine start_ (n:=13) (S:=fun w'=>w'.cell? ⟨ed,0,none⟩=some (.slice kw gp.length jn)/\w'.cell? ⟨ed,1,none⟩=some (.slice n0 ig.length na)/\w'.cell? ⟨ed,2,none⟩=some (.slice (some cu7) fn.length ea)/\w'.cell? (cu7.add (((ji24)).toNat * 2))=some (.slice jj0 ((Jn fn (ji24)).f0).length jj1)/\w'.cell? ⟨(cu7.add (((ji24)).toNat * 2)).block,(cu7.add (((ji24)).toNat * 2)).off + 1,none⟩=some (.slice jj2 ((Jn fn (ji24)).f1).length jj3)) (ds:=[]) (tl_ 13 0) (g1_) rfl (g1_) ⟨(G8 ii.out 0).trans rfl,(G8 ii.out 1).trans rfl,(G8 ii.out 2).trans rfl,fk9,fl0⟩ (fun hHeld=>?_);refine Js Fb.tab6 Fb.bits6 (fun HT_ HW_=>?_)
 generalize w47.drew=w48 at nj nk j3 gj hf f6 ii HB dj4 ek1 dj5 dj6 dj7 fk9 fl0 hHeld |-
 refine pw_ 0 23 (tl_ 13 1) ?_
 refine pw_ 2 25 (tl_ 13 5) ?_
 refine pw_ 5 28 (tl_ 13 37) ?_
 refine pw_ 7 30 (tl_ 13 165) ?_
 refine tk4_ 1 24 (tl_ 13 167) hHeld ?_
 refine pw_ 3 26 (tl_ 13 175) ?_
 refine tk4_ 4 27 (tl_ 13 191) hHeld ?_
 refine tk4_ 6 29 (tl_ 13 255) hHeld ?_
 refine pw_ 8 31 (tl_ 13 511) ?_
 refine pw_ 9 32 (tl_ 13 1023) ?_
 refine one_ (i:=10) (N:=some 33) (tl_ 13 2047) rfl rfl (Ju HT_.out (g1_)) (by decide) (fun K hK=>?_)
 refine goes_ Try.func104 (g1_) rfl #[.agg #[.slice jj0 ((Jn fn (ji24)).f0).length jj1, .slice jj2 ((Jn fn (ji24)).f1).length jj3, .slice (some cu7) ej8.length ea]] (by rfl) rfl rfl (by(try simp only[List.map_toArray,List.map_cons,List.map_nil]);first|done|(simp only[hji24];rfl)|rfl|(simp only[List.length_drop,List.length_take];rfl)) ?_
 with_reducible refine(Fh.calls_s k _ _ ((Jn fn (ji24)).f0) _ _ ((Jn fn (ji24)).f1) _ _ ej8 fk8 gy1 ji8 _ ?side1 ?side2 ?side3 ?side4 ?side5 ?side6 A29.out).mono ?_
 (case side1=>repeat(first|exact(by repeat(first|(with_reducible exact dj5.out)|(with_reducible refine Kd.C_alloc ?_ _)|(with_reducible refine Kd.C_drewN ?_ _)|(with_reducible refine Kd.C_drew ?_)|exact dj5.out))|(with_reducible refine Kd.C_alloc ?_ _)|(with_reducible refine Kd.C_drewN ?_ _)|(with_reducible refine Kd.C_drew ?_)))
 (case side2=>exact md7.out)
 (case side3=>repeat(first|exact(by repeat(first|(with_reducible exact dj6.out)|(with_reducible refine Kd.C_alloc ?_ _)|(with_reducible refine Kd.C_drewN ?_ _)|(with_reducible refine Kd.C_drew ?_)|exact dj6.out))|(with_reducible refine Kd.C_alloc ?_ _)|(with_reducible refine Kd.C_drewN ?_ _)|(with_reducible refine Kd.C_drew ?_)))
 (case side4=>exact md8.out)
 (case side5=>repeat(first|exact(by repeat(first|(with_reducible exact dj7.out)|(with_reducible refine Kd.C_alloc ?_ _)|(with_reducible refine Kd.C_drewN ?_ _)|(with_reducible refine Kd.C_drew ?_)|exact dj7.out))|(with_reducible refine Kd.C_alloc ?_ _)|(with_reducible refine Kd.C_drewN ?_ _)|(with_reducible refine Kd.C_drew ?_)))
 (case side6=>exact md9.out)
 rintro e w50 ⟨oq4,oq5,oq6,rfl,hds_,hb⟩
 obtain⟨LO,HI,HLO,HDS⟩:=hds_.tk (b:=w.heap.size) (G9 (Fb.calls_s_q0))
 obtain⟨ah,ak,aw⟩:=hds_.tellR
 clear hds_
 have HS3_:=(hb.cell (World.block_lt_of_cell? _ _ (hHeld.2.2.2.1))).trans (hHeld.2.2.2.1)
 have HS4_:=(hb.cell (World.block_lt_of_cell? _ _ (hHeld.2.2.2.2))).trans (hHeld.2.2.2.2)
 refine⟨_,rfl,?_⟩
 have me0:=A_ (Kd.R_lower (Kd.R_new' (Kd.R_new' ah (Kd.R_lt (uR_ nj))) (Kd.R_lt (uR_ dj4))) (G9 (Fb.calls_s_q0)))
 have me1:=A_ (Kd.S_lower (Kd.S_new' (Kd.S_new' (Kd.S_new' (Kd.S_new' ak (Kd.R_lt (uR_ nj))) (Kd.S_lt (uS_ nk))) (Kd.R_lt (uR_ dj4))) (Kd.R_lt (uR_ ek1))) (G9 (Fb.calls_s_q0)))
 have me2:=A_ (Kd.R_lower (Kd.R_new' (Kd.R_new' (Kd.R_new' (Kd.R_new' (Kd.R_new' aw (Kd.R_lt (uR_ nj))) (Kd.S_lt (uS_ nk))) (Kd.R_lt (uR_ j3))) (Kd.R_lt (uR_ dj4))) (Kd.R_lt (uR_ ek1))) (G9 (Fb.calls_s_q0)))
 replace nj:=A_ (Kd.R_elder' (uR_ nj) (Kd.R_base ah) hb)
 replace nk:=A_ (Kd.S_mono (Kd.S_told (Kd.S_told (Kd.S_old (uS_ nk) hb) (Kd.R_base ah)) (Kd.S_base ak)) (fun _ h_=>h_.1))
 replace j3:=A_ (Kd.R_mono (Kd.R_told (Kd.R_told (Kd.R_told (Kd.R_old (uR_ j3) hb) (Kd.R_base ah)) (Kd.S_base ak)) (Kd.R_base aw)) (fun _ h_=>h_.1))
 replace dj4:=A_ (Kd.R_elder' (uR_ dj4) (Kd.R_base ah) hb)
 replace ek1:=A_ (Kd.R_mono (Kd.R_told (Kd.R_told (Kd.R_old (uR_ ek1) hb) (Kd.R_base ah)) (Kd.S_base ak)) (fun _ h_=>h_.1))
 replace gj:=bb_ gj hb
 replace hf:=bb_ hf hb
 replace f6:=bb_ f6 hb
 replace ii:=bb_ ii hb
 replace dj5:=A_ (Kd.C_below (by repeat(first|(with_reducible exact dj5.out)|(with_reducible refine Kd.C_alloc ?_ _)|(with_reducible refine Kd.C_drewN ?_ _)|(with_reducible refine Kd.C_drew ?_)|exact dj5.out)) hb)
 replace dj6:=A_ (Kd.C_below (by repeat(first|(with_reducible exact dj6.out)|(with_reducible refine Kd.C_alloc ?_ _)|(with_reducible refine Kd.C_drewN ?_ _)|(with_reducible refine Kd.C_drew ?_)|exact dj6.out)) hb)
 replace dj7:=A_ (Kd.C_below (by repeat(first|(with_reducible exact dj7.out)|(with_reducible refine Kd.C_alloc ?_ _)|(with_reducible refine Kd.C_drewN ?_ _)|(with_reducible refine Kd.C_drew ?_)|exact dj7.out)) hb)
 replace HB:=A_ (Jr (Fb.calls_s_q0) hb)
 obtain⟨b4,bx,df6⟩:=Kd.R_slice me0.out
 (first|subst df6|(injection df6 with f1_ f2_ f3_;have f4_:=f1_.symm;have f5_:=f3_.symm;clear f1_ f2_ f3_;subst f4_;subst f5_))
 obtain⟨rf,rg,fl1⟩:=Kd.S_slice me1.out
 (first|subst fl1|(injection fl1 with f1_ f2_ f3_;have f4_:=f1_.symm;have f5_:=f3_.symm;clear f1_ f2_ f3_;subst f4_;subst f5_))
 obtain⟨xh,vt,cp0⟩:=Kd.R_slice me2.out
 (first|subst cp0|(injection cp0 with f1_ f2_ f3_;have f4_:=f1_.symm;have f5_:=f3_.symm;clear f1_ f2_ f3_;subst f4_;subst f5_))
 refine hK.out _ _ ⟨(G8 ii.out 0).trans rfl,(G8 ii.out 1).trans rfl,(G8 ii.out 2).trans rfl,HS3_,HS4_⟩ (fun hHeld=>?_)
 clear hK K
 refine nm_ ?_
 refine one_ (i:=11) (N:=none) (tl_ 13 4095) rfl rfl (Ju HT_.out (g1_)) (by decide) (fun K hK=>?_)
 have oq7:w50.cell? ⟨ix,0,none⟩=some (.slice none 0 0):=(G8 f6.out 0).trans rfl
 have oq8:=Jj f6.out 0
 have oq9:=at2.out
 have or0:=bb7.out
 have or1:=tu.out
 have or2:=at3.out
 have or3:=bb8.out
 have or4:=tt.out
 have or5:w50.cell? ⟨ix,1,none⟩=some (.slice none 0 0):=(G8 f6.out 1).trans rfl
 have or6:=Jj f6.out 1
 have ks1:w50.cell? ⟨ix,2,none⟩=some (.slice none 0 0):=(G8 f6.out 2).trans rfl
 have ks2:=Jj f6.out 2
 refine skip_ (w1:=?_) (by rfl) rfl ?_ ?_
 rotate_left
 ·go_simp
  rfl
 refine hK.out _ _ ⟨(cf_ tu ((cf_ tu ((cf_ tu (hHeld.1)))))),(cf_ tu ((cf_ tu ((cf_ tu (hHeld.2.1)))))),(cf_ tu ((cf_ tu ((cf_ tu (hHeld.2.2.1)))))),((cell_far (p:=⟨ix,_,none⟩) (g84_) _).trans (((cell_far (p:=⟨ix,_,none⟩) (g84_) _).trans (((cell_far (p:=⟨ix,_,none⟩) (g84_) _).trans (hHeld.2.2.2.1)))))),((cell_far (p:=⟨ix,_,none⟩) (g84_) _).trans (((cell_far (p:=⟨ix,_,none⟩) (g84_) _).trans (((cell_far (p:=⟨ix,_,none⟩) (g84_) _).trans (hHeld.2.2.2.2))))))⟩ (fun hHeld=>?_)
 clear hK K
 refine pw_ 12 5 (tl_ 13 8191) ?_
 refine done_ (done_of HT_.out (g1_)) ?_
 try go_wp2
 refine bodyPost_ret (Jt rfl _ _ ix 28 #[.slice b4 fk8.length bx, .slice rf gy1.length rg, .slice xh ji8.length vt] (0,0) _ rfl (ba_ f6) Try.underlying28 rfl (g1_)) rfl ?_
 exact⟨_,_,_,by first|rfl|(simp[errW_none,errW_some] <;> rfl)|(simp only[<- hji24];first|rfl|(simp[errW_none,errW_some] <;> rfl))|(simp[*,errW_none,errW_some] <;> rfl),DkS.end_ HDS HLO (g17_),Fb.calls_s_q0⟩
def F2.f (k:Nat) (ab:List Int) (aa:List (List Int)) (ai:List (S25)) (aq:Int) (am:Int) (an:Int) (ao:Int):Option (List Int × (List (List Int)) × (List (S25)) × Bool):=(F5.f k ab aa ai).bind fun el5=>(if el5=true then((Fb.f k ab aa ai aq am an ao).bind fun bt595=>(some (bt595.1,bt595.2.1,bt595.2.2.1,bt595.2.2.2))) else(some (([]:List Int),([]:List (List Int)),([]:List (S25)),false)))
theorem F2.calls_s_q0 {p:Prop} (h:p:=by repeat(first|(with_reducible first|exact HB.out|apply Jf|apply Je|apply Jd|refine Jc ?_ jm1.out|refine Jc ?_ jm2.out|refine Jc ?_ jm3.out)|exact HB.out)):p:=h
set_option maxHeartbeats 8000000 in
set_option maxRecDepth 100000 in
theorem F2.calls_s (k:Nat) (ae:Option Addr) (ac:Nat) (ab:List Int) (ag:Option Addr) (af:Nat) (aa:List (List Int)) (av:Option Addr) (au:Nat) (ai:List (S25)) (aq:Int) (am:Int) (an:Int) (ao:Int) (r1:List Int) (r2:List (List Int)) (r3:List (S25)) (r4:Bool) (w:World) (ca:Kd.C (Kd.int .i64) w ae ab.length ab) (ce:ab.length<=ac) (cb:Kd.C (Kd.slice 3 (Kd.int .i64)) w ag aa.length aa) (cg:aa.length<=af) (g8:Kd.C k25 w av ai.length ai) (g9:ai.length<=au) (h:F2.f k ab aa ai aq am an ao=some (r1,r2,r3,r4)) :
  Calls Try.prog 56 #[.agg #[.slice ae ab.length ac, .slice ag aa.length af, .slice av ai.length au], .agg #[.int .i64 aq, .int .i64 am, .int .i64 an, .int .i64 ao]] w fun e w'=>∃v0_ v1_ v2_:Value,e = .returned (.tuple #[.agg #[v0_,v1_,v2_], .bool r4])/\DkS w.heap.size w.heap.size w'.heap.size v0_ v1_ v2_ r1 r2 r3 w'/\Below w.heap.size w w':=by
 have hu28:=Try.underlying28
 have hu69:=Try.underlying69
 have bg:=A_ ca
 have bs:=A_ ce
 clear ca ce
 have bd:=A_ cb
 have bv:=A_ cg
 clear cb cg
 have gc:=A_ g8
 have gx:=A_ g9
 clear g8 g9
 have HB:=A_ (Below.refl w.heap.size w)
 have H:=h
 unfold F2.f at H
 clear h
 obtain⟨el5,A3,H⟩:=bind_ H
 by_cases c4:el5=true
 ·subst c4
  replace H:=ifp_ H
  replace H:=Option.bind_eq_some_iff.mp H
  obtain⟨⟨fm2,gz2,jm4,mh4⟩,A50,H⟩:=H
  try dsimp only at H
  have A5:=A_ A50
  clear A50
  simp only[Option.some.injEq,Prod.mk.injEq] at H
  obtain⟨rfl,rfl,rfl,rfl⟩:=H
  go_enter Try.func56,Try.ntmps56
  go_wp2_with (first|((with_reducible refine gd_ 2 ?_);refine bx_ (N:=2) #[.slice ae ab.length ac, .slice ag aa.length af, .slice av ai.length au] 28 ?_;intro ac5 hg w6 hbox hb;have ta:=A_ (hbox);have mh5:=A_ ((g28_:w.heap.size<=ac5));have jm1:=mh5;replace HB:=A_ (Jr (F2.calls_s_q0) hb);clear hb hbox hg)|((with_reducible refine gd_ 3 ?_);refine bx_ (N:=3) #[.int .i64 aq, .int .i64 am, .int .i64 an, .int .i64 ao] 69 ?_;intro xt hg w7 hbox hb;have xu:=A_ (hbox);have mh6:=A_ ((g28_:w.heap.size<=xt));have jm2:=mh6;replace HB:=A_ (Jr (F2.calls_s_q0) hb);have gz3:=nl_ ta hg;have gz4:=nr_ ta hg;replace ta:=bb_ ta hb;clear hb hbox hg)|((with_reducible refine gd_ 4 ?_);refine bx_ (N:=4) #[.slice none 0 0, .slice none 0 0, .slice none 0 0] 28 ?_;intro ac6 hg w8 hbox hb;have at5:=A_ (hbox);have mh7:=A_ ((g28_:w.heap.size<=ac6));have jm3:=mh7;replace HB:=A_ (Jr (F2.calls_s_q0) hb);have gz5:=nl_ ta hg;have gz6:=nr_ ta hg;replace ta:=bb_ ta hb;have gz7:=nl_ xu hg;have gz8:=nr_ xu hg;replace xu:=bb_ xu hb;clear hb hbox hg;have cz0:=gz3.out;have cz1:=gz4.out;have cr9:=gz5.out;have cs0:=gz6.out;obtain⟨si,sj,aw4,sk,sl,aw5⟩:=blk3_ ta)|((with_reducible refine gc_ 72 ?_);refine gl_ 7 Try.func72 #[.agg #[.slice ae ab.length ac, .slice ag aa.length af, .slice av ai.length au]] ?_;(refine(F5.calls k _ _ ab _ _ aa _ _ ai true _ (uC_ bg) bs.out (uC_ bd) bv.out (uC_ gc) gx.out A3.out).mono ?_);rintro e t5 ⟨rfl,hb⟩;refine⟨_,rfl,?_⟩;replace ta:=bb_ ta hb;replace xu:=bb_ xu hb;replace at5:=bb_ at5 hb;replace HB:=A_ (Jr (F2.calls_s_q0) hb);obtain⟨sm,sn,bw5,so,sp,bw6⟩:=blk3_ ta;have do5:=gz7.out;have do6:=gz8.out;obtain⟨ch0,ch1,fs6,mh8,ch2,ch3,fs7,mh9⟩:=blk4_ xu)|((with_reducible refine gc_ 102 ?_);refine gl_ 12 Try.func102 #[.agg #[.slice ae ab.length ac, .slice ag aa.length af, .slice av ai.length au], .agg #[.int .i64 aq, .int .i64 am, .int .i64 an, .int .i64 ao]] ?_;(refine(Fb.calls_s k _ _ ab _ _ aa _ _ ai aq am an ao fm2 gz2 jm4 mh4 _ (uC_ bg) bs.out (uC_ bd) bv.out (uC_ gc) gx.out A5.out).mono ?_);rintro e pu ⟨oy7,oy8,oy9,rfl,hds_,hb⟩;obtain⟨LO,HI,HLO,HDS⟩:=hds_.tk (b:=w.heap.size) (G9 (F2.calls_s_q0));obtain⟨ah,ak,aw⟩:=hds_.tellR;clear hds_;refine⟨_,rfl,?_⟩;have mi0:=A_ (Kd.R_lower ah (G9 (F2.calls_s_q0)));have mi1:=A_ (Kd.S_lower ak (G9 (F2.calls_s_q0)));have mi2:=A_ (Kd.R_lower aw (G9 (F2.calls_s_q0)));replace ta:=bb_ ta hb;replace xu:=bb_ xu hb;replace at5:=bb_ at5 hb;replace HB:=A_ (Jr (F2.calls_s_q0) hb);obtain⟨fz,f4,ax4⟩:=Kd.R_slice mi0.out;subst ax4;obtain⟨ao6,ao7,cj6,ao8,ao9,cj7⟩:=blk3_ at5;obtain⟨yt,yu,az2⟩:=Kd.S_slice mi1.out;subst az2;obtain⟨bi5,bi6,ei7⟩:=Kd.R_slice mi2.out;subst ei7))
  refine bodyPost_ret (Jt rfl _ _ ac6 28 #[.slice fz fm2.length f4, .slice yt gz2.length yu, .slice bi5 jm4.length bi6] (0,0) _ rfl (ba_ at5) Try.underlying28 rfl (g1_)) rfl ?_
  exact⟨_,_,_,g4_,DkS.end_ HDS HLO (by intro x_;repeat(first|(with_reducible exact x_)|(with_reducible refine DkS.alloc ?_ _)|(with_reducible refine DkS.drewN ?_ _)|(with_reducible refine DkS.drew ?_)|(refine DkS.setT ?_ (by repeat(first|(with_reducible refine Ty0.set ?_ _)|exact Ty0.of ta.out (by decide)|exact Ty0.of xu.out (by decide)|exact Ty0.of at5.out (by decide))) _))),F2.calls_s_q0⟩
 replace c4:=Bool.eq_false_iff.mpr c4
 subst c4
 replace H:=ifn_ H
 simp only[Option.some.injEq,Prod.mk.injEq] at H
 obtain⟨rfl,rfl,rfl,rfl⟩:=H
 go_enter Try.func56,Try.ntmps56
 go_wp2_with (first|((with_reducible refine gd_ 2 ?_);refine bx_ (N:=2) #[.slice ae ab.length ac, .slice ag aa.length af, .slice av ai.length au] 28 ?_;intro ac5 hg w21 hbox hb;have ta:=A_ (hbox);have mh5:=A_ ((g28_:w.heap.size<=ac5));have jm1:=mh5;replace HB:=A_ (Jr (F2.calls_s_q0) hb);clear hb hbox hg)|((with_reducible refine gd_ 3 ?_);refine bx_ (N:=3) #[.int .i64 aq, .int .i64 am, .int .i64 an, .int .i64 ao] 69 ?_;intro xt hg uj hbox hb;have xu:=A_ (hbox);have mh6:=A_ ((g28_:w.heap.size<=xt));have jm2:=mh6;replace HB:=A_ (Jr (F2.calls_s_q0) hb);have gz3:=nl_ ta hg;have gz4:=nr_ ta hg;replace ta:=bb_ ta hb;clear hb hbox hg)|((with_reducible refine gd_ 4 ?_);refine bx_ (N:=4) #[.slice none 0 0, .slice none 0 0, .slice none 0 0] 28 ?_;intro ac6 hg w23 hbox hb;have at5:=A_ (hbox);have mh7:=A_ ((g28_:w.heap.size<=ac6));have jm3:=mh7;replace HB:=A_ (Jr (F2.calls_s_q0) hb);have gz5:=nl_ ta hg;have gz6:=nr_ ta hg;replace ta:=bb_ ta hb;have gz7:=nl_ xu hg;have gz8:=nr_ xu hg;replace xu:=bb_ xu hb;clear hb hbox hg;have fc0:=gz3.out;have fc1:=gz4.out;have gm0:=gz5.out;have gm1:=gz6.out;obtain⟨mi3,mi4,mi5,mi6,mi7,mi8⟩:=blk3_ ta)|((with_reducible refine gc_ 72 ?_);refine gl_ 7 Try.func72 #[.agg #[.slice ae ab.length ac, .slice ag aa.length af, .slice av ai.length au]] ?_;(refine(F5.calls k _ _ ab _ _ aa _ _ ai false _ (uC_ bg) bs.out (uC_ bd) bv.out (uC_ gc) gx.out A3.out).mono ?_);rintro e w27 ⟨rfl,hb⟩;refine⟨_,rfl,?_⟩;replace ta:=bb_ ta hb;replace xu:=bb_ xu hb;replace at5:=bb_ at5 hb;replace HB:=A_ (Jr (F2.calls_s_q0) hb);have dc2:=gz8.out;have dc3:=gz7.out;obtain⟨da2,da3,fq9,da4,da5,fr0⟩:=blk3_ at5))
 refine bodyPost_ret (Jt rfl _ _ ac6 28 #[.slice none 0 0, .slice none 0 0, .slice none 0 0] (0,0) _ rfl (ba_ at5) Try.underlying28 rfl (g1_)) rfl ?_
 exact⟨_,_,_,g4_,DkS.nil _ (G9 (F2.calls_s_q0)) (G9 (F2.calls_s_q0)),F2.calls_s_q0⟩
def F6.f (a0:Int) (a1:Int) (a2:Int):Option (Bool):=if a0 ≥ a1 then(some (decide (a0<=a2))) else(some false)
set_option maxHeartbeats 8000000 in
set_option maxRecDepth 100000 in
theorem F6.calls (a0:Int) (a1:Int) (a2:Int) (r:Bool) (w:World) (h:F6.f a0 a1 a2=some r) :
  Calls Try.prog 65 #[.int .i64 a0, .int .i64 a1, .int .i64 a2] w fun e w'=>e = .returned (.bool r)/\Drawn0 w w':=by
 have H:=h
 unfold F6.f at H
 clear h
 by_cases c4:a0 ≥ a1
 ·rw[if_pos c4] at H
  have ib:=decide_eq_true c4
  clear c4
  obtain rfl:=Option.some.inj H
  go_enter Try.func65,Try.ntmps65
  go_wp2
  go_ret
  exact⟨g3_,g5_⟩
 rw[if_neg c4] at H
 have ib:=decide_eq_false c4
 clear c4
 obtain rfl:=Option.some.inj H
 go_enter Try.func65,Try.ntmps65
 go_wp2
 go_ret
 exact⟨g3_,g5_⟩
mutual
def Fg.j0:Nat->Bool->List Int->List (List Int)->Option (Bool)
 | 0,_,_,_=>none
 | k + 1,x18,ak2,xb=>if x18=true then(some false) else(Fg.l0 k 0 ak2 xb)
def Fg.l0:Nat->Int->List Int->List (List Int)->Option (Bool)
 | 0,_,_,_=>none
 | k + 1,x3,ak2,xb=>if x3 < (ak2.length:Int) then(if 0<=x3 then((F6.f (rd ak2 x3) 0 20).bind fun fw4=>(if fw4=true then(if x3 < (xb.length:Int) then(if ((Jm xb x3).length:Int)=(ak2.length:Int) then(if x3 < ((Jm xb x3).length:Int) then(Fg.j2 k x3 ((rd (Jm xb x3) x3) != 0) ak2 xb) else(none)) else(Fg.j2 k x3 true ak2 xb)) else(none)) else(Fg.j2 k x3 true ak2 xb))) else(none)) else(some true)
def Fg.j2:Nat->Int->Bool->List Int->List (List Int)->Option (Bool)
 | 0,_,_,_,_=>none
 | k + 1,x3,x55,ak2,xb=>if x55=true then(some false) else(Fg.l1 k x3 0 ak2 xb)
def Fg.l1:Nat->Int->Int->List Int->List (List Int)->Option (Bool)
 | 0,_,_,_,_=>none
 | k + 1,x3,x4,ak2,xb=>if 0<=x3 then(if x3 < (xb.length:Int) then(if x4 < ((Jm xb x3).length:Int) then(if 0<=x4 then((F6.f (rd (Jm xb x3) x4) 0 9).bind fun fw5=>(if fw5=true then(Fg.l1 k x3 (wrap64 (x4 + 1)) ak2 xb) else(some false))) else(none)) else(Fg.l0 k (wrap64 (x3 + 1)) ak2 xb)) else(none)) else(none)
end
def Fg.f (k:Nat) (ab:List Int) (aa:List (List Int)):Option (Bool):=(F6.f (ab.length:Int) 1 4).bind fun dv1=>(if dv1=true then(Fg.j0 k ((aa.length:Int) != (ab.length:Int)) ab aa) else(Fg.j0 k true ab aa))
def Fg.T6:Bool × List (List Nat × List Nat):=(true,[([],[]),([0],[0]),([],[]),([1,2],[1,2]),([3],[3]),([4],[4]),([5],[5]),([6,5],[6]),([7],[7]),([8,7],[7,8]),([7],[7]),([9,10,7],[7,9,10]),([11,7],[7,11]),([12,7],[7,12]),([7],[7]),([14,7],[7,14]),([15,7],[7,15]),([13,16,7],[7,13,16]),([7,17],[7,17]),([18,7],[18]),([19],[19]),([20,19],[19,20]),([19],[19]),([21,22,19],[19,21,22]),([23,19],[19,23]),([19],[19]),([24,25,19],[19,24,25]),([26,19],[19,26]),([27,19],[19,27]),([19,28],[19,28])])
def Fg.B6:List Nat:=[0,1,0,7,15,31,63,127,255,511,255,2047,4095,8191,255,16639,49407,131071,262143,524287,1048575,2097151,1048575,8388607,16777215,1048575,67108863,134217727,268435455,536870911]
theorem Fg.tab6:rtab .any (opsOf Try.f42 6)=Fg.T6:=by kernel_rfl
theorem Fg.bits6:waitsOk Fg.T6.2 Fg.B6=true:=by kernel_rfl
theorem zr {p:Prop} (h:p:=by repeat(first|(with_reducible first|exact HB.out|apply Jf|apply Je|apply Jd|refine Jc ?_ ka4.out)|exact HB.out)):p:=h
set_option maxHeartbeats 8000000 in
set_option maxRecDepth 100000 in
theorem Fg.calls (k:Nat) (ae:Option Addr) (ac:Nat) (ab:List Int) (ag:Option Addr) (af:Nat) (aa:List (List Int)) (r:Bool) (w:World) (ca:Kd.C (Kd.int .i64) w ae ab.length ab) (ce:ab.length<=ac) (cb:Kd.C (Kd.slice 3 (Kd.int .i64)) w ag aa.length aa) (cg:aa.length<=af) (h:Fg.f k ab aa=some r) :
  Calls Try.prog 42 #[.agg #[.slice ae ab.length ac, .slice ag aa.length af]] w fun e w'=>e = .returned (.bool r)/\Below w.heap.size w w':=by
 have hu25:=Try.underlying25
 have bg:=A_ ca
 have bs:=A_ ce
 clear ca ce
 have bd:=A_ cb
 have bv:=A_ cg
 clear cb cg
 have HB:=A_ (Below.refl w.heap.size w)
 have H:=h
 unfold Fg.f at H
 clear h
 have zz:=A_ H
 clear H
 go_enter Try.func42,Try.ntmps42
 go_upto_region 1 with(first|((with_reducible refine gd_ 1 ?_);(try(refine gate_guard (by rfl) ?_;dsimp only));refine bx_ (N:=1) #[.slice ae ab.length ac, .slice ag aa.length af] 25 ?_;intro ap2 hg w3 hbox hb;have ke:=A_ (hbox);have ng5:=A_ ((by rw[hg];exact(G9 (zr)):w.heap.size<=ap2));have ka4:=ng5;replace HB:=hs_ (zr) hb;clear hb hbox hg))
 (try simp only[Act.put,List.setIfInBounds_toArray,List.set_cons_zero,List.set_cons_succ])
 go_cut [18] (fun v18 wc=>∃(kq:Nat) (es3:Bool),v18 = .bool es3/\G7 (Fg.j0 kq es3 ab aa=some r)/\G7 (kq<=k)/\G7 (hc_ wc ap2 #[(.slice ae ab.length ac),(.slice ag aa.length af)] 25)/\G7 (Below w.heap.size w wc))
 case first=>
  have H:=zz.out
  clear zz
  obtain⟨dv1,A4,H⟩:=bind_ H
  by_cases c5:dv1=true
  ·subst c5
   replace H:=ifp_ H
   have H':=A_ H
   clear H
   obtain⟨uf,ug,uh,ui⟩:=blk2_ ke
   go_wp2_with (first|((with_reducible refine gc_ 65 ?_);refine gl_ 8 Try.func65 #[.int .i64 (ab.length:Int), .int .i64 1, .int .i64 4] ?_;(with_reducible refine(F6.calls (ab.length:Int) 1 4 true _ A4.out).mono ?_);rintro e w' ⟨rfl,⟨nd,rfl⟩⟩;refine⟨_,rfl,?_⟩))
   go_meet
   case rel=>exact⟨_,(((aa.length:Int) != (ab.length:Int))),(g3_),H',⟨g9_⟩,⟨uB_ ke⟩,⟨zr⟩⟩
  replace c5:=Bool.eq_false_iff.mpr c5
  subst c5
  replace H:=ifn_ H
  have H':=A_ H
  clear H
  obtain⟨z8,z9,aa0,aa1⟩:=blk2_ ke
  go_wp2_with (first|((with_reducible refine gc_ 65 ?_);refine gl_ 8 Try.func65 #[.int .i64 (ab.length:Int), .int .i64 1, .int .i64 4] ?_;(with_reducible refine(F6.calls (ab.length:Int) 1 4 false _ A4.out).mono ?_);rintro e w' ⟨rfl,⟨nd,rfl⟩⟩;refine⟨_,rfl,?_⟩))
  go_meet
  case rel=>exact⟨_,(true),(g3_),H',⟨g9_⟩,⟨uB_ ke⟩,⟨zr⟩⟩
 clear zz
 obtain⟨kq,es3,rfl,HA,HJ1,ke,HB⟩:=hcut
 cases kq with
 | zero=>exact absurd HA.out (by simp[Fg.j0])
 | succ kj1=>?_
 have H:=HA.out
 clear HA
 simp only[Fg.j0] at H
 by_cases c8:es3=true
 ·subst c8
  replace H:=ifp_ H
  obtain rfl:=Option.some.inj H
  go_wp2
  go_ret
  exact⟨g4_,zr⟩
 replace c8:=Bool.eq_false_iff.mpr c8
 subst c8
 replace H:=ifn_ H
 have H':=A_ H
 clear H
 go_wp2
 go_loopg [3] kj1 (fun kq v3 w'=>∃(d9:Int),v3 = .int .i64 d9/\G7 (Fg.l0 kq d9 ab aa=some r)/\G7 (kq<=kj1)/\G7 (hc_ w' ap2 #[(.slice ae ab.length ac),(.slice ag aa.length af)] 25)/\G7 (Below w.heap.size w w'))
 case atStart=>exact⟨(0),(g3_),H',⟨Nat.le_refl _⟩,⟨uB_ ke⟩,⟨zr⟩⟩
 clear H'
 obtain⟨d9,rfl,HA,HK2,ke,HB⟩:=hrel
 cases gk with
 | zero=>exact absurd HA.out (by simp[Fg.l0])
 | succ k2=>?_
 have H:=HA.out
 clear HA
 simp only[Fg.l0] at H
 by_cases c9:d9 < (ab.length:Int)
 case neg=>
  rw[if_neg c9] at H
  have wy:=decide_eq_false c9
  clear c9
  obtain rfl:=Option.some.inj H
  obtain⟨cl0,cl1,cl2,cl3⟩:=blk2_ ke
  go_wp2
  go_ret
  exact⟨g4_,zr⟩
 rw[if_pos c9] at H
 have wy:=decide_eq_true c9
 clear c9
 have fw6:=A_ H
 clear H
 obtain⟨si,sj,sk,sl⟩:=blk2_ ke
 go_upto_region 6 with(fail)
 go_cut [55] (fun v55 wc=>∃(kq:Nat) (es4:Bool),v55 = .bool es4/\G7 (Fg.j2 kq d9 es4 ab aa=some r)/\G7 (kq<=k2)/\G7 (hc_ wc ap2 #[(.slice ae ab.length ac),(.slice ag aa.length af)] 25)/\G7 (Below w.heap.size w wc))
 case first=>
  have H:=fw6.out
  clear fw6
  obtain⟨ap3,H⟩:=pd_ H
  (first|rw[ap3]|(simp only[i64_w,i32_w];rw[ap3])|skip)
  obtain⟨fw4,A13,H⟩:=bind_ H
  by_cases jh:fw4=true
  case neg=>
   replace jh:=Bool.eq_false_iff.mpr jh
   subst jh
   replace H:=ifn_ H
   have H':=A_ H
   clear H
   try go_wp2
   replace ke:=bd_ ke
   replace HB:=A_ (Jd HB.out)
   obtain⟨⟨by2,dv2,yk⟩,ak4,ak5⟩:=rdp_ (Kd.at_int bg.out d9)
   have by3:=yk
   cases dv2
   replace yk:=cl_ HB yk
   refine start_ (n:=30) (S:=fun w'=>w'.cell? ⟨ap2,0,none⟩=some (.slice (some by2) ab.length ac)/\w'.cell? ⟨ap2,1,none⟩=some (.slice ag aa.length af)/\w'.cell? (by2.add (d9).toNat)=some (.int .i64 (rd ab d9))) (ds:=[]) (tl_ 30 0) (g1_) rfl (g1_) ⟨(G8 ke.out 0).trans rfl,(G8 ke.out 1).trans rfl,((cl_ HB by3).trans rfl)⟩ (fun hHeld=>?_);refine Js Fg.tab6 Fg.bits6 (fun HT_ HW_=>?_)
   generalize wr.drew=w20 at ke HB yk hHeld |-
   refine pw_ 0 26 (tl_ 30 1) ?_
   refine pw_ 2 28 (tl_ 30 5) ?_
   refine tk2_ 1 27 (tl_ 30 7) hHeld ?_
   refine pw_ 3 29 (tl_ 30 15) ?_
   refine tk2_ 4 30 (tl_ 30 31) hHeld ?_
   refine one_ (i:=5) (N:=some 31) (tl_ 30 63) rfl rfl (Ju HT_.out (g1_)) (by decide) (fun K hK=>?_)
   refine goes_ Try.func65 (g1_) rfl #[.int .i64 (rd ab d9), .int .i64 0, .int .i64 20] (by rfl) rfl rfl (gM_) ?_
   with_reducible refine(F6.calls (rd ab d9) 0 20 false _ A13.out).mono ?_
   rintro e w' ⟨rfl,⟨nd,rfl⟩⟩
   refine⟨_,rfl,?_⟩
   refine hK.out _ _ ⟨(G8 ke.out 0).trans rfl,(G8 ke.out 1).trans rfl,((cl_ HB by3).trans rfl)⟩ (fun hHeld=>?_)
   clear hK K
   refine nm_ ?_
   refine pw_ 6 32 (tl_ 30 127) ?_
   refine pw_ 7 33 (tl_ 30 255) ?_
   refine pu_ 8 34 (tl_ 30 511) ?_
   refine pu_ 9 35 (tl_ 30 1023) ?_
   refine pu_ 10 36 (tl_ 30 2047) ?_
   refine pu_ 11 37 (tl_ 30 4095) ?_
   refine pu_ 12 38 (tl_ 30 8191) ?_
   refine pu_ 13 39 (tl_ 30 16383) ?_
   refine pu_ 14 40 (tl_ 30 32767) ?_
   refine pu_ 15 41 (tl_ 30 65535) ?_
   refine pu_ 16 42 (tl_ 30 131071) ?_
   refine pu_ 17 43 (tl_ 30 262143) ?_
   refine pw_ 18 44 (tl_ 30 524287) ?_
   refine pw_ 19 45 (tl_ 30 1048575) ?_
   refine pu_ 20 46 (tl_ 30 2097151) ?_
   refine pu_ 21 47 (tl_ 30 4194303) ?_
   refine pu_ 22 48 (tl_ 30 8388607) ?_
   refine pu_ 23 49 (tl_ 30 16777215) ?_
   refine pu_ 24 50 (tl_ 30 33554431) ?_
   refine pu_ 25 51 (tl_ 30 67108863) ?_
   refine pu_ 26 52 (tl_ 30 134217727) ?_
   refine pu_ 27 53 (tl_ 30 268435455) ?_
   refine pu_ 28 54 (tl_ 30 536870911) ?_
   refine pw_ 29 55 (tl_ 30 1073741823) ?_
   refine done_ (done_of HT_.out (g1_)) ?_
   try go_wp2
   go_meet
   case rel=>exact⟨_,(true),(g3_),H',⟨g52_⟩,⟨uB_ ke⟩,⟨zr⟩⟩
  subst jh
  replace H:=ifp_ H
  obtain⟨pc,H⟩:=pd_ H
  by_cases i8:((Jm aa d9).length:Int)=(ab.length:Int)
  case neg=>
   rw[if_neg i8] at H
   have af8:(((Jm aa d9).length:Int) == (ab.length:Int))=false:=beq_eq_false_iff_ne.mpr i8
   have fw7:(((Jm aa d9).length:Int) != (ab.length:Int))=true:=bne_iff_ne.mpr i8
   have fw8:((Jm aa d9).length == ab.length)=false:=by first|simpa using i8|(simp at i8 |-;omega)
   have H':=A_ H
   clear H
   try go_wp2
   replace ke:=bd_ ke
   replace HB:=A_ (Jd HB.out)
   obtain⟨⟨by2,dv2,yk⟩,ak4,ak5⟩:=rdp_ (Kd.at_int bg.out d9)
   have by3:=yk
   cases dv2
   replace yk:=cl_ HB yk
   obtain⟨⟨ck4,hr5,es5,fw9,ap4,dv3,dv4⟩,bm2,bm3⟩:=rdp_ (at_L1 bd.out d9)
   have dv5:=ap4
   cases fw9
   replace ap4:=cl_ HB ap4
   have fx0:=A_ dv4
   have ka5:=A_ dv3
   clear dv4 dv3
   refine start_ (n:=30) (S:=fun w'=>w'.cell? ⟨ap2,0,none⟩=some (.slice (some by2) ab.length ac)/\w'.cell? ⟨ap2,1,none⟩=some (.slice (some ck4) aa.length af)/\w'.cell? (by2.add (d9).toNat)=some (.int .i64 (rd ab d9))/\w'.cell? (ck4.add (d9).toNat)=some (.slice hr5 (Jm aa d9).length es5)) (ds:=[]) (tl_ 30 0) (g1_) rfl (g1_) ⟨(G8 ke.out 0).trans rfl,(G8 ke.out 1).trans rfl,((cl_ HB by3).trans rfl),((cl_ HB dv5).trans rfl)⟩ (fun hHeld=>?_);refine Js Fg.tab6 Fg.bits6 (fun HT_ HW_=>?_)
   generalize wr.drew=w19 at ke HB fx0 yk ap4 hHeld |-
   refine pw_ 0 26 (tl_ 30 1) ?_
   refine pw_ 2 28 (tl_ 30 5) ?_
   refine tk0_ 1 27 (tl_ 30 7) hHeld ?_
   refine pw_ 3 29 (tl_ 30 15) ?_
   refine tk0_ 4 30 (tl_ 30 31) hHeld ?_
   refine one_ (i:=5) (N:=some 31) (tl_ 30 63) rfl rfl (Ju HT_.out (g1_)) (by decide) (fun K hK=>?_)
   refine goes_ Try.func65 (g1_) rfl #[.int .i64 (rd ab d9), .int .i64 0, .int .i64 20] (by rfl) rfl rfl (gM_) ?_
   with_reducible refine(F6.calls (rd ab d9) 0 20 true _ A13.out).mono ?_
   rintro e w' ⟨rfl,⟨nd,rfl⟩⟩
   refine⟨_,rfl,?_⟩
   refine hK.out _ _ ⟨(G8 ke.out 0).trans rfl,(G8 ke.out 1).trans rfl,((cl_ HB by3).trans rfl),((cl_ HB dv5).trans rfl)⟩ (fun hHeld=>?_)
   clear hK K
   refine nm_ ?_
   refine pw_ 6 32 (tl_ 30 127) ?_
   refine pw_ 7 33 (tl_ 30 255) ?_
   refine pw_ 8 34 (tl_ 30 511) ?_
   refine pw_ 10 36 (tl_ 30 1535) ?_
   refine pw_ 14 40 (tl_ 30 17919) ?_
   refine tk0_ 9 35 (tl_ 30 18431) hHeld ?_
   refine pw_ 11 37 (tl_ 30 20479) ?_
   refine tk0_ 12 38 (tl_ 30 24575) hHeld ?_
   refine pw_ 13 39 (tl_ 30 32767) ?_
   refine tk0_ 15 41 (tl_ 30 65535) hHeld ?_
   refine pw_ 16 42 (tl_ 30 131071) ?_
   refine pw_ 17 43 (tl_ 30 262143) ?_
   refine pw_ 18 44 (tl_ 30 524287) ?_
   refine pw_ 19 45 (tl_ 30 1048575) ?_
   refine pu_ 20 46 (tl_ 30 2097151) ?_
   refine pu_ 21 47 (tl_ 30 4194303) ?_
   refine pu_ 22 48 (tl_ 30 8388607) ?_
   refine pu_ 23 49 (tl_ 30 16777215) ?_
   refine pu_ 24 50 (tl_ 30 33554431) ?_
   refine pu_ 25 51 (tl_ 30 67108863) ?_
   refine pu_ 26 52 (tl_ 30 134217727) ?_
   refine pu_ 27 53 (tl_ 30 268435455) ?_
   refine pu_ 28 54 (tl_ 30 536870911) ?_
   refine pw_ 29 55 (tl_ 30 1073741823) ?_
   refine done_ (done_of HT_.out (g1_)) ?_
   try go_wp2
   go_meet
   case rel=>exact⟨_,(true),(g3_),H',⟨g52_⟩,⟨uB_ ke⟩,⟨zr⟩⟩
  rw[if_pos i8] at H
  have af8:(((Jm aa d9).length:Int) == (ab.length:Int))=true:=beq_iff_eq.mpr i8
  have fw7:(((Jm aa d9).length:Int) != (ab.length:Int))=false:=bne_eq_false_iff_eq.mpr i8
  have fw8:((Jm aa d9).length == ab.length)=true:=by first|simpa using i8|(simp at i8 |-;omega)
  clear i8
  obtain⟨ak3,H⟩:=pd_ H
  have H':=A_ H
  clear H
  try go_wp2
  replace ke:=bd_ ke
  replace HB:=A_ (Jd HB.out)
  obtain⟨⟨by2,dv2,yk⟩,ak4,ak5⟩:=rdp_ (Kd.at_int bg.out d9)
  have by3:=yk
  cases dv2
  replace yk:=cl_ HB yk
  obtain⟨⟨ck4,hr5,es5,fw9,ap4,dv3,dv4⟩,bm2,bm3⟩:=rdp_ (at_L1 bd.out d9)
  have dv5:=ap4
  cases fw9
  replace ap4:=cl_ HB ap4
  have fx0:=A_ dv4
  have ka5:=A_ dv3
  clear dv4 dv3
  obtain⟨⟨ka6,ng6,ng7,ka7,dv6,hr6,hr7⟩,fx1,fx2⟩:=rdp_ (at_L1 bd.out d9)
  have hr8:=dv6
  obtain rfl:ck4=ka6:=(by injection ka7)
  replace dv6:=cl_ HB dv6
  have hr9:=A_ hr7
  have ng8:=A_ hr6
  clear hr7 hr6
  have ea_:=Option.some.inj (ap4.symm.trans dv6)
  injection ea_ with ea_ en_ ec_
  subst ea_
  subst ec_
  clear en_
  obtain⟨⟨fx5,ka8,es6⟩,fx3,fx4⟩:=rdp_ (Kd.at_int hr9.out d9)
  have hs1:=es6
  cases ka8
  replace es6:=cl_ HB es6
  refine start_ (n:=30) (S:=fun w'=>w'.cell? ⟨ap2,0,none⟩=some (.slice (some by2) ab.length ac)/\w'.cell? ⟨ap2,1,none⟩=some (.slice (some ck4) aa.length af)/\w'.cell? (by2.add (d9).toNat)=some (.int .i64 (rd ab d9))/\w'.cell? (ck4.add (d9).toNat)=some (.slice (some fx5) (Jm aa d9).length es5)/\w'.cell? (ck4.add (d9).toNat)=some (.slice (some fx5) (Jm aa d9).length es5)/\w'.cell? (fx5.add (d9).toNat)=some (.int .i64 (rd (Jm aa d9) d9))) (ds:=[]) (tl_ 30 0) (g1_) rfl (g1_) ⟨(G8 ke.out 0).trans rfl,(G8 ke.out 1).trans rfl,((cl_ HB by3).trans rfl),((cl_ HB dv5).trans rfl),((cl_ HB hr8).trans rfl),((cl_ HB hs1).trans rfl)⟩ (fun hHeld=>?_);refine Js Fg.tab6 Fg.bits6 (fun HT_ HW_=>?_)
  generalize wr.drew=w18 at ke HB fx0 hr9 yk ap4 dv6 es6 hHeld |-
  refine pw_ 0 26 (tl_ 30 1) ?_
  refine pw_ 2 28 (tl_ 30 5) ?_
  refine tk1_ 1 27 (tl_ 30 7) hHeld ?_
  refine pw_ 3 29 (tl_ 30 15) ?_
  refine tk1_ 4 30 (tl_ 30 31) hHeld ?_
  refine one_ (i:=5) (N:=some 31) (tl_ 30 63) rfl rfl (Ju HT_.out (g1_)) (by decide) (fun K hK=>?_)
  refine goes_ Try.func65 (g1_) rfl #[.int .i64 (rd ab d9), .int .i64 0, .int .i64 20] (by rfl) rfl rfl (gM_) ?_
  with_reducible refine(F6.calls (rd ab d9) 0 20 true _ A13.out).mono ?_
  rintro e w' ⟨rfl,⟨nd,rfl⟩⟩
  refine⟨_,rfl,?_⟩
  refine hK.out _ _ ⟨(G8 ke.out 0).trans rfl,(G8 ke.out 1).trans rfl,((cl_ HB by3).trans rfl),((cl_ HB dv5).trans rfl),((cl_ HB hr8).trans rfl),((cl_ HB hs1).trans rfl)⟩ (fun hHeld=>?_)
  clear hK K
  refine nm_ ?_
  refine pw_ 6 32 (tl_ 30 127) ?_
  refine pw_ 7 33 (tl_ 30 255) ?_
  refine pw_ 8 34 (tl_ 30 511) ?_
  refine pw_ 10 36 (tl_ 30 1535) ?_
  refine pw_ 14 40 (tl_ 30 17919) ?_
  refine tk1_ 9 35 (tl_ 30 18431) hHeld ?_
  refine pw_ 11 37 (tl_ 30 20479) ?_
  refine tk1_ 12 38 (tl_ 30 24575) hHeld ?_
  refine pw_ 13 39 (tl_ 30 32767) ?_
  refine tk1_ 15 41 (tl_ 30 65535) hHeld ?_
  refine pw_ 16 42 (tl_ 30 131071) ?_
  refine pw_ 17 43 (tl_ 30 262143) ?_
  refine pw_ 18 44 (tl_ 30 524287) ?_
  refine pw_ 19 45 (tl_ 30 1048575) ?_
  refine pw_ 20 46 (tl_ 30 2097151) ?_
  refine pw_ 22 48 (tl_ 30 6291455) ?_
  refine pw_ 25 51 (tl_ 30 39845887) ?_
  refine tk1_ 21 47 (tl_ 30 41943039) hHeld ?_
  refine pw_ 23 49 (tl_ 30 50331647) ?_
  refine tk1_ 24 50 (tl_ 30 67108863) hHeld ?_
  refine pw_ 26 52 (tl_ 30 134217727) ?_
  refine tk1_ 27 53 (tl_ 30 268435455) hHeld ?_
  refine pw_ 28 54 (tl_ 30 536870911) ?_
  refine pw_ 29 55 (tl_ 30 1073741823) ?_
  refine done_ (done_of HT_.out (g1_)) ?_
  try go_wp2
  go_meet
  case rel=>exact⟨_,(((rd (Jm aa d9) d9) != 0)),(g3_),H',⟨g52_⟩,⟨uB_ ke⟩,⟨zr⟩⟩
 clear fw6
 obtain⟨kq,es4,rfl,HA,HJ9,ke,HB⟩:=hcut
 cases kq with
 | zero=>exact absurd HA.out (by simp[Fg.j2])
 | succ kj9=>?_
 have H:=HA.out
 clear HA
 simp only[Fg.j2] at H
 by_cases pd:es4=true
 ·subst pd
  replace H:=ifp_ H
  obtain rfl:=Option.some.inj H
  go_wp2
  go_ret
  exact⟨g4_,zr⟩
 replace pd:=Bool.eq_false_iff.mpr pd
 subst pd
 replace H:=ifn_ H
 have H':=A_ H
 clear H
 go_wp2
 go_loopg [4] kj9 (fun kq v4 w'=>∃(aa2:Int),v4 = .int .i64 aa2/\G7 (Fg.l1 kq d9 aa2 ab aa=some r)/\G7 (kq<=kj9)/\G7 (hc_ w' ap2 #[(.slice ae ab.length ac),(.slice ag aa.length af)] 25)/\G7 (Below w.heap.size w w'))
 case atStart=>exact⟨(0),(g3_),H',⟨Nat.le_refl _⟩,⟨uB_ ke⟩,⟨zr⟩⟩
 clear H'
 obtain⟨aa2,rfl,HA,HK4,ke,HB⟩:=hrel
 cases gk with
 | zero=>exact absurd HA.out (by simp[Fg.l1])
 | succ k4=>?_
 have H:=HA.out
 clear HA
 simp only[Fg.l1] at H
 obtain⟨ax5,H⟩:=pd_ H
 obtain⟨bm4,H⟩:=pd_ H
 by_cases jv:aa2 < ((Jm aa d9).length:Int)
 case neg=>
  rw[if_neg jv] at H
  have yl:=decide_eq_false jv
  clear jv
  have H':=A_ H
  clear H
  obtain⟨es8,es9,et0,et1⟩:=blk2_ ke
  obtain⟨⟨es7,hs2,hs3,dv7,bf0,by4,by5⟩,ax6,ax7⟩:=rdp_ (at_L1 bd.out d9)
  cases dv7
  replace bf0:=cl_ HB bf0
  have hs4:=A_ by5
  have hs5:=A_ by4
  clear by5 by4
  go_wp2
  go_roundg k4
  case measure=>have:=HJ1.out;have:=HK2.out;have:=HJ9.out;have:=HK4.out;omega
  case rel=>exact⟨(wrap64 (d9 + 1)),(g3_),H',⟨by have:=HJ1.out;have:=HK2.out;have:=HJ9.out;have:=HK4.out;omega⟩,⟨uB_ ke⟩,⟨zr⟩⟩
 rw[if_pos jv] at H
 have yl:=decide_eq_true jv
 clear jv
 obtain⟨be9,H⟩:=pd_ H
 obtain⟨fw5,A26,H⟩:=bind_ H
 by_cases l7:fw5=true
 ·subst l7
  replace H:=ifp_ H
  have H':=A_ H
  clear H
  obtain⟨fq5,fq6,fq7,fq8⟩:=blk2_ ke
  obtain⟨⟨es7,hs2,hs3,dv7,bf0,by4,by5⟩,ax6,ax7⟩:=rdp_ (at_L1 bd.out d9)
  cases dv7
  replace bf0:=cl_ HB bf0
  have hs4:=A_ by5
  have hs5:=A_ by4
  clear by5 by4
  obtain⟨⟨fx6,kb0,kb1,fx7,ck7,dv8,dv9⟩,ck5,ck6⟩:=rdp_ (at_L1 bd.out d9)
  obtain rfl:es7=fx6:=(by injection fx7)
  replace ck7:=cl_ HB ck7
  have fx8:=A_ dv9
  have kb2:=A_ dv8
  clear dv9 dv8
  have ea_:=Option.some.inj (bf0.symm.trans ck7)
  injection ea_ with ea_ en_ ec_
  subst ea_
  subst ec_
  clear en_
  obtain⟨⟨kb3,fx9,dw0⟩,ck8,ck9⟩:=rdp_ (Kd.at_int fx8.out aa2)
  cases fx9
  replace dw0:=cl_ HB dw0
  go_wp2_with (first|((with_reducible refine gc_ 65 ?_);refine gl_ 74 Try.func65 #[.int .i64 (rd (Jm aa d9) aa2), .int .i64 0, .int .i64 9] ?_;(with_reducible refine(F6.calls (rd (Jm aa d9) aa2) 0 9 true _ A26.out).mono ?_);rintro e w' ⟨rfl,⟨nd,rfl⟩⟩;refine⟨_,rfl,?_⟩))
  go_roundg k4
  case measure=>have:=HJ1.out;have:=HK2.out;have:=HJ9.out;have:=HK4.out;omega
  case rel=>exact⟨(wrap64 (aa2 + 1)),(g3_),H',⟨by have:=HJ1.out;have:=HK2.out;have:=HJ9.out;have:=HK4.out;omega⟩,⟨uB_ ke⟩,⟨zr⟩⟩
 replace l7:=Bool.eq_false_iff.mpr l7
 subst l7
 replace H:=ifn_ H
 obtain rfl:=Option.some.inj H
 obtain⟨da2,da3,da4,da5⟩:=blk2_ ke
 obtain⟨⟨es7,hs2,hs3,dv7,bf0,by4,by5⟩,ax6,ax7⟩:=rdp_ (at_L1 bd.out d9)
 cases dv7
 replace bf0:=cl_ HB bf0
 have hs4:=A_ by5
 have hs5:=A_ by4
 clear by5 by4
 obtain⟨⟨fx6,kb0,kb1,fx7,ck7,dv8,dv9⟩,ck5,ck6⟩:=rdp_ (at_L1 bd.out d9)
 obtain rfl:es7=fx6:=(by injection fx7)
 replace ck7:=cl_ HB ck7
 have fx8:=A_ dv9
 have kb2:=A_ dv8
 clear dv9 dv8
 have ea_:=Option.some.inj (bf0.symm.trans ck7)
 injection ea_ with ea_ en_ ec_
 subst ea_
 subst ec_
 clear en_
 obtain⟨⟨kb3,fx9,dw0⟩,ck8,ck9⟩:=rdp_ (Kd.at_int fx8.out aa2)
 cases fx9
 replace dw0:=cl_ HB dw0
 go_wp2_with (first|((with_reducible refine gc_ 65 ?_);refine gl_ 74 Try.func65 #[.int .i64 (rd (Jm aa d9) aa2), .int .i64 0, .int .i64 9] ?_;(with_reducible refine(F6.calls (rd (Jm aa d9) aa2) 0 9 false _ A26.out).mono ?_);rintro e w' ⟨rfl,⟨nd,rfl⟩⟩;refine⟨_,rfl,?_⟩))
 go_ret
 exact⟨g4_,zr⟩
def Fv.l0:Nat->Int->List Int->List (List Int)->List (S25)->Option (Bool)
 | 0,_,_,_,_=>none
 | k + 1,x3,fy0,hs6,db2=>if x3 < (db2.length:Int) then(if 0<=x3 then((Fg.f k ((Jn db2 x3).f0) ((Jn db2 x3).f1)).bind fun fy1=>(if fy1=true then(if (((Jn db2 x3).f0).length:Int)=(fy0.length:Int) then(Fv.l0 k (wrap64 (x3 + 1)) fy0 hs6 db2) else(some false)) else(some false))) else(none)) else((Fg.f k fy0 hs6).bind fun fy2=>(if fy2=true then(some (decide ((db2.length:Int)<=8))) else(some false)))
def Fv.f (k:Nat) (ab:List Int) (aa:List (List Int)) (ai:List (S25)):Option (Bool):=Fv.l0 k 0 ab aa ai
def Fv.T4:Bool × List (List Nat × List Nat):=(true,[([],[]),([0],[0]),([],[]),([1,2],[1,2]),([3],[3]),([4],[4]),([5],[5]),([6,5],[6]),([7],[7]),([8,7],[7,8]),([7],[7]),([9,10,7],[7,9,10]),([11,7],[7,11]),([12,7],[7,12]),([13,7],[7,13]),([7],[7]),([15,7],[7,15]),([16,7],[7,16]),([17,7],[7,17]),([14,18,7],[7,14,18]),([7,19],[7,19])])
def Fv.B4:List Nat:=[0,1,0,7,15,31,63,127,255,511,255,2047,4095,8191,16383,255,33023,98559,229631,524287,1048575]
theorem Fv.tab4:rtab .any (opsOf Try.f28 4)=Fv.T4:=by kernel_rfl
theorem Fv.bits4:waitsOk Fv.T4.2 Fv.B4=true:=by kernel_rfl
theorem aj7 {p:Prop} (h:p:=by repeat(first|(with_reducible first|exact HB.out|apply Jf|apply Je|apply Jd|refine Jc ?_ kb4.out)|exact HB.out)):p:=h
set_option maxHeartbeats 8000000 in
set_option maxRecDepth 100000 in
theorem Fv.calls (k:Nat) (ae:Option Addr) (ac:Nat) (ab:List Int) (ag:Option Addr) (af:Nat) (aa:List (List Int)) (av:Option Addr) (au:Nat) (ai:List (S25)) (r:Bool) (w:World) (ca:Kd.C (Kd.int .i64) w ae ab.length ab) (ce:ab.length<=ac) (cb:Kd.C (Kd.slice 3 (Kd.int .i64)) w ag aa.length aa) (cg:aa.length<=af) (g8:Kd.C k25 w av ai.length ai) (g9:ai.length<=au) (h:Fv.f k ab aa ai=some r) :
  Calls Try.prog 28 #[.agg #[.slice ae ab.length ac, .slice ag aa.length af, .slice av ai.length au]] w fun e w'=>e = .returned (.bool r)/\Below w.heap.size w w':=by
 have hu28:=Try.underlying28
 have hu25:=Try.underlying25
 have bg:=A_ ca
 have bs:=A_ ce
 clear ca ce
 have bd:=A_ cb
 have bv:=A_ cg
 clear cb cg
 have gc:=A_ g8
 have gx:=A_ g9
 clear g8 g9
 have HB:=A_ (Below.refl w.heap.size w)
 have H:(Fv.l0 k 0 ab aa ai)=some r:=h
 clear h
 have H':=A_ H
 clear H
 go_enter Try.func28,Try.ntmps28
 go_wp2_with (first|((with_reducible refine gd_ 1 ?_);(try(refine gate_guard (by rfl) ?_;dsimp only));refine bx_ (N:=1) #[.slice ae ab.length ac, .slice ag aa.length af, .slice av ai.length au] 28 ?_;intro ap5 hg w2 hbox hb;have ji:=A_ (hbox);have ng9:=A_ ((by rw[hg];exact(G9 (aj7)):w.heap.size<=ap5));have kb4:=ng9;replace HB:=hs_ (aj7) hb;clear hb hbox hg))
 go_loopg [3] k (fun kq v3 w'=>∃(ch:Int),v3 = .int .i64 ch/\G7 (Fv.l0 kq ch ab aa ai=some r)/\G7 (kq<=k)/\G7 (hc_ w' ap5 #[(.slice ae ab.length ac),(.slice ag aa.length af),(.slice av ai.length au)] 28)/\G7 (Below w.heap.size w w'))
 case atStart=>exact⟨(0),(g3_),H',⟨Nat.le_refl _⟩,⟨uB_ ji⟩,⟨aj7⟩⟩
 clear H'
 obtain⟨ch,rfl,HA,HK1,ji,HB⟩:=hrel
 cases gk with
 | zero=>exact absurd HA.out (by simp[Fv.l0])
 | succ k1=>?_
 have H:=HA.out
 clear HA
 simp only[Fv.l0] at H
 by_cases c3:ch < (ai.length:Int)
 case neg=>
  rw[if_neg c3] at H
  have gm:=decide_eq_false c3
  clear c3
  obtain⟨fy2,A17,H⟩:=bind_ H
  by_cases jw:fy2=true
  ·subst jw
   replace H:=ifp_ H
   obtain rfl:=Option.some.inj H
   obtain⟨cz4,cz5,cz6,cz7,cz8,cz9⟩:=blk3_ ji
   go_wp2_with (first|((with_reducible refine gc_ 42 ?_);refine gl_ 34 Try.func42 #[.agg #[.slice ae ab.length ac, .slice ag aa.length af]] ?_;(refine(Fg.calls k1 _ _ ab _ _ aa true _ (uC_ bg) bs.out (uC_ bd) bv.out A17.out).mono ?_);rintro e w20 ⟨rfl,hb⟩;refine⟨_,rfl,?_⟩;replace ji:=bb_ ji hb;replace HB:=hs_ (aj7) hb;obtain⟨t6,t7,ay0,t8,t9,ay1⟩:=blk3_ ji))
   go_ret
   exact⟨g4_,aj7⟩
  replace jw:=Bool.eq_false_iff.mpr jw
  subst jw
  replace H:=ifn_ H
  obtain rfl:=Option.some.inj H
  obtain⟨ae5,ae6,dr7,ae7,ae8,dr8⟩:=blk3_ ji
  go_wp2_with (first|((with_reducible refine gc_ 42 ?_);refine gl_ 34 Try.func42 #[.agg #[.slice ae ab.length ac, .slice ag aa.length af]] ?_;(refine(Fg.calls k1 _ _ ab _ _ aa false _ (uC_ bg) bs.out (uC_ bd) bv.out A17.out).mono ?_);rintro e w23 ⟨rfl,hb⟩;refine⟨_,rfl,?_⟩;replace ji:=bb_ ji hb;replace HB:=hs_ (aj7) hb))
  go_ret
  exact⟨g4_,aj7⟩
 rw[if_pos c3] at H
 have gm:=decide_eq_true c3
 clear c3
 obtain⟨ib,H⟩:=pd_ H
 obtain⟨fy1,A5,H⟩:=bind_ H
 by_cases c6:fy1=true
 case neg=>
  replace c6:=Bool.eq_false_iff.mpr c6
  subst c6
  replace H:=ifn_ H
  obtain rfl:=Option.some.inj H
  obtain⟨ub,uc,cz2,ud,ue,cz3⟩:=blk3_ ji
  try go_wp2
  replace ji:=bd_ ji
  replace HB:=A_ (Jd HB.out)
  have ax8:0<=(ch:Int):=od_
  have ax9:ch < (ai.length:Int):=od_
  obtain⟨rj,by6,by7,by8,by9,dw1,af9,ag0,bz0,bz1,bz2,bz3⟩:=at_T25 gc.out ch ax8 ax9
  have bz4:=ag0
  have bz5:=af9
  cases dw1
  replace af9:=cl_ HB af9
  replace ag0:=cl_ HB ag0
  have bz6:=A_ bz1
  have dw2:=A_ bz0
  clear bz1 bz0
  have bz7:=A_ bz3
  have dw3:=A_ bz2
  clear bz3 bz2
  replace ax8:=eq_true ax8
  replace ax9:=eq_true ax9
  refine start_ (n:=21) (S:=fun w'=>w'.cell? ⟨ap5,0,none⟩=some (.slice ae ab.length ac)/\w'.cell? ⟨ap5,1,none⟩=some (.slice ag aa.length af)/\w'.cell? ⟨ap5,2,none⟩=some (.slice (some rj) ai.length au)/\w'.cell? (rj.add ((ch).toNat * 2))=some (.slice by6 ((Jn ai ch).f0).length by7)/\w'.cell? ⟨(rj.add ((ch).toNat * 2)).block,(rj.add ((ch).toNat * 2)).off + 1,none⟩=some (.slice by8 ((Jn ai ch).f1).length by9)) (ds:=[]) (tl_ 21 0) (g1_) rfl (g1_) ⟨(G8 ji.out 0).trans rfl,(G8 ji.out 1).trans rfl,(G8 ji.out 2).trans rfl,((cl_ HB bz5).trans rfl),((cl_ HB bz4).trans rfl)⟩ (fun hHeld=>?_);refine Js Fv.tab4 Fv.bits4 (fun HT_ HW_=>?_)
  generalize wr.drew=w15 at ji HB bz6 bz7 af9 ag0 hHeld |-
  refine pw_ 0 11 (tl_ 21 1) ?_
  refine pw_ 2 13 (tl_ 21 5) ?_
  refine tk4_ 1 12 (tl_ 21 7) hHeld ?_
  refine pw_ 3 14 (tl_ 21 15) ?_
  refine tk4_ 4 15 (tl_ 21 31) hHeld ?_
  refine one_ (i:=5) (N:=some 16) (tl_ 21 63) rfl rfl (Ju HT_.out (g1_)) (by decide) (fun K hK=>?_)
  refine goes_ Try.func42 (g1_) rfl #[.agg #[.slice by6 ((Jn ai ch).f0).length by7, .slice by8 ((Jn ai ch).f1).length by9]] (by rfl) rfl rfl (gM_) ?_
  refine(Fg.calls k1 _ _ ((Jn ai ch).f0) _ _ ((Jn ai ch).f1) false _ (uC_ bz6) dw2.out (uC_ bz7) dw3.out A5.out).mono ?_
  rintro e pu ⟨rfl,hb⟩
  refine⟨_,rfl,?_⟩
  replace ji:=bb_ ji hb
  replace HB:=hs_ (aj7) hb
  refine hK.out _ _ ⟨(G8 ji.out 0).trans rfl,(G8 ji.out 1).trans rfl,(G8 ji.out 2).trans rfl,((cl_ HB bz5).trans rfl),((cl_ HB bz4).trans rfl)⟩ (fun hHeld=>?_)
  clear hK K
  refine nm_ ?_
  refine pw_ 6 17 (tl_ 21 127) ?_
  refine pw_ 7 18 (tl_ 21 255) ?_
  refine pu_ 8 19 (tl_ 21 511) ?_
  refine pu_ 9 20 (tl_ 21 1023) ?_
  refine pu_ 10 21 (tl_ 21 2047) ?_
  refine pu_ 11 22 (tl_ 21 4095) ?_
  refine pu_ 12 23 (tl_ 21 8191) ?_
  refine pu_ 13 24 (tl_ 21 16383) ?_
  refine pu_ 14 25 (tl_ 21 32767) ?_
  refine pu_ 15 26 (tl_ 21 65535) ?_
  refine pu_ 16 27 (tl_ 21 131071) ?_
  refine pu_ 17 28 (tl_ 21 262143) ?_
  refine pu_ 18 29 (tl_ 21 524287) ?_
  refine pu_ 19 30 (tl_ 21 1048575) ?_
  refine pw_ 20 31 (tl_ 21 2097151) ?_
  refine done_ (done_of HT_.out (g1_)) ?_
  try go_wp2
  go_ret
  exact⟨g4_,aj7⟩
 subst c6
 replace H:=ifp_ H
 by_cases c7:(((Jn ai ch).f0).length:Int)=(ab.length:Int)
 ·rw[if_pos c7] at H
  have pw:((((Jn ai ch).f0).length:Int) == (ab.length:Int))=true:=beq_iff_eq.mpr c7
  have bm5:((((Jn ai ch).f0).length:Int) != (ab.length:Int))=false:=bne_eq_false_iff_eq.mpr c7
  have kb5:(((Jn ai ch).f0).length == ab.length)=true:=by first|simpa using c7|(simp at c7 |-;omega)
  clear c7
  have H':=A_ H
  clear H
  obtain⟨bf1,bf2,kb6,bf3,bf4,kb7⟩:=blk3_ ji
  try go_wp2
  replace ji:=bd_ ji
  replace HB:=A_ (Jd HB.out)
  have ax8:0<=(ch:Int):=od_
  have ax9:ch < (ai.length:Int):=od_
  obtain⟨rj,by6,by7,by8,by9,dw1,af9,ag0,bz0,bz1,bz2,bz3⟩:=at_T25 gc.out ch ax8 ax9
  have bz4:=ag0
  have bz5:=af9
  cases dw1
  replace af9:=cl_ HB af9
  replace ag0:=cl_ HB ag0
  have bz6:=A_ bz1
  have dw2:=A_ bz0
  clear bz1 bz0
  have bz7:=A_ bz3
  have dw3:=A_ bz2
  clear bz3 bz2
  replace ax8:=eq_true ax8
  replace ax9:=eq_true ax9
  have cl4:0<=(ch:Int):=od_
  have cl6:ch < (ai.length:Int):=od_
  obtain⟨fy3,fy4,fy5,fy6,fy7,fy8,bm6,bm7,dw4,dw5,dw6,dw7⟩:=at_T25 gc.out ch cl4 cl6
  have dw8:=bm7
  have dw9:=bm6
  obtain rfl:rj=fy3:=(by injection fy8)
  replace bm6:=cl_ HB bm6
  replace bm7:=cl_ HB bm7
  have fy9:=A_ dw5
  have kb8:=A_ dw4
  clear dw5 dw4
  have fz0:=A_ dw7
  have kb9:=A_ dw6
  clear dw7 dw6
  replace cl4:=eq_true cl4
  replace cl6:=eq_true cl6
  refine start_ (n:=21) (S:=fun w'=>w'.cell? ⟨ap5,0,none⟩=some (.slice ae ab.length ac)/\w'.cell? ⟨ap5,1,none⟩=some (.slice ag aa.length af)/\w'.cell? ⟨ap5,2,none⟩=some (.slice (some rj) ai.length au)/\w'.cell? (rj.add ((ch).toNat * 2))=some (.slice by6 ((Jn ai ch).f0).length by7)/\w'.cell? ⟨(rj.add ((ch).toNat * 2)).block,(rj.add ((ch).toNat * 2)).off + 1,none⟩=some (.slice by8 ((Jn ai ch).f1).length by9)/\w'.cell? (rj.add ((ch).toNat * 2))=some (.slice fy4 ((Jn ai ch).f0).length fy5)/\w'.cell? ⟨(rj.add ((ch).toNat * 2)).block,(rj.add ((ch).toNat * 2)).off + 1,none⟩=some (.slice fy6 ((Jn ai ch).f1).length fy7)) (ds:=[]) (tl_ 21 0) (g1_) rfl (g1_) ⟨(G8 ji.out 0).trans rfl,(G8 ji.out 1).trans rfl,(G8 ji.out 2).trans rfl,((cl_ HB bz5).trans rfl),((cl_ HB bz4).trans rfl),((cl_ HB dw9).trans rfl),((cl_ HB dw8).trans rfl)⟩ (fun hHeld=>?_);refine Js Fv.tab4 Fv.bits4 (fun HT_ HW_=>?_)
  generalize wr.drew=w9 at ji HB bz6 bz7 fy9 fz0 af9 ag0 bm6 bm7 hHeld |-
  refine pw_ 0 11 (tl_ 21 1) ?_
  refine pw_ 2 13 (tl_ 21 5) ?_
  refine tk3_ 1 12 (tl_ 21 7) hHeld ?_
  refine pw_ 3 14 (tl_ 21 15) ?_
  refine tk3_ 4 15 (tl_ 21 31) hHeld ?_
  refine one_ (i:=5) (N:=some 16) (tl_ 21 63) rfl rfl (Ju HT_.out (g1_)) (by decide) (fun K hK=>?_)
  refine goes_ Try.func42 (g1_) rfl #[.agg #[.slice by6 ((Jn ai ch).f0).length by7, .slice by8 ((Jn ai ch).f1).length by9]] (by rfl) rfl rfl (gM_) ?_
  refine(Fg.calls k1 _ _ ((Jn ai ch).f0) _ _ ((Jn ai ch).f1) true _ (uC_ bz6) dw2.out (uC_ bz7) dw3.out A5.out).mono ?_
  rintro e w10 ⟨rfl,hb⟩
  refine⟨_,rfl,?_⟩
  replace ji:=bb_ ji hb
  replace HB:=hs_ (aj7) hb
  refine hK.out _ _ ⟨(G8 ji.out 0).trans rfl,(G8 ji.out 1).trans rfl,(G8 ji.out 2).trans rfl,((cl_ HB bz5).trans rfl),((cl_ HB bz4).trans rfl),((cl_ HB dw9).trans rfl),((cl_ HB dw8).trans rfl)⟩ (fun hHeld=>?_)
  clear hK K
  refine nm_ ?_
  refine pw_ 6 17 (tl_ 21 127) ?_
  refine pw_ 7 18 (tl_ 21 255) ?_
  refine pw_ 8 19 (tl_ 21 511) ?_
  refine pw_ 10 21 (tl_ 21 1535) ?_
  refine pw_ 15 26 (tl_ 21 34303) ?_
  refine pw_ 16 27 (tl_ 21 99839) ?_
  refine tk3_ 9 20 (tl_ 21 100351) hHeld ?_
  refine pw_ 11 22 (tl_ 21 102399) ?_
  refine pw_ 12 23 (tl_ 21 106495) ?_
  refine tk3_ 13 24 (tl_ 21 114687) hHeld ?_
  refine pw_ 14 25 (tl_ 21 131071) ?_
  refine tk3_ 17 28 (tl_ 21 262143) hHeld ?_
  refine pw_ 18 29 (tl_ 21 524287) ?_
  refine pw_ 19 30 (tl_ 21 1048575) ?_
  refine pw_ 20 31 (tl_ 21 2097151) ?_
  refine done_ (done_of HT_.out (g1_)) ?_
  try go_wp2
  go_roundg k1
  case measure=>have:=HK1.out;omega
  case rel=>exact⟨(wrap64 (ch + 1)),(g3_),H',⟨g8_⟩,⟨uB_ ji⟩,⟨aj7⟩⟩
 rw[if_neg c7] at H
 have pw:((((Jn ai ch).f0).length:Int) == (ab.length:Int))=false:=beq_eq_false_iff_ne.mpr c7
 have bm5:((((Jn ai ch).f0).length:Int) != (ab.length:Int))=true:=bne_iff_ne.mpr c7
 have kb5:(((Jn ai ch).f0).length == ab.length)=false:=by first|simpa using c7|(simp at c7 |-;omega)
 obtain rfl:=Option.some.inj H
 obtain⟨si,sj,aw4,sk,sl,aw5⟩:=blk3_ ji
 try go_wp2
 replace ji:=bd_ ji
 replace HB:=A_ (Jd HB.out)
 have ax8:0<=(ch:Int):=od_
 have ax9:ch < (ai.length:Int):=od_
 obtain⟨rj,by6,by7,by8,by9,dw1,af9,ag0,bz0,bz1,bz2,bz3⟩:=at_T25 gc.out ch ax8 ax9
 have bz4:=ag0
 have bz5:=af9
 cases dw1
 replace af9:=cl_ HB af9
 replace ag0:=cl_ HB ag0
 have bz6:=A_ bz1
 have dw2:=A_ bz0
 clear bz1 bz0
 have bz7:=A_ bz3
 have dw3:=A_ bz2
 clear bz3 bz2
 replace ax8:=eq_true ax8
 replace ax9:=eq_true ax9
 have cl4:0<=(ch:Int):=od_
 have cl6:ch < (ai.length:Int):=od_
 obtain⟨fy3,fy4,fy5,fy6,fy7,fy8,bm6,bm7,dw4,dw5,dw6,dw7⟩:=at_T25 gc.out ch cl4 cl6
 have dw8:=bm7
 have dw9:=bm6
 obtain rfl:rj=fy3:=(by injection fy8)
 replace bm6:=cl_ HB bm6
 replace bm7:=cl_ HB bm7
 have fy9:=A_ dw5
 have kb8:=A_ dw4
 clear dw5 dw4
 have fz0:=A_ dw7
 have kb9:=A_ dw6
 clear dw7 dw6
 replace cl4:=eq_true cl4
 replace cl6:=eq_true cl6
 refine start_ (n:=21) (S:=fun w'=>w'.cell? ⟨ap5,0,none⟩=some (.slice ae ab.length ac)/\w'.cell? ⟨ap5,1,none⟩=some (.slice ag aa.length af)/\w'.cell? ⟨ap5,2,none⟩=some (.slice (some rj) ai.length au)/\w'.cell? (rj.add ((ch).toNat * 2))=some (.slice by6 ((Jn ai ch).f0).length by7)/\w'.cell? ⟨(rj.add ((ch).toNat * 2)).block,(rj.add ((ch).toNat * 2)).off + 1,none⟩=some (.slice by8 ((Jn ai ch).f1).length by9)/\w'.cell? (rj.add ((ch).toNat * 2))=some (.slice fy4 ((Jn ai ch).f0).length fy5)/\w'.cell? ⟨(rj.add ((ch).toNat * 2)).block,(rj.add ((ch).toNat * 2)).off + 1,none⟩=some (.slice fy6 ((Jn ai ch).f1).length fy7)) (ds:=[]) (tl_ 21 0) (g1_) rfl (g1_) ⟨(G8 ji.out 0).trans rfl,(G8 ji.out 1).trans rfl,(G8 ji.out 2).trans rfl,((cl_ HB bz5).trans rfl),((cl_ HB bz4).trans rfl),((cl_ HB dw9).trans rfl),((cl_ HB dw8).trans rfl)⟩ (fun hHeld=>?_);refine Js Fv.tab4 Fv.bits4 (fun HT_ HW_=>?_)
 generalize wr.drew=t5 at ji HB bz6 bz7 fy9 fz0 af9 ag0 bm6 bm7 hHeld |-
 refine pw_ 0 11 (tl_ 21 1) ?_
 refine pw_ 2 13 (tl_ 21 5) ?_
 refine tk3_ 1 12 (tl_ 21 7) hHeld ?_
 refine pw_ 3 14 (tl_ 21 15) ?_
 refine tk3_ 4 15 (tl_ 21 31) hHeld ?_
 refine one_ (i:=5) (N:=some 16) (tl_ 21 63) rfl rfl (Ju HT_.out (g1_)) (by decide) (fun K hK=>?_)
 refine goes_ Try.func42 (g1_) rfl #[.agg #[.slice by6 ((Jn ai ch).f0).length by7, .slice by8 ((Jn ai ch).f1).length by9]] (by rfl) rfl rfl (gM_) ?_
 refine(Fg.calls k1 _ _ ((Jn ai ch).f0) _ _ ((Jn ai ch).f1) true _ (uC_ bz6) dw2.out (uC_ bz7) dw3.out A5.out).mono ?_
 rintro e ps ⟨rfl,hb⟩
 refine⟨_,rfl,?_⟩
 replace ji:=bb_ ji hb
 replace HB:=hs_ (aj7) hb
 refine hK.out _ _ ⟨(G8 ji.out 0).trans rfl,(G8 ji.out 1).trans rfl,(G8 ji.out 2).trans rfl,((cl_ HB bz5).trans rfl),((cl_ HB bz4).trans rfl),((cl_ HB dw9).trans rfl),((cl_ HB dw8).trans rfl)⟩ (fun hHeld=>?_)
 clear hK K
 refine nm_ ?_
 refine pw_ 6 17 (tl_ 21 127) ?_
 refine pw_ 7 18 (tl_ 21 255) ?_
 refine pw_ 8 19 (tl_ 21 511) ?_
 refine pw_ 10 21 (tl_ 21 1535) ?_
 refine pw_ 15 26 (tl_ 21 34303) ?_
 refine pw_ 16 27 (tl_ 21 99839) ?_
 refine tk3_ 9 20 (tl_ 21 100351) hHeld ?_
 refine pw_ 11 22 (tl_ 21 102399) ?_
 refine pw_ 12 23 (tl_ 21 106495) ?_
 refine tk3_ 13 24 (tl_ 21 114687) hHeld ?_
 refine pw_ 14 25 (tl_ 21 131071) ?_
 refine tk3_ 17 28 (tl_ 21 262143) hHeld ?_
 refine pw_ 18 29 (tl_ 21 524287) ?_
 refine pw_ 19 30 (tl_ 21 1048575) ?_
 refine pw_ 20 31 (tl_ 21 2097151) ?_
 refine done_ (done_of HT_.out (g1_)) ?_
 try go_wp2
 go_ret
 exact⟨g4_,aj7⟩
end Go.Proofs.Ytfooakkhkehpiaa.PE
