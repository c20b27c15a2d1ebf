/- FnDeskDo: for every input the law holds. No condition. -/
import Derived.Test.YtfooakkhkehpiaaZFnDeskDo1
import Derived.Test.YtfooakkhkehpiaaZFnDeskDo2
import Derived.Test.YtfooakkhkehpiaaZFnDeskDo3
namespace Go.Proofs.Ytfooakkhkehpiaa.PU
open Go.RowKit Go.Proofs.YtfooakkhkehpiaaW.PrintWords Go.Proofs.YtfooakkhkehpiaaW.PrintLast Go.Proofs.YtfooakkhkehpiaaW.PrintMore
attribute [local go_sem] max2_int min2_int max_two min_two max_three min_three max_four min_four-- for this text's walks alone
set_option linter.unusedVariables false
set_option linter.unusedSimpArgs false
section
open Go.Shelf Go.Lib
namespace Circ
theorem two_ints (w:World) (a b:Int):Kd.C (Kd.int .i64) (w.alloc (.cells #[.int .i64 a, .int .i64 b] 3)) (some ⟨w.heap.size,0,none⟩) 2 [a,b]:=by
  have hh:(w.alloc (.cells #[.int .i64 a, .int .i64 b] 3)).heap[w.heap.size]? = some (.cells #[.int .i64 a, .int .i64 b] 3 (0,0)):=by rw[show(w.alloc (.cells #[.int .i64 a, .int .i64 b] 3)).heap=w.heap.push (.cells #[.int .i64 a, .int .i64 b] 3) from rfl];simp
  refine⟨rfl,by decide,fun _=>⟨⟨w.heap.size,0,none⟩,rfl,fun j p hj=>⟨[.int .i64 p],rfl,rfl,fun i u hu=>?_⟩⟩⟩
  have hi:i=0:=by
    have:=(List.getElem?_eq_some_iff.1 hu).1
    simp at this;exact this
  subst hi
  have hu':u = .int .i64 p:=by simpa using hu.symm
  subst hu'
  have hs:(Kd.int .i64).sz=1:=rfl
  rw[hs,add_at,Nat.mul_one,Nat.add_zero,Nat.zero_add,Gz hh j]
  have hj2:j < 2:=(List.getElem?_eq_some_iff.1 hj).1
  rcases(by omega:j=0 ∨ j=1) with rfl|rfl
  · have:a=p:=by simpa using hj
    subst this;rfl
  · have:b=p:=by simpa using hj
    subst this;rfl
def cmpv (k:Nat) (l0 l1:List Int):Option Int:=(Gm.f (l0.length:Int) (l1.length:Int)).bind fun a=>(F0.f k l0 l1).bind fun b=>F3.f k [a,b]
set_option maxHeartbeats 4000000 in
set_option maxRecDepth 100000 in
theorem circles2 (k:Nat) (A0:Option Addr) (c0:Nat) (l0:List Int) (A1:Option Addr) (c1:Nat) (l1:List Int) (r:Int) (w:World) (hr0:Kd.C (Kd.int .i64) w A0 l0.length l0) (hc0:l0.length<=c0) (hr1:Kd.C (Kd.int .i64) w A1 l1.length l1) (hc1:l1.length<=c1) (h:cmpv k l0 l1=some r) :
    Calls Try.prog 118 #[.slice A0 l0.length c0, .slice A1 l1.length c1] w fun e w'=>e = .returned (.int .i64 r)/\∃n1 o n2,w'=((w.drewN n1).alloc o).drewN n2:=by
  have HR0:=Gy.mk hr0
  have HR1:=Gy.mk hr1
  obtain⟨a,ha,h⟩:=Option.bind_eq_some_iff.mp h
  obtain⟨b,hb,h⟩:=Option.bind_eq_some_iff.mp h
  have HA:=Gy.mk ha
  have HB:=Gy.mk hb
  have HO:=Gy.mk h
  clear hr0 hr1 ha hb h
  go_enter Try.func118,Try.ntmps118
  go_wp2_with (first|(go_at_call 120;refine(Gm.calls _ _ a _ HA.out).mono ?_;rintro e w1 ⟨rfl,⟨n1,rfl⟩⟩)|(go_at_call 121;refine(F0.calls k _ _ l0 _ _ l1 b _ ?s1 ?s2 ?s3 ?s4 HB.out).mono ?_;(case s1=>repeat(first|exact HR0.out|(with_reducible refine Kd.C_drewN ?_ _)|(with_reducible refine Kd.C_drew ?_)));(case s2=>exact hc0);(case s3=>repeat(first|exact HR1.out|(with_reducible refine Kd.C_drewN ?_ _)|(with_reducible refine Kd.C_drew ?_)));(case s4=>exact hc1);rintro e w2 ⟨rfl,⟨n2,rfl⟩⟩)|(go_at_call 119;refine(F3.calls k _ 2 [a,b] r _ ?s1 ?s2 HO.out).mono ?_;(case s1=>exact two_ints _ a b);(case s2=>exact Nat.le_refl _);rintro e w3 ⟨rfl,⟨n3,rfl⟩⟩))
  go_ret
  exact⟨rfl,_,_,_,rfl⟩
section
open Go.Sort
def rn:Ren:=⟨fun _=>133,fun n=>if n=22 then 23 else if n=24 then 22 else if n=25 then 120 else n,fun n=>n⟩
set_option maxRecDepth 100000 in
theorem laid:SlLaysF.n20 Try.prog rn := {
  mixed:=by kernel_rfl
  f20:=⟨"slices.insertionSortCmpFunc[[]int]",by kernel_rfl,by kernel_rfl⟩
  t0:=by kernel_rfl
  a0:=fun _=>rfl
  z0:=fun _=>rfl
  v0:=fun _=>rfl
  t3:=by kernel_rfl
  a3:=fun _=>rfl
  z3:=fun _=>rfl
  v3:=fun _=>rfl
  t4:=by kernel_rfl
  a4:=fun _=>rfl
  z4:=fun _=>rfl
  v4:=fun _=>rfl
  t22:=by kernel_rfl
  a22:=fun _=>rfl
  z22:=fun _=>rfl
  v22:=fun _=>rfl
  a24:=fun _=>rfl
  z24:=fun _=>rfl
  t25:=by kernel_rfl
  a25:=fun _=>rfl
  z25:=fun _=>rfl
  v25:=fun _=>rfl }
end
def cmpI (a b:Int):Int:=if a < b then -1 else if a > b then 1 else 0
def lexc:List Int->List Int->Int
  | [],b=>if 0 < b.length then -1 else 0
  | _ :: _,[]=>1
  | a :: r,b :: s=>if cmpI a b=0 then lexc r s else cmpI a b
def cmpl (a b:List Int):Int:=if cmpI (a.length:Int) (b.length:Int)=0 then lexc a b else cmpI (a.length:Int) (b.length:Int)
theorem compI (a b:Int):Gm.f a b=some (cmpI a b):=by
  unfold Gm.f Gc.f cmpI
  by_cases h:a < b
  · simp[h]
  · by_cases h2:a > b
    · simp[h,h2]
    · simp[h,h2]
theorem c_drop (xs:List Int) (i:Nat) (h:i < xs.length):xs.drop i=rd xs (i:Int) :: xs.drop (i + 1):=by
  rw[List.drop_eq_getElem_cons h];simp[rd,List.getD_eq_getElem?_getD,List.getElem?_eq_getElem h]
theorem lex_l (a b:List Int) (ha:a.length<=9223372036854775807):∀(e i k:Nat),a.length - i=e->i<=a.length->e < k->F0.l0 k a b a (a.length:Int) (i:Int)=some (lexc (a.drop i) (b.drop i)):=by
  intro e
  induction e with
  | zero=>
    intro i k he hi hk
    obtain⟨k,rfl⟩:∃m,k=m + 1:=⟨k - 1,by omega⟩
    obtain rfl:i=a.length:=by omega
    simp only[F0.l0]
    rw[if_neg (by omega),List.drop_length,lexc]
    by_cases h:a.length < b.length
    · rw[if_pos (by omega),if_pos (by rw[List.length_drop];omega)]
    · rw[if_neg (by omega),if_neg (by rw[List.length_drop];omega)]
  | succ e ih=>
    intro i k he hi hk
    obtain⟨k,rfl⟩:∃m,k=m + 1:=⟨k - 1,by omega⟩
    have hw:wrap64 ((i:Int) + 1)=((i + 1:Nat):Int):=by unfold wrap64;omega
    simp only[F0.l0]
    rw[if_pos (by omega),if_pos (by omega),if_pos (by omega),hw,c_drop a i (by omega)]
    by_cases h:i < b.length
    · rw[if_neg (by omega),if_pos (by omega),compI,Option.bind_some,c_drop b i h,lexc]
      by_cases hc:cmpI (rd a (i:Int)) (rd b (i:Int))=0
      · rw[if_pos hc,if_pos hc]
        exact ih (i + 1) k (by omega) (by omega) (by omega)
      · rw[if_neg hc,if_neg hc]
    · rw[if_pos (by omega),List.drop_of_length_le (show b.length<=i by omega),lexc]
theorem orI (a b:Int):F3.f 3 [a,b]=some (if a=0 then b else a):=by
  unfold F3.f
  have w1:wrap64 (1:Int)=1:=by unfold wrap64;omega
  have w2:wrap64 (2:Int)=2:=by unfold wrap64;omega
  have e0:∀x y:Int,rd [x,y] 0=x:=fun _ _=>rfl
  have e1:∀x y:Int,rd [x,y] 1=y:=fun _ _=>rfl
  by_cases h:a=0
  · by_cases h2:b=0
    · simp[F3.l0,w1,w2,e0,e1,h,h2]
    · simp[F3.l0,w1,w2,e0,e1,h,h2]
  · simp[F3.l0,e0,h]
theorem cmpv_ev (a b:List Int) (ha:a.length<=9223372036854775807):∃k,cmpv k a b=some (cmpl a b):=by
  refine⟨a.length + 3,?_⟩
  unfold cmpv cmpl
  rw[compI,Option.bind_some]
  unfold F0.f
  have:=lex_l a b ha a.length 0 (a.length + 3) (by omega) (by omega) (by omega)
  rw[List.drop_zero,List.drop_zero] at this
  rw[show((0:Nat):Int)=0 from rfl] at this
  rw[this,Option.bind_some]
  have hm:∀n,F3.f (n + 3) [cmpI (a.length:Int) (b.length:Int),lexc a b]=some (if cmpI (a.length:Int) (b.length:Int)=0 then lexc a b else cmpI (a.length:Int) (b.length:Int)):=by
    intro n
    induction n with
    | zero=>exact orI _ _
    | succ n ih=>exact F3.mono _ _ _ ih
  exact hm _
def El (w0:World) (okk:Nat->Prop):Type := { x:Option Addr × Nat × List Int // x.2.2.length<=x.2.1/\Kd.F (Kd.int .i64) w0 okk x.1 x.2.2.length x.2.2 }
instance {w0:World} {okk:Nat->Prop}:Inhabited (El w0 okk):=⟨⟨(none,0,[]),Nat.le_refl _,Kd.F_nil _ _ _⟩⟩
def El.enc {w0:World} {okk:Nat->Prop} (x:El w0 okk):Value:=.slice x.1.1 x.1.2.2.length x.1.2.1
def El.l {w0:World} {okk:Nat->Prop} (x:El w0 okk):List Int:=x.1.2.2
def El.cf {w0:World} {okk:Nat->Prop} (x y:El w0 okk):Int:=cmpl x.l y.l
section
variable {w0 W:World} {okk ok:Nat->Prop} {blk n cap base:Nat} {xs:List (List Int)}
theorem El.one:OneCell (El.enc:El w0 okk->Value):=fun _=>rfl
theorem el_of {x:List Int} {c:List Value} (h:Kd.FK (Kd.slice 3 (Kd.int .i64)) w0 okk x c):∃e:El w0 okk,e.l=x/\[e.enc]=c:=by
  obtain⟨A,cp,rfl,hl,hC⟩:=Kd.FK_now h
  refine⟨⟨(A,cp,x),hl,fun W' hW=>?_⟩,rfl,rfl⟩
  obtain⟨A',cp',he,_,hC'⟩:=h W' hW
  have h1:=congrArg (fun l=>l[0]?) he
  have h2:=Option.some.inj (show some (Value.slice A x.length cp)=some (Value.slice A' x.length cp') from h1)
  injection h2 with h3 _ _
  show Kd.C (Kd.int .i64) W' A x.length x
  rw[h3];exact hC'
theorem els_of:∀(ys:List (List Int)) (cs:List (List Value)),ys.length=cs.length->(∀(j:Nat) (x:List Int) (c:List Value),ys[j]? = some x->cs[j]? = some c->Kd.FK (Kd.slice 3 (Kd.int .i64)) w0 okk x c)->∃ds:List (El w0 okk),ds.map El.l=ys/\ds.map (fun x=>[x.enc])=cs
  | [],cs,hl,_=>⟨[],rfl,by cases cs with
    | nil=>rfl
    | cons a r=>simp at hl⟩
  | y :: ys,[],hl,_=>by simp at hl
  | y :: ys,c :: cs,hl,h=>by
    obtain⟨e,h1,h2⟩:=el_of (h 0 y c rfl rfl)
    obtain⟨ds,h3,h4⟩:=els_of ys cs (by simpa using hl) (fun j x c hx hc=>h (j + 1) x c (by simpa using hx) (by simpa using hc))
    exact⟨e :: ds,by simp[h1,h3],by simp[h2,h4]⟩
theorem blk_holds (d:Array (El w0 okk)) {cur:Array Value} (hh:w0.heap[blk]? = some (.cells cur 22 (0,0))) (hc:∀j,j < d.size->cur[j]? = some (d[j]!).enc):Go.Sort.Holds El.enc w0 blk 0 d:=fun j hj=>by
  rw[Nat.zero_add]
  exact⟨(Gz hh j).trans (hc j hj),G8 hh j⟩
theorem sw_heap {d':Array (El w0 okk)} (S:SW El.enc w0 blk 0 d' W) (hblk:blk < w0.heap.size):Kept w0 W (fun k=>k=blk)/\W.os=w0.os/\W.tape=w0.tape/\W.output=w0.output/\∀ {cur:Array Value},w0.heap[blk]? = some (.cells cur 22 (0,0))->W.heap[blk]? = some (.cells (Go.Sort.putCells El.enc 0 d' cur) 22 (0,0)):=by
  obtain⟨m,os,rfl⟩:=S
  have hs:(Go.Sort.putRow El.enc (Go.Sort.ahead w0 m) blk 0 d').heap.size=w0.heap.size:=by rw[size_putRow];rfl
  refine⟨⟨?_,fun k hk hn=>?_⟩,rfl,rfl,rfl,fun {cur} hh=>?_⟩
  · unfold sortWorld;rw[Go.Sort.size_grow,hs];omega
  · show((Go.Sort.putRow El.enc (Go.Sort.ahead w0 m) blk 0 d').heap ++ os)[k]? = _
    rw[Array.getElem?_append_left (by rw[hs];exact hk)]
    show(w0.heap.modify blk _)[k]? = _
    rw[Array.getElem?_modify,if_neg (fun e=>hn e.symm)]
  · show((Go.Sort.putRow El.enc (Go.Sort.ahead w0 m) blk 0 d').heap ++ os)[blk]? = _
    rw[Array.getElem?_append_left (by rw[hs];exact hblk)]
    show(w0.heap.modify blk _)[blk]? = _
    rw[Array.getElem?_modify,if_pos rfl,hh]
    rfl
end
section
variable {w0 W:World} {ok:Nat->Prop} {blk n cap base:Nat} {xs:List (List Int)}
structure RowOf (w0:World) (base:Nat) (ok:Nat->Prop) (blk n cap:Nat) (cur:Array Value) (d:Array (El w0 (fun k=>ok k/\k≠blk))):Prop where
  hh:w0.heap[blk]? = some (.cells cur 22 (0,0))
  hd:d.size=n
  hc:∀j,j < d.size->cur[j]? = some (d[j]!).enc
  hb:base<=blk
  hn:n<=cap
  hm:cap<=maxLen
  hs:cur.size=cap
  hok:ok blk
theorem N_els (h:Kd.N (Kd.slice 3 (Kd.int .i64)) 22 w0 base ok (.slice (some ⟨blk,0,none⟩) n cap) xs) :
    ∃cur d,RowOf w0 base ok blk n cap cur d/\d.toList.map El.l=xs:=by
  obtain⟨h0,rows,hl,hR,hF⟩:=h
  have hbl:(Value.slice (some ⟨blk,0,none⟩) n cap).ownBlock=some blk:=by simp[Value.ownBlock]
  obtain⟨ds,h1,h2⟩:=els_of (w0:=w0) (okk:=fun k=>ok k/\k≠blk) xs rows hl.symm (fun j x c hx hc=>Foot.mono (hF j x c hx hc) (fun k hk=>⟨hk.1,fun e=>hk.2 (by rw[hbl,e])⟩))
  obtain⟨_,inner,ho,hr⟩:=hR
  rcases ho.2 with⟨hv,_⟩ | ⟨g,cap',cur,hv,hg,hh,hn,hm,hs,ht⟩
  · cases hv
  injection hv with hA hN hC
  injection hA with hA
  injection hA with hA
  subst hA;subst hC
  have hsz:(Kd.raw (Kd.slice 3 (Kd.int .i64)).sz).sz=1:=rfl
  rw[hsz] at hs ht hr
  rw[Nat.mul_one] at hs ht
  have hdl:ds.length=rows.length:=by rw[<- h2,List.length_map]
  refine⟨cur,ds.toArray,⟨hh,by simp[hdl,hN],fun j hj=>?_,hg,by omega,hm,hs,h0 blk hbl⟩,by simpa using h1⟩
  have hj':j < ds.length:=by simpa using hj
  have hjr:rows[j]? = some [(ds[j]).enc]:=by rw[<- h2,List.getElem?_map,List.getElem?_eq_getElem hj'];rfl
  have hM:=hr.2 j _ hjr
  have e1:(inner.drop (j * 1)).take 1=[(ds[j]).enc]:=hM.1
  rw[Nat.mul_one] at e1
  have hil:inner.length=rows.length:=by have:=hr.1;omega
  have e2:inner[j]? = some (ds[j]).enc:=by
    have hji:j < inner.length:=by omega
    rw[List.drop_eq_getElem_cons hji,List.take_succ_cons,List.take_zero] at e1
    injection e1 with e5 _
    rw[List.getElem?_eq_getElem hji,e5]
  have e3:cur.toList[j]? = some (ds[j]).enc:=by
    rw[<- e2, <- ht,List.getElem?_take,if_pos (by omega)]
  have e4:(ds.toArray)[j]! = ds[j]:=by simp[hj']
  rw[e4, <- Array.getElem?_toList]
  exact e3
theorem put_take {okk:Nat->Prop} (cur:Array Value) (d':Array (El w0 okk)) (h:d'.size<=cur.size):(Go.Sort.putCells El.enc 0 d' cur).toList.take d'.size=d'.toList.map El.enc:=by
  apply List.ext_getElem?
  intro j
  rw[List.getElem?_take,List.getElem?_map,Array.getElem?_toList,Array.getElem?_toList]
  unfold Go.Sort.putCells
  rw[Array.getElem?_mapIdx]
  by_cases hj:j < d'.size
  · rw[if_pos hj,Array.getElem?_eq_getElem (show j < cur.size by omega),Array.getElem?_eq_getElem hj]
    simp only[Option.map_some]
    rw[if_pos ⟨Nat.zero_le _,by omega⟩,Nat.sub_zero,getElem!_pos d' j hj]
  · rw[if_neg hj,Array.getElem?_eq_none (by omega)];rfl
theorem N_back {cur:Array Value} {d d':Array (El w0 (fun k=>ok k/\k≠blk))} (R:RowOf w0 base ok blk n cap cur d) (hs:d'.size=n) (S:SW El.enc w0 blk 0 d' W) :
    Kd.N (Kd.slice 3 (Kd.int .i64)) 22 W base ok (.slice (some ⟨blk,0,none⟩) n cap) (d'.toList.map El.l):=by
  have hblk:blk < w0.heap.size:=(Array.getElem?_eq_some_iff.1 R.hh).1
  obtain⟨hk,_,_,_,hcur⟩:=sw_heap S hblk
  have hbl:(Value.slice (some ⟨blk,0,none⟩) n cap).ownBlock=some blk:=by simp[Value.ownBlock]
  have hsz:(Kd.raw (Kd.slice 3 (Kd.int .i64)).sz).sz=1:=rfl
  refine⟨fun k hk=>?_,d'.toList.map (fun x=>[x.enc]),by simp,⟨fun k hk=>hk.symm,d'.toList.map El.enc,?_,?_,?_⟩,fun j x c hx hc=>?_⟩
  · rw[hbl] at hk;injection hk with hk;subst hk;exact R.hok
  · rw[hsz]
    refine⟨by simp, .inr ⟨blk,cap,_,?_,R.hb,hcur R.hh,?_,R.hm,?_,?_⟩⟩
    · simp[hs]
    · simp[hs];exact R.hn
    · rw[Nat.mul_one];unfold Go.Sort.putCells;rw[Array.size_mapIdx];exact R.hs
    · rw[Nat.mul_one]
      have:=put_take cur d' (by rw[hs,R.hs];exact R.hn)
      simpa using this
  · rw[hsz];simp
  · intro j p hj
    have hj':j < d'.toList.length:=by have:=(List.getElem?_eq_some_iff.1 hj).1;simpa using this
    rw[List.getElem?_map,List.getElem?_eq_getElem hj'] at hj
    have hp:p=[(d'.toList[j]).enc]:=(Option.some.inj hj).symm
    subst hp
    have ecs:((d'.toList.map El.enc).drop (j * 1)).take 1=[(d'.toList[j]).enc]:=by
      rw[Nat.mul_one,List.drop_eq_getElem_cons (by simpa using hj'),List.take_succ_cons,List.take_zero];simp
    rw[hsz,ecs]
    exact⟨rfl,rfl,fun u hu=>by rw[List.mem_singleton.1 hu];rfl⟩
  · have hj':j < d'.toList.length:=by have:=(List.getElem?_eq_some_iff.1 hx).1;simpa using this
    rw[List.getElem?_map,List.getElem?_eq_getElem hj'] at hx hc
    obtain rfl:=Option.some.inj hx
    obtain rfl:=Option.some.inj hc
    have hF:=(d'.toList[j]).2.2
    have hF2:Kd.F (Kd.int .i64) W (fun k=>ok k/\k≠blk) _ _ _:=Kd.F_kept hF hk (fun k hk=>hk.2)
    intro W' hW
    exact⟨(d'.toList[j]).1.1,(d'.toList[j]).1.2.1,rfl,(d'.toList[j]).2.1,hF2 W' (fun k hk hlt=>hW k ⟨hk.1,fun e=>hk.2 (by rw[hbl] at e;injection e)⟩ hlt)⟩
end
def insL:Nat->List (List Int)->List (List Int)
  | 0,xs=>xs
  | j + 1,xs=>if cmpl (xs.getD (j + 1) []) (xs.getD j []) < 0 then insL j ((xs.set (j + 1) (xs.getD j [])).set j (xs.getD (j + 1) [])) else xs
def srtL:Nat->Nat->List (List Int)->List (List Int)
  | 0,_,xs=>xs
  | e + 1,i,xs=>srtL e (i + 1) (insL i xs)
section
variable {w0 W:World} {okk ok:Nat->Prop} {blk n cap base:Nat} {xs:List (List Int)}
theorem mp_get (d:Array (El w0 okk)) {j:Nat} (hj:j < d.size):(d.toList.map El.l).getD j []=(d[j]!).l:=by
  rw[List.getD_eq_getElem?_getD,List.getElem?_map,Array.getElem?_toList,Array.getElem?_eq_getElem hj,getElem!_pos d j hj];rfl
theorem mp_set (d:Array (El w0 okk)) (j:Nat) (x:El w0 okk):(d.setIfInBounds j x).toList.map El.l=(d.toList.map El.l).set j x.l:=by
  rw[Array.toList_setIfInBounds,List.map_set]
theorem ins_eq:∀(j:Nat) (d:Array (El w0 okk)),j < d.size->(Go.Sort.insInner (ltOf El.cf) 0 j d).toList.map El.l=insL j (d.toList.map El.l)/\(Go.Sort.insInner (ltOf El.cf) 0 j d).size=d.size
  | 0,d,_=>⟨rfl,rfl⟩
  | j + 1,d,hj=>by
    rw[Go.Sort.insInner,insL,mp_get d hj,mp_get d (show j < d.size by omega)]
    by_cases h:cmpl (d[j + 1]!).l (d[j]!).l < 0
    · have hl:(decide (j + 1 > 0) && ltOf El.cf d[j + 1]! d[j]!)=true:=by
        rw[Bool.and_eq_true];exact⟨decide_eq_true (by omega),decide_eq_true h⟩
      rw[if_pos hl,if_pos h]
      have hs:(Go.Sort.swp d (j + 1) j).size=d.size:=by unfold Go.Sort.swp;simp
      obtain⟨h1,h2⟩:=ins_eq j (Go.Sort.swp d (j + 1) j) (by omega)
      refine⟨?_,by rw[h2,hs]⟩
      rw[h1]
      congr 1
      unfold Go.Sort.swp
      rw[mp_set,mp_set]
    · have hl:¬ (decide (j + 1 > 0) && ltOf El.cf d[j + 1]! d[j]!)=true:=by
        rw[Bool.and_eq_true];rintro⟨_,z⟩;exact h (of_decide_eq_true z)
      rw[if_neg hl,if_neg h]
      exact⟨rfl,rfl⟩
theorem srt_eq:∀(e i b:Nat) (d:Array (El w0 okk)),b - i=e->b<=d.size->(Go.Sort.insOuter (ltOf El.cf) 0 b i d).toList.map El.l=srtL e i (d.toList.map El.l)/\(Go.Sort.insOuter (ltOf El.cf) 0 b i d).size=d.size
  | 0,i,b,d,he,hb=>by
    rw[Go.Sort.insOuter,if_neg (by omega)]
    exact⟨rfl,rfl⟩
  | e + 1,i,b,d,he,hb=>by
    rw[Go.Sort.insOuter,if_pos (by omega),srtL]
    obtain⟨h1,h2⟩:=ins_eq i d (by omega)
    obtain⟨h3,h4⟩:=srt_eq e (i + 1) b (Go.Sort.insInner (ltOf El.cf) 0 i d) (by omega) (by omega)
    exact⟨by rw[h3,h1],by rw[h4,h2]⟩
theorem cmp_lays (hblk:blk < w0.heap.size) (size:Nat):CmpLays1 Try.prog 118 #[] (El.enc:El w0 (fun k=>ok k/\k≠blk)->Value) El.cf blk 0 size w0:=by
  intro m os dk hs x y
  have S:SW El.enc w0 blk 0 dk (sortWorld El.enc w0 blk 0 m dk os):=⟨m,os,rfl⟩
  have hk:=(sw_heap S hblk).1
  have hx:=x.2.2 (sortWorld El.enc w0 blk 0 m dk os) (fun k hk' hlt=>hk.2 k hlt hk'.2)
  have hy:=y.2.2 (sortWorld El.enc w0 blk 0 m dk os) (fun k hk' hlt=>hk.2 k hlt hk'.2)
  obtain⟨k,hkv⟩:=cmpv_ev x.l y.l hx.2.1
  refine(circles2 k _ _ x.l _ _ y.l _ _ hx x.2.1 hy y.2.1 hkv).mono ?_
  rintro e w' ⟨rfl,n1,o,n2,rfl⟩
  exact⟨rfl,n1 + n2,#[o],by rw[Go.Sort.alloc_eq_grow];simp[World.drewN,Go.Sort.grow,Nat.add_assoc]⟩
def Sorted (w0:World) (base:Nat) (ok:Nat->Prop) (blk n cap:Nat) (ys:List (List Int)) (w':World):Prop:=
  Kd.N (Kd.slice 3 (Kd.int .i64)) 22 w' base ok (.slice (some ⟨blk,0,none⟩) n cap) ys/\Kept w0 w' (fun k=>k=blk)/\w'.os=w0.os/\w'.tape=w0.tape/\w'.output=w0.output
theorem ins133 (h:Kd.N (Kd.slice 3 (Kd.int .i64)) 22 w0 base ok (.slice (some ⟨blk,0,none⟩) n cap) xs) (hn:n<=1000) (a:Nat) (ha:a=0 ∨ a=n) :
    Calls Try.prog 133 #[.slice (some ⟨blk,0,none⟩) n cap, .int .i64 (a:Int), .int .i64 (n:Int), .func (.func 118) #[] #[]] w0 fun e w'=>e = .returned (.tuple #[])/\Sorted w0 base ok blk n cap (if a=0 then srtL (n - 1) 1 xs else xs) w':=by
  obtain⟨cur,d,R,hx⟩:=N_els h
  have hblk:blk < w0.heap.size:=(Array.getElem?_eq_some_iff.1 R.hh).1
  have hH:=blk_holds d R.hh R.hc
  have hmain:=Any.insertionSortCmpFunc_s laid El.enc El.cf 118 #[] blk 0 cap a n d d w0 w0 (enters_of Try.func118 (by kernel_rfl) rfl) (cmp_lays hblk d.size) ⟨El.one,hH,hblk⟩ rfl (SW.start hH) (by omega) (by rw[R.hd];exact Nat.le_refl _) (by rw[R.hd];omega)
  rw[R.hd] at hmain
  refine hmain.mono ?_
  rintro e w' ⟨rfl,S⟩
  unfold Go.Sort.insertionSort at S
  have hb2:n<=d.size:=by rw[R.hd];exact Nat.le_refl _
  obtain⟨hk,ho,ht,hu,_⟩:=sw_heap S hblk
  have fin:(Go.Sort.insOuter (ltOf El.cf) a n (a + 1) d).size=n/\(Go.Sort.insOuter (ltOf El.cf) a n (a + 1) d).toList.map El.l=if a=0 then srtL (n - 1) 1 xs else xs:=by
    rcases ha with rfl|rfl
    · obtain⟨h1,h2⟩:=srt_eq (n - 1) 1 n d (by omega) hb2
      exact⟨by rw[h2,R.hd],by rw[if_pos rfl,h1,hx]⟩
    · rw[Go.Sort.insOuter,if_neg (by omega)]
      refine⟨R.hd,?_⟩
      by_cases h0:a=0
      · subst h0
        have:xs=[]:=by
          rw[<- hx]
          have:d.toList=[]:=List.eq_nil_of_length_eq_zero (by simpa using R.hd)
          rw[this];rfl
        rw[if_pos rfl,this]
        have:d.toList=[]:=List.eq_nil_of_length_eq_zero (by simpa using R.hd)
        rw[this];rfl
      · rw[if_neg h0,hx]
  refine⟨rfl,?_,hk,ho,ht,hu⟩
  rw[<- fin.2]
  exact N_back R fin.1 S
end
section
variable {w0 w1 w2:World} {ok:Nat->Prop} {blk n cap base:Nat} {xs ys:List (List Int)}
theorem Sorted.refl (h:Kd.N (Kd.slice 3 (Kd.int .i64)) 22 w0 base ok (.slice (some ⟨blk,0,none⟩) n cap) xs):Sorted w0 base ok blk n cap xs w0:=⟨h,Kept.refl _ _,rfl,rfl,rfl⟩
theorem Sorted.trans (h:Sorted w0 base ok blk n cap xs w1) (k:Sorted w1 base ok blk n cap ys w2):Sorted w0 base ok blk n cap ys w2:=
  ⟨k.1,⟨Nat.le_trans h.2.1.1 k.2.1.1,fun i hi hn=>(k.2.1.2 i (Nat.lt_of_lt_of_le hi h.2.1.1) hn).trans (h.2.1.2 i hi hn)⟩,k.2.2.1.trans h.2.2.1,k.2.2.2.1.trans h.2.2.2.1,k.2.2.2.2.trans h.2.2.2.2⟩
theorem ins133b (h:Kd.N (Kd.slice 3 (Kd.int .i64)) 22 w0 base ok (.slice (some ⟨blk,0,none⟩) n cap) xs) (hn:n<=1000) (a:Nat) (ha:a=0 ∨ a=n) (x y:Int) (hx:x=(a:Int)) (hy:y=(n:Int)) :
    Calls Try.prog 133 #[.slice (some ⟨blk,0,none⟩) n cap, .int .i64 x, .int .i64 y, .func (.func 118) #[] #[]] w0 fun e w'=>e = .returned (.tuple #[])/\Sorted w0 base ok blk n cap (if a=0 then srtL (n - 1) 1 xs else xs) w':=by
  subst hx;subst hy;exact ins133 h hn a ha
set_option maxHeartbeats 4000000 in
set_option maxRecDepth 100000 in
theorem ins133_0 (A:Option Addr) (c:Nat) (w:World):Calls Try.prog 133 #[.slice A 0 c, .int .i64 0, .int .i64 0, .func (.func 118) #[] #[]] w fun e w'=>e = .returned (.tuple #[])/\Drawn0 w w':=by
  go_enter Try.func133,Try.ntmps133
  go_wp2
  repeat(go_quiet (fail);try go_wp2)
  go_loopg [8] 0 (fun kq v8 w'=>v8 = .int .i64 1/\Drawn0 w w')
  case atStart=>exact⟨rfl,by repeat(first|exact Drawn0.refl _|apply Drawn0.step)⟩
  case round=>
    obtain⟨rfl,⟨m1,rfl⟩⟩:=hrel
    go_wp2
    repeat(go_quiet (fail);try go_wp2)
    go_end0
    exact⟨rfl,by repeat(first|exact Drawn0.refl _|apply Drawn0.step)⟩
set_option maxHeartbeats 4000000 in
set_option maxRecDepth 100000 in
theorem stable129_lt (h:Kd.N (Kd.slice 3 (Kd.int .i64)) 22 w0 base ok (.slice (some ⟨blk,0,none⟩) n cap) xs) (hn:n < 20) :
    Calls Try.prog 129 #[.slice (some ⟨blk,0,none⟩) n cap, .int .i64 (n:Int), .func (.func 118) #[] #[]] w0 fun e w'=>e = .returned (.tuple #[])/\Sorted w0 base ok blk n cap (srtL (n - 1) 1 xs) w':=by
  have HS:=Gy.mk (Sorted.refl h)
  have hc1:decide ((20:Int)<=(n:Int))=false:=decide_eq_false (by omega)
  have hc2:decide ((20:Int) < (n:Int))=false:=decide_eq_false (by omega)
  go_enter Try.func129,Try.ntmps129
  go_wp2
  go_loopg [7,8] 0 (fun kq v7 v8 w'=>v7 = .int .i64 0/\v8 = .int .i64 20/\Gy (Sorted w0 base ok blk n cap xs w'))
  case atStart=>exact⟨rfl,rfl,⟨HS.out⟩⟩
  case round=>
    clear HS
    obtain⟨rfl,rfl,HS⟩:=hrel
    go_wp2_with (go_at_call 133;refine(ins133 (show Kd.N (Kd.slice 3 (Kd.int .i64)) 22 _ base ok (.slice (some ⟨blk,0,none⟩) n cap) _ by(repeat(first|with_reducible refine Kd.N_drewN ?_ _|with_reducible refine Kd.N_drew ?_));exact HS.out.1) (by omega) 0 (Or.inl rfl)).mono ?_;rintro e w9 ⟨rfl,hs⟩;have n0_:=Gy.mk (Sorted.trans (show Sorted w0 base ok blk n cap _ _ by(repeat(first|with_reducible refine Sorted.drewN ?_ _|with_reducible refine Sorted.drew ?_));exact HS.out) hs);clear HS hs;have HS:=n0_;clear n0_)
    go_loopg [6] 0 (fun kq v6 w'=>v6 = .int .i64 20/\Gy (Sorted w0 base ok blk n cap (srtL (n - 1) 1 xs) w'))
    case atStart=>exact⟨rfl,⟨by(repeat(first|with_reducible refine Sorted.drewN ?_ _|with_reducible refine Sorted.drew ?_));exact HS.out⟩⟩
    case round=>
      clear HS
      obtain⟨rfl,HS⟩:=hrel
      go_wp2
      go_end0
      exact⟨rfl,by(repeat(first|with_reducible refine Sorted.drewN ?_ _|with_reducible refine Sorted.drew ?_));exact HS.out⟩
set_option maxHeartbeats 4000000 in
set_option maxRecDepth 100000 in
theorem stable129_20 (h:Kd.N (Kd.slice 3 (Kd.int .i64)) 22 w0 base ok (.slice (some ⟨blk,0,none⟩) n cap) xs) (hn:n=20) :
    Calls Try.prog 129 #[.slice (some ⟨blk,0,none⟩) n cap, .int .i64 (n:Int), .func (.func 118) #[] #[]] w0 fun e w'=>e = .returned (.tuple #[])/\Sorted w0 base ok blk n cap (srtL (n - 1) 1 xs) w':=by
  have HS:=Gy.mk (Sorted.refl h)
  have hc1:decide ((20:Int)<=(n:Int))=true:=decide_eq_true (by omega)
  have hc2:decide ((20:Int) < (n:Int))=false:=decide_eq_false (by omega)
  have hc3:decide ((40:Int)<=(n:Int))=false:=decide_eq_false (by omega)
  have w40:wrap64 ((20:Int) + 20)=40:=by unfold wrap64;omega
  have HN:=Gy.mk hn
  clear hn
  go_enter Try.func129,Try.ntmps129
  go_wp2
  go_loopg [7,8] 1 (fun kq v7 v8 w'=>(kq=1/\v7 = .int .i64 0/\v8 = .int .i64 20/\Gy (Sorted w0 base ok blk n cap xs w')) ∨ (v7 = .int .i64 (n:Int)/\v8 = .int .i64 40/\Gy (Sorted w0 base ok blk n cap (srtL (n - 1) 1 xs) w')))
  case atStart=>exact .inl ⟨rfl,rfl,rfl,⟨HS.out⟩⟩
  case round=>
    clear HS
    rcases hrel with⟨rfl,rfl,rfl,HS⟩ | ⟨rfl,rfl,HS⟩
    · go_wp2_with (go_at_call 133;refine(ins133b (show Kd.N (Kd.slice 3 (Kd.int .i64)) 22 _ base ok (.slice (some ⟨blk,0,none⟩) n cap) _ by(repeat(first|with_reducible refine Kd.N_drewN ?_ _|with_reducible refine Kd.N_drew ?_));exact HS.out.1) (by have:=HN.out;omega) 0 (Or.inl rfl) _ _ ?hx ?hy).mono ?_;(case hx=>rfl);(case hy=>have:=HN.out;omega);rintro e w9 ⟨rfl,hs⟩;rw[if_pos rfl] at hs;have n0_:=Gy.mk (Sorted.trans (show Sorted w0 base ok blk n cap _ _ by(repeat(first|with_reducible refine Sorted.drewN ?_ _|with_reducible refine Sorted.drew ?_));exact HS.out) hs);clear HS hs;have HS:=n0_;clear n0_)
      go_roundg 0
      case measure=>omega
      case rel=>exact .inr ⟨by first|rfl|(rw[HN.out];rfl),by first|rfl|(rw[w40])|(simp only[i64_w];rw[w40]),⟨by(repeat(first|with_reducible refine Sorted.drewN ?_ _|with_reducible refine Sorted.drew ?_));exact HS.out⟩⟩
    · go_wp2_with (go_at_call 133;refine(ins133b (show Kd.N (Kd.slice 3 (Kd.int .i64)) 22 _ base ok (.slice (some ⟨blk,0,none⟩) n cap) _ by(repeat(first|with_reducible refine Kd.N_drewN ?_ _|with_reducible refine Kd.N_drew ?_));exact HS.out.1) (by have:=HN.out;omega) n (Or.inr rfl) _ _ ?hx ?hy).mono ?_;(case hx=>first|rfl|(have:=HN.out;omega));(case hy=>first|rfl|(have:=HN.out;omega));rintro e w9 ⟨rfl,hs⟩;rw[if_neg (by have:=HN.out;omega)] at hs;have n0_:=Gy.mk (Sorted.trans (show Sorted w0 base ok blk n cap _ _ by(repeat(first|with_reducible refine Sorted.drewN ?_ _|with_reducible refine Sorted.drew ?_));exact HS.out) hs);clear HS hs;have HS:=n0_;clear n0_)
      go_loopg [6] 0 (fun kq v6 w'=>v6 = .int .i64 20/\Gy (Sorted w0 base ok blk n cap (srtL (n - 1) 1 xs) w'))
      case atStart=>exact⟨rfl,⟨by(repeat(first|with_reducible refine Sorted.drewN ?_ _|with_reducible refine Sorted.drew ?_));exact HS.out⟩⟩
      case round=>
        clear HS
        obtain⟨rfl,HS⟩:=hrel
        go_wp2
        go_end0
        exact⟨rfl,by(repeat(first|with_reducible refine Sorted.drewN ?_ _|with_reducible refine Sorted.drew ?_));exact HS.out⟩
set_option maxHeartbeats 4000000 in
set_option maxRecDepth 100000 in
theorem stable129_0 (A:Option Addr) (c:Nat) (w:World):Calls Try.prog 129 #[.slice A 0 c, .int .i64 0, .func (.func 118) #[] #[]] w fun e w'=>e = .returned (.tuple #[])/\Drawn0 w w':=by
  go_enter Try.func129,Try.ntmps129
  go_wp2
  go_loopg [7,8] 0 (fun kq v7 v8 w'=>v7 = .int .i64 0/\v8 = .int .i64 20/\Drawn0 w w')
  case atStart=>exact⟨rfl,rfl,by repeat(first|exact Drawn0.refl _|apply Drawn0.step)⟩
  case round=>
    obtain⟨rfl,rfl,⟨m1,rfl⟩⟩:=hrel
    go_wp2_with (go_at_call 133;refine(ins133_0 A c _).mono ?_;rintro e w9 ⟨rfl,⟨nd,rfl⟩⟩)
    go_loopg [6] 0 (fun kq v6 w'=>v6 = .int .i64 20/\Drawn0 w w')
    case atStart=>exact⟨rfl,by repeat(first|exact Drawn0.refl _|exact⟨_,rfl⟩|exact⟨_,World.drewN_drewN _ _ _⟩|apply Drawn0.step)⟩
    case round=>
      obtain⟨rfl,⟨m2,rfl⟩⟩:=hrel
      go_wp2
      go_end0
      exact⟨rfl,by repeat(first|exact Drawn0.refl _|exact⟨_,rfl⟩|apply Drawn0.step)⟩
set_option maxHeartbeats 4000000 in
set_option maxRecDepth 100000 in
theorem sort117 (h:Kd.N (Kd.slice 3 (Kd.int .i64)) 22 w0 base ok (.slice (some ⟨blk,0,none⟩) n cap) xs) (hn:n<=20) :
    Calls Try.prog 117 #[.slice (some ⟨blk,0,none⟩) n cap, .func (.func 118) #[] #[]] w0 fun e w'=>e = .returned (.tuple #[])/\Sorted w0 base ok blk n cap (srtL (n - 1) 1 xs) w':=by
  have hS:Calls Try.prog 129 #[.slice (some ⟨blk,0,none⟩) n cap, .int .i64 (n:Int), .func (.func 118) #[] #[]] w0 fun e w'=>e = .returned (.tuple #[])/\Sorted w0 base ok blk n cap (srtL (n - 1) 1 xs) w':=by
    by_cases h20:n < 20
    · exact stable129_lt h h20
    · exact stable129_20 h (by omega)
  have HS:=Gy.mk hS
  clear hS
  go_enter Try.func117,Try.ntmps117
  go_wp2_with (go_at_call 129;refine HS.out.mono ?_;rintro e w9 ⟨rfl,hs⟩)
  go_end0
  exact⟨rfl,hs⟩
set_option maxHeartbeats 4000000 in
set_option maxRecDepth 100000 in
theorem sort117_0 (A:Option Addr) (c:Nat) (w:World):Calls Try.prog 117 #[.slice A 0 c, .func (.func 118) #[] #[]] w fun e w'=>e = .returned (.tuple #[])/\Drawn0 w w':=by
  go_enter Try.func117,Try.ntmps117
  go_wp2_with (go_at_call 129;refine(stable129_0 A c _).mono ?_;rintro e w9 ⟨rfl,⟨nd,rfl⟩⟩)
  go_end0
  exact⟨rfl,by repeat(first|exact Drawn0.refl _|exact⟨_,rfl⟩|apply Drawn0.step)⟩
end
def stepI (F:List Int->List (List Int)) (p row:List Int) (j:Nat):List (List Int):=
  if rd row (j:Int)=0 ∨ (j:Int) < rd p 0 then[] else if (j:Int)=rd p 0 then[p] else if (j:Int) ∈ p then[] else F (p ++ [(j:Int)])
def rowI (F:List Int->List (List Int)) (p row:List Int):Nat->Nat->List (List Int)
  | 0,_=>[]
  | e + 1,j=>stepI F p row j ++ rowI F p row e (j + 1)
def lastI (p:List Int):Int:=rd p ((p.length - 1:Nat):Int)
def walkI (d:List (List Int)):Nat->List Int->List (List Int)
  | 0,_=>[]
  | m + 1,p=>rowI (walkI d m) p (d.getD (lastI p).toNat []) (d.getD (lastI p).toNat []).length 0
structure St (w0:World) (gB gO gW:Nat) (AC:Option Addr) (nC cC:Nat) (AD:Option Addr) (nD cD:Nat) (vo:Value) (xs:List (List Int)) (w:World):Prop where
  hB:Below w0.heap.size w0 w
  bB:w.heap[gB]? = some (.cells #[.slice AC nC cC, .slice AD nD cD] 25 (0,0))
  bO:w.heap[gO]? = some (.cells #[vo] 23 (0,0))
  bW:w.heap[gW]? = some (.cells #[.func (.func 115) #[] #[.pointer (some ⟨gB,0,none⟩), .pointer (some ⟨gO,0,none⟩), .pointer (some ⟨gW,0,none⟩)]] 115 (0,0))
  hN:Kd.N (Kd.slice 3 (Kd.int .i64)) 22 w w0.heap.size (fun k=>w0.heap.size<=k/\k≠gO) vo xs
def Kp (gO:Nat) (w:World) (vo:Value) (w':World) (vo':Value):Prop:=
  w.heap.size<=w'.heap.size/\(∀k,k < w.heap.size->k≠gO->some k≠vo.ownBlock->w'.heap[k]? = w.heap[k]?)/\(vo'.ownBlock=vo.ownBlock ∨ ∃b,vo'.ownBlock=some b/\w.heap.size<=b)
section
variable {w0 w w1 w2:World} {gB gO gW:Nat} {AC AD:Option Addr} {nC cC nD cD:Nat} {vo v1 v2:Value} {xs:List (List Int)}
theorem Kp.refl:Kp gO w vo w vo:=⟨Nat.le_refl _,fun _ _ _ _=>rfl, .inl rfl⟩
theorem Kp.trans (h:Kp gO w vo w1 v1) (k:Kp gO w1 v1 w2 v2):Kp gO w vo w2 v2:=by
  refine⟨Nat.le_trans h.1 k.1,fun i hi hg ho=>?_,?_⟩
  · refine(k.2.1 i (Nat.lt_of_lt_of_le hi h.1) hg (fun e=>?_)).trans (h.2.1 i hi hg ho)
    rcases h.2.2 with e1 | ⟨b,e1,hb⟩
    · exact ho (e.trans e1)
    · rw[e1] at e;injection e with e;omega
  · rcases k.2.2 with e1 | ⟨b,e1,hb⟩
    · rw[e1];exact h.2.2
    · exact .inr ⟨b,e1,Nat.le_trans h.1 hb⟩
theorem Kp.below (h:Below w.heap.size w w1):Kp gO w vo w1 vo:=⟨h.size,fun k hk _ _=>h.block k hk, .inl rfl⟩
theorem St.below (h:St w0 gB gO gW AC nC cC AD nD cD vo xs w) (hb:Below w.heap.size w w1):St w0 gB gO gW AC nC cC AD nD cD vo xs w1:=
  ⟨Jh h.hB hb,G9 h.bB hb,G9 h.bO hb,G9 h.bW hb,Kd.N_below h.hN hb⟩
theorem St.drewN (h:St w0 gB gO gW AC nC cC AD nD cD vo xs w) (n:Nat):St w0 gB gO gW AC nC cC AD nD cD vo xs (w.drewN n):=h.below (G3 (Below.refl _ _) n)
theorem St.drew (h:St w0 gB gO gW AC nC cC AD nD cD vo xs w):St w0 gB gO gW AC nC cC AD nD cD vo xs w.drew:=h.below (below_drew (Below.refl _ _))
def Pa (gO:Nat) (w:World) (vo:Value) (A:Option Addr) (p:List Int):Prop:=Kd.F (Kd.int .i64) w (fun k=>k≠gO/\some k≠vo.ownBlock) A p.length p
theorem Pa.kp {A:Option Addr} {p:List Int} (h:Pa gO w vo A p) (k:Kp gO w vo w1 v1):Pa gO w1 v1 A p:=by
  refine Kd.F_mono (Kd.F_step (Kd.F_bound h) (fun i hi hlt=>k.2.1 i hlt hi.1.1 hi.1.2)) (fun i hi=>⟨hi.1.1,fun e=>?_⟩)
  rcases k.2.2 with e1 | ⟨b,e1,hb⟩
  · exact hi.1.2 (e.trans e1)
  · rw[e1] at e;injection e with e;have:=hi.2;omega
end
theorem rows_at {w:World} {A:Option Addr} {n:Nat} {xs:List (List Int)} (h:Kd.C (Kd.slice 3 (Kd.int .i64)) w A n xs) (j:Nat) (hj:j < n) :
    ∃ad A0 c0,A=some ad/\w.cell? (ad.add j)=some (.slice A0 (xs.getD j []).length c0)/\(xs.getD j []).length<=c0/\(Kd.int .i64).C w A0 (xs.getD j []).length (xs.getD j []):=by
  obtain⟨ad,c,rfl,hcl,⟨A0,c0,rfl,hl,hC⟩,hcc⟩:=Kd.C_get h [] (j:Int) (by omega) (by omega)
  refine⟨ad,A0,c0,rfl,?_,hl,hC⟩
  have:=hcc 0 _ rfl
  have hs:(Kd.slice 3 (Kd.int .i64)).sz=1:=rfl
  rw[hs] at this
  simpa using this
theorem pigeon:∀(n:Nat) (p:List Int),p.Nodup->(∀x ∈ p,0<=x/\x < (n:Int))->p.length<=n
  | 0,p,_,h=>by
    cases p with
    | nil=>simp
    | cons a r=>have:=h a List.mem_cons_self;omega
  | n + 1,p,hd,h=>by
    by_cases hm:(n:Int) ∈ p
    · have h1:=pigeon n (p.erase (n:Int)) (hd.erase _) (fun x hx=>by
        have h2:=h x (List.mem_of_mem_erase hx)
        have h3:x≠(n:Int):=(List.Nodup.mem_erase_iff hd).1 hx |>.1
        omega)
      have h2:=List.length_erase_of_mem hm
      omega
    · have h1:=pigeon n p hd (fun x hx=>by
        have h2:=h x hx
        have h3:x≠(n:Int):=fun e=>hm (e ▸ hx)
        omega)
      omega
theorem rd_mem' {p:List Int} {i:Nat} (h:i < p.length):rd p (i:Int) ∈ p:=by
  have:rd p (i:Int)=p[i]:=by simp[rd,List.getD_eq_getElem?_getD,List.getElem?_eq_getElem h]
  rw[this];exact List.getElem_mem h
theorem Kp.drewN {gO:Nat} {w w1:World} {vo v1:Value} (h:Kp gO w vo w1 v1) (n:Nat):Kp gO w vo (w1.drewN n) v1:=h.trans (Kp.below (G3 (Below.refl _ _) n))
theorem Kp.drew {gO:Nat} {w w1:World} {vo v1:Value} (h:Kp gO w vo w1 v1):Kp gO w vo w1.drew v1:=h.trans (Kp.below (below_drew (Below.refl _ _)))
theorem contains_ev (p:List Int) (x:Int) (hp:p.length<=4611686018427387904):∃k,Gh.f k p x=some (decide (x ∈ p)):=by
  have key:∀(e i k:Nat),p.length - i=e->i<=p.length->e < k->(∀i':Nat,i' < i->rd p (i':Int)≠x)->∃q,F1.l0 k p x (p.length:Int) (i:Int)=some q/\(decide (q ≥ 0)=decide (x ∈ p)):=by
    intro e
    induction e with
    | zero=>
      intro i k he hi hk hno
      obtain⟨k,rfl⟩:∃m,k=m + 1:=⟨k - 1,by omega⟩
      refine⟨-1,by simp only[F1.l0];rw[if_neg (by omega)],?_⟩
      have:x ∉ p:=fun hm=>by
        obtain⟨q,hq,e⟩:=List.mem_iff_getElem.mp hm
        exact hno q (by omega) (by simp[rd,List.getD_eq_getElem?_getD,List.getElem?_eq_getElem hq,e])
      rw[decide_eq_false this];rfl
    | succ e ih=>
      intro i k he hi hk hno
      obtain⟨k,rfl⟩:∃m,k=m + 1:=⟨k - 1,by omega⟩
      have hw:wrap64 ((i:Int) + 1)=((i + 1:Nat):Int):=by unfold wrap64;omega
      by_cases h:x=rd p (i:Int)
      · refine⟨(i:Int),by simp only[F1.l0];rw[if_pos (by omega),if_pos (by omega),if_pos (by omega),if_pos h],?_⟩
        rw[decide_eq_true (show x ∈ p from h ▸ rd_mem' (by omega))]
        exact decide_eq_true (by omega)
      · obtain⟨q,h1,h2⟩:=ih (i + 1) k (by omega) (by omega) (by omega) (fun i' hi'=>by
          by_cases e':i'=i
          · subst e';exact fun z=>h z.symm
          · exact hno i' (by omega))
        exact⟨q,by simp only[F1.l0];rw[if_pos (by omega),if_pos (by omega),if_pos (by omega),if_neg h,hw];exact h1,h2⟩
  obtain⟨q,h1,h2⟩:=key p.length 0 (p.length + 1) (by omega) (by omega) (by omega) (fun i' hi'=>by omega)
  refine⟨p.length + 1,?_⟩
  unfold Gh.f F1.f
  rw[show((0:Nat):Int)=0 from rfl] at h1
  rw[h1,Option.bind_some,h2]
theorem after_put {w0 wz W w4:World} {gB gO gW:Nat} {AC AD:Option Addr} {nC cC nD cD:Nat} {v v4:Value} {ys zs:List (List Int)} (nBO:gB≠gO) (nWO:gW≠gO) (gO0:w0.heap.size<=gO) (SZ:St w0 gB gO gW AC nC cC AD nD cD v ys wz) (BZ:Below wz.heap.size wz W) (hb:Below w0.heap.size w0 w4) (hg:W.grownBy w4 v.ownBlock) (hat:v4.ownBlock=v.ownBlock ∨ ∃b,v4.ownBlock=some b/\W.heap.size<=b) (hN:Kd.N (Kd.slice 3 (Kd.int .i64)) 22 w4 w0.heap.size (fun k=>w0.heap.size<=k/\k≠gO) v4 zs) :
    w4.heap[gO]? = some (.cells #[v] 23 (0,0))/\St w0 gB gO gW AC nC cC AD nD cD v4 zs (w4.setCell ⟨gO,0,none⟩ v4)/\Kp gO wz v (w4.setCell ⟨gO,0,none⟩ v4) v4:=by
  have hNW:=Kd.N_below SZ.hN BZ
  have bO:=Je (G9 SZ.bO BZ) hg (Kd.N_ne hNW (G9 SZ.bO BZ) (by decide))
  have bB:=Je (G9 SZ.bB BZ) hg (Kd.N_ne hNW (G9 SZ.bB BZ) (by decide))
  have bW:=Je (G9 SZ.bW BZ) hg (Kd.N_ne hNW (G9 SZ.bW BZ) (by decide))
  refine⟨bO,⟨G1 hb gO0,Jf bB nBO _,Jg bO 0 _ rfl,Jf bW nWO _,Kd.N_far hN (fun _ hk=>hk.2) v4⟩,?_,fun k hk hgo hown=>?_,?_⟩
  · rw[World.size_setCell];exact Nat.le_trans BZ.size hg.size
  · refine(Below.heap_setCell w4 ⟨gO,0,none⟩ v4 k hgo).trans ((hg.block k (Nat.lt_of_lt_of_le hk BZ.size) hown).trans (BZ.block k hk))
  · rcases hat with h | ⟨b,h1,h2⟩
    · exact .inl h
    · exact .inr ⟨b,h1,Nat.le_trans BZ.size h2⟩
def T6:Bool × List (List Nat × List Nat):=(true,[([],[]),([],[]),([],[]),([1,2],[1,2]),([3],[3]),([0,4,3],[0,4]),([5,5,0,1,2,3,4,5],[5])])
def B6:List Nat:=[0,0,0,6,14,31,63]
theorem tab6:rtab .any (opsOf Try.f115 6)=T6:=by kernel_rfl
theorem bits6:waitsOk T6.2 B6=true:=by kernel_rfl
def T8:Bool × List (List Nat × List Nat):=(true,[([],[]),([],[]),([],[]),([1,2],[1,2]),([],[]),([4],[4]),([3,5,3],[3,5]),([0,6,6],[0,6])])
def B8:List Nat:=[0,0,0,6,0,16,62,127]
theorem tab8:rtab .any (opsOf Try.f115 8)=T8:=by kernel_rfl
theorem bits8:waitsOk T8.2 B8=true:=by kernel_rfl
theorem step_len (F:List Int->List (List Int)) (B:Nat) (hB:1<=B) (hF:∀q,(F q).length<=B) (p row:List Int) (j:Nat):(stepI F p row j).length<=B:=by
  unfold stepI
  split
  · exact Nat.zero_le _
  · split
    · exact hB
    · split
      · exact Nat.zero_le _
      · exact hF _
theorem row_len (F:List Int->List (List Int)) (B:Nat) (hB:1<=B) (hF:∀q,(F q).length<=B) (p row:List Int):∀(e j:Nat),(rowI F p row e j).length<=e * B
  | 0,_=>Nat.zero_le _
  | e + 1,j=>by
    rw[rowI,List.length_append,Nat.succ_mul]
    have h1:=step_len F B hB hF p row j
    have h2:=row_len F B hB hF p row e (j + 1)
    omega
theorem walk_len {d:List (List Int)} (sq:∀i,i < d.length->(d.getD i []).length=d.length) (h4:d.length<=4):∀(m:Nat) (p:List Int),(walkI d m p).length<=5 ^ m
  | 0,_=>Nat.zero_le _
  | m + 1,p=>by
    rw[walkI]
    have h1:=row_len (walkI d m) (5 ^ m) (Nat.one_le_pow _ _ (by omega)) (walk_len sq h4 m) p (d.getD (lastI p).toNat []) (d.getD (lastI p).toNat []).length 0
    have h2:(d.getD (lastI p).toNat []).length<=4:=by
      by_cases h:(lastI p).toNat < d.length
      · rw[sq _ h];exact h4
      · rw[List.getD_eq_getElem?_getD,List.getElem?_eq_none (by omega)];simp
    have h3:(d.getD (lastI p).toNat []).length * 5 ^ m<=4 * 5 ^ m:=Nat.mul_le_mul_right _ h2
    rw[Nat.pow_succ]
    omega
set_option maxHeartbeats 8000000 in
set_option maxRecDepth 100000 in
theorem walk {w0:World} {gB gO gW:Nat} {AC AD:Option Addr} {nC cC cD:Nat} {d:List (List Int)} (hD:Kd.C (Kd.slice 3 (Kd.int .i64)) w0 AD d.length d) (sq:∀i,i < d.length->(d.getD i []).length=d.length) (h4:d.length<=4)
    (nBO:gB≠gO) (nOB:gO≠gB) (nWO:gW≠gO) (nOW:gO≠gW) (nBW:gB≠gW) (nWB:gW≠gB) (gO0:w0.heap.size<=gO):∀(m:Nat) (p:List Int),0 < p.length->(∀x ∈ p,0<=x/\x < (d.length:Int))->p.Nodup->d.length < m + p.length ->
    ∀(A:Option Addr) (cP:Nat) (w:World) (vo:Value) (xs:List (List Int)),p.length<=cP->xs.length + 5 ^ m<=1000000->St w0 gB gO gW AC nC cC AD d.length cD vo xs w->Pa gO w vo A p ->
    Calls Try.prog 115 #[.slice A p.length cP, .pointer (some ⟨gB,0,none⟩), .pointer (some ⟨gO,0,none⟩), .pointer (some ⟨gW,0,none⟩)] w fun e w'=>e = .returned (.tuple #[])/\∃v',St w0 gB gO gW AC nC cC AD d.length cD v' (xs ++ walkI d m p) w'/\Kp gO w vo w' v'
  | 0,p,hp,hr,hnd,hm,_,_,_,_,_,_,_,_,_=>by have:=pigeon d.length p hnd hr;omega
  | m + 1,p,hp,hr,hnd,hm,A,cP,w,vo,xs,hcP,hbd,hS,hP=>by
    have HS:=Gy.mk hS
    have HP:=Gy.mk hP
    have hpl:=pigeon d.length p hnd hr
    have hla:=hr _ (rd_mem' (show p.length - 1 < p.length by omega))
    have hhd:=hr _ (rd_mem' (show 0 < p.length from hp))
    obtain⟨L,hL⟩:=Int.eq_ofNat_of_zero_le hla.1
    have hLd:L < d.length:=by omega
    have hlL:(lastI p).toNat=L:=by unfold lastI;rw[hL];rfl
    obtain⟨adD,B0,b0,eD,hx,hb0,hrow⟩:=rows_at hD L hLd
    subst eD
    have hsq:=sq L hLd
    have h5p:1<=5 ^ m:=Nat.one_le_pow _ _ (by omega)
    have HR:=Gy.mk (show walkI d (m + 1) p=rowI (walkI d m) p (d.getD L []) (d.getD L []).length 0 by rw[walkI,hlL])
    have HROW:=Gy.mk hrow
    generalize d.getD L []=row at hx hb0 HROW hsq HR
    clear hrow
    obtain⟨adP,eA,hx0⟩:=Kd.at_int (Foot.now hP) 0 (by omega) (by omega)
    subst eA
    obtain⟨adP',eA',hx1⟩:=Kd.at_int (Foot.now hP) ((p.length - 1:Nat):Int) (by omega) (by omega)
    cases eA'
    have hxw:=(HS.out.hB.cell (World.block_lt_of_cell? w0 _ hx)).trans hx
    have hw1:wrap64 ((p.length:Int) - 1)=((p.length - 1:Nat):Int):=by unfold wrap64;omega
    have q0:(0<=((p.length - 1:Nat):Int))=True:=eq_true (by omega)
    have q1:(((p.length - 1:Nat):Int) < (p.length:Int))=True:=eq_true (by omega)
    rw[hL] at hx1
    have q2:(0<=(L:Int))=True:=eq_true (by omega)
    have q3:((L:Int) < (d.length:Int))=True:=eq_true (by omega)
    have hz0:w.cell? ⟨gB,1,none⟩=some (.slice (some adD) d.length cD):=(Gz HS.out.bB 1).trans rfl
    have hxw':w.cell? (adD.add L)=some (.slice B0 row.length b0):=hxw
    rw[Int.toNat_natCast] at hx1
    have HX0:=Gy.mk hx0
    have HSQ:=Gy.mk hsq
    clear hS hP hx hxw hx0 hsq
    go_enter Try.func115,Try.ntmps115
    go_wp2
    go_loopg [20] (row.length) (fun kq v20 w'=>∃(j:Nat) (v:Value) (ys:List (List Int)),kq + j=row.length/\v20 = .int .i64 j/\Gy (St w0 gB gO gW AC nC cC (some adD) d.length cD v ys w')/\Gy (Kp gO w vo w' v)/\Gy (ys ++ rowI (walkI d m) p row kq j=xs ++ walkI d (m + 1) p)/\Gy (ys.length + kq * 5 ^ m<=1000000))
    case atStart=>exact⟨0,vo,xs,by omega,rfl,⟨by(repeat(first|with_reducible refine St.drewN ?_ _|with_reducible refine St.drew ?_));exact HS.out⟩,⟨Kp.below (by repeat(first|(with_reducible first|exact Below.refl _ _|apply G4|apply G3|apply G2)|exact Below.refl _ _))⟩,⟨by rw[HR.out]⟩,⟨by have z:=HSQ.out;have y:row.length * 5 ^ m<=4 * 5 ^ m:=Nat.mul_le_mul_right _ (by omega);rw[Nat.pow_succ] at hbd;omega⟩⟩
    case round=>
      clear HS
      obtain⟨j,v,ys,hj,rfl,SS,KK,HE,HBd⟩:=hrel
      have HPw:=Gy.mk (HP.out.kp KK.out)
      by_cases hlt:j < row.length
      · obtain⟨k1,rfl⟩:∃k1,gk=k1 + 1:=⟨gk - 1,by omega⟩
        have HC:=Gy.mk (Foot.now HPw.out)
        have HWJ:Gy (wrap64 ((j:Int) + 1)=((j + 1:Nat):Int)):=⟨by have:=HSQ.out;unfold wrap64;omega⟩
        obtain⟨adR,eR,hrw⟩:=Kd.at_int HROW.out (j:Int) (by omega) (by omega)
        subst eR
        obtain⟨adP2,eP,hp0⟩:=Kd.at_int HC.out 0 (by omega) (by omega)
        cases eP
        have hrw2:=(SS.out.hB.cell (World.block_lt_of_cell? w0 _ hrw)).trans hrw
        rw[Int.toNat_natCast] at hrw2
        have hp1:wr.cell? adP=some (.int .i64 (rd p 0)):=by simpa [Addr.add] using hp0
        clear hp0
        have p5:(0<=(j:Int))=True:=eq_true (by omega)
        have q5:((j:Int) < (row.length:Int))=True:=eq_true (by omega)
        have q6:((0:Int) < (p.length:Int))=True:=eq_true (by omega)
        have c3b0:decide ((j:Int) < (row.length:Int))=true:=decide_eq_true (by omega)
        clear hrw
        have HG:=Gy.mk (show stepI (walkI d m) p row j=if rd row (j:Int)=0 ∨ (j:Int) < rd p 0 then[] else if (j:Int)=rd p 0 then[p] else if (j:Int) ∈ p then[] else walkI d m (p ++ [(j:Int)]) from rfl)
        generalize rd row (j:Int)=t at hrw2 HG
        obtain⟨hv,hhv⟩:∃hv,rd p 0=hv:=⟨_,rfl⟩
        rw[hhv] at hp1 HG
        have HHV:=Gy.mk hhv
        clear hhv
        by_cases ht0:t=0
        · have c1:(t == 0)=true:=beq_iff_eq.mpr ht0
          have HNIL:Gy (stepI (walkI d m) p row j=[]):=⟨by rw[HG.out,if_pos (.inl ht0)]⟩
          clear HG ht0
          go_wp2
          go_roundg k1
          case measure=>omega
          case rel=>exact⟨j + 1,v,ys,by omega,(by first|rw[HWJ.out]|go_num),⟨by(repeat(first|with_reducible refine St.drewN ?_ _|with_reducible refine St.drew ?_));exact SS.out⟩,⟨by(repeat(first|with_reducible refine Kp.drewN ?_ _|with_reducible refine Kp.drew ?_));exact KK.out⟩,⟨by have:=HE.out;rw[rowI,HNIL.out,List.nil_append] at this;exact this⟩,⟨by have:=HBd.out;rw[Nat.succ_mul] at this;omega⟩⟩
        have c1:(t == 0)=false:=beq_eq_false_iff_ne.mpr ht0
        by_cases hlo:(j:Int) < hv
        · have c2:decide ((j:Int) < hv)=true:=decide_eq_true hlo
          have HNIL:Gy (stepI (walkI d m) p row j=[]):=⟨by rw[HG.out,if_pos (.inr hlo)]⟩
          clear HG ht0 hlo
          go_wp2
          go_roundg k1
          case measure=>omega
          case rel=>exact⟨j + 1,v,ys,by omega,(by first|rw[HWJ.out]|go_num),⟨by(repeat(first|with_reducible refine St.drewN ?_ _|with_reducible refine St.drew ?_));exact SS.out⟩,⟨by(repeat(first|with_reducible refine Kp.drewN ?_ _|with_reducible refine Kp.drew ?_));exact KK.out⟩,⟨by have:=HE.out;rw[rowI,HNIL.out,List.nil_append] at this;exact this⟩,⟨by have:=HBd.out;rw[Nat.succ_mul] at this;omega⟩⟩
        have c2:decide ((j:Int) < hv)=false:=decide_eq_false hlo
        by_cases heq:(j:Int)=hv
        · have c4:((j:Int) == hv)=true:=beq_iff_eq.mpr heq
          have HONE:Gy (stepI (walkI d m) p row j=[p]):=⟨by rw[HG.out,if_neg (fun z=>z.elim ht0 hlo),if_pos heq]⟩
          clear HG ht0 hlo heq
          go_upto_region 6 with fail
          try go_wp2
          have SZ:=Gy.mk (St.drew SS.out)
          have KZ:=Gy.mk (Kp.drew KK.out)
          have PZ:=Gy.mk (Pa.kp HPw.out (Kp.drew Kp.refl))
          have BZ:=Gy.mk (Below.refl wr.drew.heap.size wr.drew)
          refine start_ (n:=7) (S:=fun w'=>w'.cell? ⟨gO,0,none⟩=some v) (ds:=[6]) #[false,false,false,false,false,false,false] (by kernel_rfl) rfl rfl ((Gz SZ.out.bO 0).trans rfl) (fun hHeld=>?_);refine Jm tab6 bits6 (fun HT_ HW_=>?_)
          clear SS KK HPw HC hrw2 hp1
          generalize wr.drew=wz at SZ KZ PZ BZ hHeld |-
          refine pure_ (i:=2) (N:=some 43) (v:=?_) (a':=?_) #[false,false,true,false,false,false,false] rfl rfl (any_of HT_.out (by kernel_rfl)) (fun _ _ _ h=>h) (Or.inl ⟨by rfl,?_⟩) ?_ ?_
          rotate_left
          · intro w'
            go_simp
            with_reducible rfl
          rotate_left
          · simp only[Act.put,List.setIfInBounds_toArray,List.set_cons_zero,List.set_cons_succ,i64_w,i32_w]
            rfl
          refine take_ (i:=0) (N:=some 41) (v:=?_) (a':=?_) #[true,false,true,false,false,false,false] rfl rfl (take_ofW HT_.out HW_.out (by kernel_rfl)) (fun _ _ _ h=>h) (Or.inl ⟨by rfl,?_⟩) hHeld ?_ ?_
          rotate_left
          · rintro w' s0
            go_simp
            with_reducible rfl
          rotate_left
          · simp only[Act.put,List.setIfInBounds_toArray,List.set_cons_zero,List.set_cons_succ,i64_w,i32_w]
            rfl
          refine one_ (i:=1) (N:=some 42) #[true,true,true,false,false,false,false] rfl rfl (Jo HT_.out (by kernel_rfl)) (by decide) (fun K hK=>?_)
          refine Kd.R_lit_step (Kd.int .i64) _ 3 ?hg (N:=42) ?hd (xs:=([]:List Int)) (inner:=[]) (ok:=fun _=>True) (okp:=fun _=>True) ?hr ?hp (fun _ hk=>hk) trivial (Below.refl _ _) (Nat.le_refl _) (by simp) ?_
          (case hd=>rfl)
          (case hg=>rfl)
          (case hr=>first|(go_simp;done)|(go_simp;rfl))
          (case hp=>exact(Reps.none _ _))
          intro v42 wa ho hb hg_ hnew_
          clear hg_ hnew_
          have HO1:=Gy.mk (Kd.R_lower ho BZ.out.size)
          have n0_:=Gy.mk (Jh BZ.out hb)
          clear BZ hb ho
          have BZ:=n0_
          clear n0_
          refine hK.out _ _ ((Gz (G9 SZ.out.bO BZ.out) 0).trans rfl) (fun hHeld=>?_)
          clear hK K
          refine norm_ (a':=?_) ?_ ?_
          rotate_left
          · show Act.put _ (some 42) _=_
            simp only[Act.put,List.setIfInBounds_toArray,List.set_cons_zero,List.set_cons_succ,i64_w,i32_w]
            rfl
          refine one_ (i:=3) (N:=some 44) #[true,true,true,true,false,false,false] rfl rfl (Jo HT_.out (by kernel_rfl)) (by decide) (fun K hK=>?_)
          refine Kd.R_append_rows_step (Kd.int .i64) (w0:=wz) wz.heap.size (by rfl) (.tmp 42) (.tmp 43) 22 3 (.int .i64 0) 8 rfl Try.underlying22 info3 rfl (by decide) (by omega) v42 [] p _ _ _ (fun _=>True) (fun _=>False) rfl rfl ?aO ?aR (fun _ _ h=>h) (fun _ h=>h.elim) ?aF ?aB ?aS ?aL ?_
          (case aR=>exact(Foot.now (Kd.F_below PZ.out BZ.out)))
          (case aB=>exact BZ.out)
          (case aF=>exact fun _ _=>trivial)
          (case aO=>exact HO1.out)
          (case aS=>exact BZ.out.size)
          (case aL=>simp;omega)
          intro v44 wb ho hb hg hat
          rw[List.nil_append] at ho
          have HO2:=Gy.mk ho
          clear BZ HO1
          have BZ:=Gy.mk hb
          clear ho hb hg hat
          obtain⟨Ao,co,eo⟩:=Kd.R_slice HO2.out
          subst eo
          refine hK.out _ _ ((Gz (G9 SZ.out.bO BZ.out) 0).trans rfl) (fun hHeld=>?_)
          clear hK K
          refine norm_ (a':=?_) ?_ ?_
          rotate_left
          · show Act.put _ (some 44) _=_
            simp only[Act.put,List.setIfInBounds_toArray,List.set_cons_zero,List.set_cons_succ,i64_w,i32_w]
            rfl
          refine one_ (i:=4) (N:=some 45) #[true,true,true,true,true,false,false] rfl rfl (Jo HT_.out (by kernel_rfl)) (by decide) (fun K hK=>?_)
          have HF:Gy (Kd.F (Kd.int .i64) wb (fun k=>wz.heap.size<=k) Ao p.length p):=⟨Kd.R_F (Kd.R_mono (Kd.R_bound HO2.out) (fun _ hk=>hk.2.1))⟩
          refine Kd.N_lit_step (Kd.slice 3 (Kd.int .i64)) (w0:=wz) wz.heap.size 22 ?hg (N':=45) ?hd (xs:=[p]) (inner:=[.slice Ao p.length co]) (ok:=fun k=>wz.heap.size<=k) (okp:=fun k=>wz.heap.size<=k) ?hr ?hp (fun _ hk=>hk) BZ.out.size BZ.out BZ.out.size (by simp) ?_
          (case hd=>rfl)
          (case hg=>rfl)
          (case hr=>first|(go_simp;done)|(go_simp;rfl))
          (case hp=>exact Reps.one (show Kd.FK (Kd.slice 3 (Kd.int .i64)) wb (fun k=>wz.heap.size<=k) p [.slice Ao p.length co] from fun W' hW=>⟨Ao,co,rfl,(Kd.R_reads' HO2.out).2.1,HF.out W' hW⟩) (Reps.none _ _))
          intro v45 wc ho hb hg hat
          have HO3:=Gy.mk ho
          clear BZ HO2 HF
          have BZ:=Gy.mk hb
          clear ho hb hg hat
          obtain⟨A45,c45,e45⟩:=Kd.N_slice HO3.out
          subst e45
          refine hK.out _ _ ((Gz (G9 SZ.out.bO BZ.out) 0).trans rfl) (fun hHeld=>?_)
          clear hK K
          refine norm_ (a':=?_) ?_ ?_
          rotate_left
          · show Act.put _ (some 45) _=_
            simp only[Act.put,List.setIfInBounds_toArray,List.set_cons_zero,List.set_cons_succ,i64_w,i32_w]
            rfl
          refine one_ (i:=5) (N:=some 46) #[true,true,true,true,true,true,false] rfl rfl (Jo HT_.out (by kernel_rfl)) (by decide) (fun K hK=>?_)
          have hgw:=(Array.getElem?_eq_some_iff.1 SZ.out.bO).1
          refine Kd.N_append_rows_step (Kd.slice 3 (Kd.int .i64)) (w0:=w0) w0.heap.size (by rfl) (.tmp 41) (.tmp 45) 23 22 (.slice none 0 0) 24 rfl Try.underlying23 info22 rfl (by decide) (by omega) v ys [p] _ _ _ (fun k=>w0.heap.size<=k/\k≠gO) (fun k=>(w0.heap.size<=k/\k≠gO)/\some k≠v.ownBlock) rfl rfl ?aO ?aR (fun _ hk=>hk) ?aF ?aB ?aS ?aL ?_
          (case aO=>exact Kd.N_below SZ.out.hN BZ.out)
          (case aR=>exact Kd.F_mono (Kd.N_F HO3.out) (fun k hk=>⟨⟨Nat.le_trans SZ.out.hB.size hk,fun e=>by omega⟩,fun e=>by have:=Kd.N_lt SZ.out.hN k e.symm;omega⟩))
          (case aF=>exact fun k hk=>⟨Nat.le_trans SZ.out.hB.size (Nat.le_trans BZ.out.size hk),fun e=>by have:=BZ.out.size;omega⟩)
          (case aB=>exact Jh SZ.out.hB BZ.out)
          (case aS=>exact Nat.le_trans SZ.out.hB.size BZ.out.size)
          (case aL=>have z:=HBd.out;rw[Nat.succ_mul] at z;simp;omega)
          intro v46 wd ho hb hg hat
          obtain⟨zs,hzs⟩:∃zs,zs=ys ++ [p]:=⟨_,rfl⟩
          rw[<- hzs] at ho
          have NZ:=Gy.mk hzs
          clear hzs
          obtain⟨hbO,hS4,hK4⟩:=after_put nBO nWO gO0 SZ.out BZ.out hb hg hat ho
          have HBO:=Gy.mk hbO
          have HS4:=Gy.mk hS4
          have HK4:=Gy.mk hK4
          clear hbO hS4 hK4 ho hb hg hat
          refine hK.out _ _ ((Gz HBO.out 0).trans rfl) (fun hHeld=>?_)
          clear hK K
          refine norm_ (a':=?_) ?_ ?_
          rotate_left
          · show Act.put _ (some 46) _=_
            simp only[Act.put,List.setIfInBounds_toArray,List.set_cons_zero,List.set_cons_succ,i64_w,i32_w]
            rfl
          refine last_ (i:=6) (N:=none) #[true,true,true,true,true,true,true] rfl rfl (by kernel_rfl) (by decide) (fun K hK=>?_)
          have hs46:wd.cell? ⟨gO,0,none⟩=some v:=(Gz HBO.out 0).trans rfl
          have hfs46:=G8 HBO.out 0
          obtain⟨A46,c46,e46⟩:=Kd.N_slice HS4.out.hN
          subst e46
          refine skip_ (w1:=?_) (by rfl) rfl ?_ ?_
          rotate_left
          · go_simp
            rfl
          refine hK.out _ _ ?_
          clear hK K
          refine done_ (by kernel_rfl) ?_
          try go_wp2
          go_roundg k1
          case measure=>omega
          case rel=>exact⟨j + 1,_,zs,by omega,(by first|rw[HWJ.out]|go_num),⟨by(repeat(first|with_reducible refine St.drewN ?_ _|with_reducible refine St.drew ?_));exact HS4.out⟩,⟨by(repeat(first|with_reducible refine Kp.drewN ?_ _|with_reducible refine Kp.drew ?_));exact Kp.trans KZ.out HK4.out⟩,⟨by have z:=HE.out;rw[rowI,HONE.out] at z;rw[NZ.out,List.append_assoc];exact z⟩,⟨by have z:=HBd.out;rw[Nat.succ_mul] at z;rw[NZ.out,List.length_append,List.length_singleton];omega⟩⟩
        have c4:((j:Int) == hv)=false:=beq_eq_false_iff_ne.mpr heq
        obtain⟨kc,hkc⟩:=contains_ev p (j:Int) (by omega)
        by_cases hin:(j:Int) ∈ p
        · have HNIL:Gy (stepI (walkI d m) p row j=[]):=⟨by rw[HG.out,if_neg (fun z=>z.elim ht0 hlo),if_neg heq,if_pos hin]⟩
          rw[decide_eq_true hin] at hkc
          have HK:=Gy.mk hkc
          clear HG ht0 hlo heq hin hkc
          go_wp2_with (go_at_call 116;refine(Gh.calls kc _ _ p (j:Int) true _ ?s1 hcP HK.out).mono ?_;(case s1=>repeat(first|exact HC.out|(with_reducible refine Kd.C_drewN ?_ _)|(with_reducible refine Kd.C_drew ?_)));rintro e w9 ⟨rfl,⟨nd,rfl⟩⟩)
          go_roundg k1
          case measure=>omega
          case rel=>exact⟨j + 1,v,ys,by omega,(by first|rw[HWJ.out]|go_num),⟨by(repeat(first|with_reducible refine St.drewN ?_ _|with_reducible refine St.drew ?_));exact SS.out⟩,⟨by(repeat(first|with_reducible refine Kp.drewN ?_ _|with_reducible refine Kp.drew ?_));exact KK.out⟩,⟨by have:=HE.out;rw[rowI,HNIL.out,List.nil_append] at this;exact this⟩,⟨by have:=HBd.out;rw[Nat.succ_mul] at this;omega⟩⟩
        have HREC:Gy (stepI (walkI d m) p row j=walkI d m (p ++ [(j:Int)])):=⟨by rw[HG.out,if_neg (fun z=>z.elim ht0 hlo),if_neg heq,if_neg hin]⟩
        rw[decide_eq_false hin] at hkc
        have HK:=Gy.mk hkc
        have hjh:hv < (j:Int):=by omega
        clear HG ht0 hlo heq hkc
        go_upto_region 8 with(go_at_call 116;refine(Gh.calls kc _ _ p (j:Int) false _ ?s1 hcP HK.out).mono ?_;(case s1=>repeat(first|exact HC.out|(with_reducible refine Kd.C_drewN ?_ _)|(with_reducible refine Kd.C_drew ?_)));rintro e w9 ⟨rfl,⟨nd,rfl⟩⟩)
        try go_wp2
        have SZ:=Gy.mk (St.drew (St.drewN SS.out nd))
        have KZ:=Gy.mk (Kp.drew (Kp.drewN KK.out nd))
        have PZ:=Gy.mk (Pa.kp HPw.out (Kp.drew (Kp.drewN Kp.refl nd)))
        have BZ:=Gy.mk (Below.refl (wr.drewN nd).drew.heap.size (wr.drewN nd).drew)
        have HLP:=Gy.mk (show p.length<=4 by omega)
        have HIN:=Gy.mk hin
        clear hin
        refine start_ (n:=8) (S:=fun w'=>w'.cell? ⟨gW,0,none⟩=some (.func (.func 115) #[] #[.pointer (some ⟨gB,0,none⟩), .pointer (some ⟨gO,0,none⟩), .pointer (some ⟨gW,0,none⟩)])) (ds:=[]) #[false,false,false,false,false,false,false,false] (by kernel_rfl) rfl rfl ((Gz SZ.out.bW 0).trans rfl) (fun hHeld=>?_);refine Jm tab8 bits8 (fun HT_ HW_=>?_)
        clear SS KK HPw HC hrw2 hp1
        generalize (wr.drewN nd).drew=wz at SZ KZ PZ BZ hHeld |-
        refine pure_ (i:=2) (N:=some 54) (v:=?_) (a':=?_) #[false,false,true,false,false,false,false,false] rfl rfl (any_of HT_.out (by kernel_rfl)) (fun _ _ _ h=>h) (Or.inl ⟨by rfl,?_⟩) ?_ ?_
        rotate_left
        · intro w'
          go_simp
          with_reducible rfl
        rotate_left
        · simp only[Act.put,List.setIfInBounds_toArray,List.set_cons_zero,List.set_cons_succ,i64_w,i32_w]
          rfl
        refine pure_ (i:=4) (N:=some 56) (v:=?_) (a':=?_) #[false,false,true,false,true,false,false,false] rfl rfl (any_of HT_.out (by kernel_rfl)) (fun _ _ _ h=>h) (Or.inl ⟨by rfl,?_⟩) ?_ ?_
        rotate_left
        · intro w'
          go_simp
          with_reducible rfl
        rotate_left
        · simp only[Act.put,List.setIfInBounds_toArray,List.set_cons_zero,List.set_cons_succ,i64_w,i32_w]
          rfl
        refine take_ (i:=0) (N:=some 52) (v:=?_) (a':=?_) #[true,false,true,false,true,false,false,false] rfl rfl (take_ofW HT_.out HW_.out (by kernel_rfl)) (fun _ _ _ h=>h) (Or.inl ⟨by rfl,?_⟩) hHeld ?_ ?_
        rotate_left
        · rintro w' s0
          go_simp
          with_reducible rfl
        rotate_left
        · simp only[Act.put,List.setIfInBounds_toArray,List.set_cons_zero,List.set_cons_succ,i64_w,i32_w]
          rfl
        refine join_ (σ:=Value × Value × Value) 2 #[true,true,true,true,true,true,false,false] (fun s_=>[(53,s_.1),(55,s_.2.1),(57,s_.2.2)]) (fun s_ w'=>(w'.cell? ⟨gW,0,none⟩=some (.func (.func 115) #[] #[.pointer (some ⟨gB,0,none⟩), .pointer (some ⟨gO,0,none⟩), .pointer (some ⟨gW,0,none⟩)]))/\Kd.R (Kd.int .i64) 3 w' wz.heap.size (fun _=>True) s_.2.1 p/\Kd.R (Kd.int .i64) 3 w' wz.heap.size (fun k=>True/\some k≠(s_.2.1:Value).ownBlock) s_.2.2 [(j:Int)]/\Below wz.heap.size wz w') ?_ ?_
        rotate_left
        · intro hCont
          refine two_ (i:=1) (j:=5) (Ni:=some 53) (Nj:=some 57) #[true,true,true,false,true,false,false,false] #[true,false,true,false,true,true,false,false] rfl rfl rfl rfl (two_of HT_.out (by kernel_rfl)) (by decide) (by decide) (fun K hK=>?_) (fun K hK=>?_)
          · skip
            refine Kd.R_lit_step (Kd.int .i64) _ 3 ?hg (N:=53) ?hd (xs:=([]:List Int)) (inner:=[]) (ok:=fun _=>True) (okp:=fun _=>True) ?hr ?hp (fun _ hk=>hk) trivial (Below.refl _ _) (Nat.le_refl _) (by simp) ?_
            (case hd=>rfl)
            (case hg=>rfl)
            (case hr=>first|(go_simp;done)|(go_simp;rfl))
            (case hp=>exact(Reps.none _ _))
            intro v53 wa_ ho hb hg_ hnew_
            clear hg_ hnew_
            have HO53:=Gy.mk (Kd.R_lower ho BZ.out.size)
            have n0_:=Gy.mk (Jh BZ.out hb)
            clear BZ hb ho
            have BZ:=n0_
            clear n0_
            refine hK.out _ _ (Gz (G9 SZ.out.bW BZ.out) 0 |>.trans rfl) (fun hHeld=>?_)
            clear hK K
            refine norm_ (a':=?_) ?_ ?_
            rotate_left
            · show Act.put _ (some 53) _=_
              simp only[Act.put,List.setIfInBounds_toArray,List.set_cons_zero,List.set_cons_succ,i64_w,i32_w]
              rfl
            refine two_ (i:=3) (j:=5) (Ni:=some 55) (Nj:=some 57) #[true,true,true,true,true,false,false,false] #[true,true,true,false,true,true,false,false] rfl rfl rfl rfl (two_of HT_.out (by kernel_rfl)) (by decide) (by decide) (fun K hK=>?_) (fun K hK=>?_)
            · skip
              refine Kd.R_append_rows_step (Kd.int .i64) (w0:=wz) wz.heap.size (by rfl) (.tmp 53) (.tmp 54) 22 3 (.int .i64 0) 8 rfl Try.underlying22 info3 rfl (by decide) (by omega) v53 [] p _ _ _ (fun _=>True) (fun _=>False) rfl rfl ?aO ?aR (fun _ _ h=>h) (fun _ h=>h.elim) ?aF ?aB ?aS ?aL ?_
              (case aR=>exact(Foot.now (Kd.F_below PZ.out BZ.out)))
              (case aB=>exact BZ.out)
              (case aF=>exact fun _ _=>trivial)
              (case aO=>exact HO53.out)
              (case aS=>exact BZ.out.size)
              (case aL=>(try simp only[List.length_nil,List.length_cons]);have:=HLP.out;omega)
              intro v55 wb_ ho hb hg hat
              rw[List.nil_append] at ho
              have HO55:=Gy.mk ho
              clear BZ HO53
              have BZ:=Gy.mk hb
              clear ho hb hg hat
              refine hK.out _ _ (Gz (G9 SZ.out.bW BZ.out) 0 |>.trans rfl) (fun hHeld=>?_)
              clear hK K
              refine norm_ (a':=?_) ?_ ?_
              rotate_left
              · show Act.put _ (some 55) _=_
                simp only[Act.put,List.setIfInBounds_toArray,List.set_cons_zero,List.set_cons_succ,i64_w,i32_w]
                rfl
              refine one_ (i:=5) (N:=some 57) #[true,true,true,true,true,true,false,false] rfl rfl (Jo HT_.out (by kernel_rfl)) (by decide) (fun K hK=>?_)
              refine Kd.R_lit_step (Kd.int .i64) _ 3 ?hg (N:=57) ?hd (xs:=([(j:Int)]:List Int)) (inner:=[.int .i64 (j:Int)]) (ok:=fun _=>True) (okp:=fun _=>True) ?hr ?hp (fun _ hk=>hk) trivial (Below.refl _ _) (Nat.le_refl _) (by simp) ?_
              (case hd=>rfl)
              (case hg=>rfl)
              (case hr=>first|(go_simp;done)|(go_simp;rfl))
              (case hp=>exact(Reps.one (show Kd.M (Kd.int .i64) _ _ _ (j:Int) [.int .i64 (j:Int)] from rfl) (Reps.none _ _)))
              intro v57 wa_ ho hb hg_ hnew_
              clear hg_ hnew_
              have HO57:=Gy.mk (Kd.R_lower (Kd.R_new' (u:=v55) ho (Kd.R_lt HO55.out)) BZ.out.size)
              have m0_:=Gy.mk (Kd.R_below HO55.out hb)
              clear HO55
              have HO55:=m0_
              clear m0_
              have n0_:=Gy.mk (Jh BZ.out hb)
              clear BZ hb ho
              have BZ:=n0_
              clear n0_
              refine hK.out _ _ (Gz (G9 SZ.out.bW BZ.out) 0 |>.trans rfl) (fun hHeld=>?_)
              clear hK K
              refine norm_ (a':=?_) ?_ ?_
              rotate_left
              · show Act.put _ (some 57) _=_
                simp only[Act.put,List.setIfInBounds_toArray,List.set_cons_zero,List.set_cons_succ,i64_w,i32_w]
                rfl
              exact norm_ (by simp only[putAll,Act.put,List.setIfInBounds_toArray,List.set_cons_zero,List.set_cons_succ]) (hCont (v53,v55,v57) _ ⟨hHeld,HO55.out,HO57.out,BZ.out⟩)
            · skip
              refine Kd.R_lit_step (Kd.int .i64) _ 3 ?hg (N:=57) ?hd (xs:=([(j:Int)]:List Int)) (inner:=[.int .i64 (j:Int)]) (ok:=fun _=>True) (okp:=fun _=>True) ?hr ?hp (fun _ hk=>hk) trivial (Below.refl _ _) (Nat.le_refl _) (by simp) ?_
              (case hd=>rfl)
              (case hg=>rfl)
              (case hr=>first|(go_simp;done)|(go_simp;rfl))
              (case hp=>exact(Reps.one (show Kd.M (Kd.int .i64) _ _ _ (j:Int) [.int .i64 (j:Int)] from rfl) (Reps.none _ _)))
              intro v57 wa_ ho hb hg_ hnew_
              clear hg_ hnew_
              have HO57:=Gy.mk (Kd.R_lower (Kd.R_new' (u:=v53) ho (Kd.R_lt HO53.out)) BZ.out.size)
              have m0_:=Gy.mk (Kd.R_below HO53.out hb)
              clear HO53
              have HO53:=m0_
              clear m0_
              have n0_:=Gy.mk (Jh BZ.out hb)
              clear BZ hb ho
              have BZ:=n0_
              clear n0_
              refine hK.out _ _ (Gz (G9 SZ.out.bW BZ.out) 0 |>.trans rfl) (fun hHeld=>?_)
              clear hK K
              refine norm_ (a':=?_) ?_ ?_
              rotate_left
              · show Act.put _ (some 57) _=_
                simp only[Act.put,List.setIfInBounds_toArray,List.set_cons_zero,List.set_cons_succ,i64_w,i32_w]
                rfl
              refine one_ (i:=3) (N:=some 55) #[true,true,true,true,true,true,false,false] rfl rfl (Jo HT_.out (by kernel_rfl)) (by decide) (fun K hK=>?_)
              refine Kd.R_append_rows_step (Kd.int .i64) (w0:=wz) wz.heap.size (by rfl) (.tmp 53) (.tmp 54) 22 3 (.int .i64 0) 8 rfl Try.underlying22 info3 rfl (by decide) (by omega) v53 [] p _ _ _ (fun _=>True) (fun _=>False) rfl rfl ?aO ?aR (fun _ _ h=>h) (fun _ h=>h.elim) ?aF ?aB ?aS ?aL ?_
              (case aR=>exact(Foot.now (Kd.F_below PZ.out BZ.out)))
              (case aB=>exact BZ.out)
              (case aF=>exact fun _ _=>trivial)
              (case aO=>exact HO53.out)
              (case aS=>exact BZ.out.size)
              (case aL=>(try simp only[List.length_nil,List.length_cons]);have:=HLP.out;omega)
              intro v55 wb_ ho hb hg hat
              rw[List.nil_append] at ho
              have m0_:=Gy.mk (Kd.R_after (ok:=fun _=>True) HO57.out hg hat)
              clear HO57
              have HO57:=m0_
              clear m0_
              have HO55:=Gy.mk ho
              clear BZ HO53
              have BZ:=Gy.mk hb
              clear ho hb hg hat
              refine hK.out _ _ (Gz (G9 SZ.out.bW BZ.out) 0 |>.trans rfl) (fun hHeld=>?_)
              clear hK K
              refine norm_ (a':=?_) ?_ ?_
              rotate_left
              · show Act.put _ (some 55) _=_
                simp only[Act.put,List.setIfInBounds_toArray,List.set_cons_zero,List.set_cons_succ,i64_w,i32_w]
                rfl
              exact norm_ (by simp only[putAll,Act.put,List.setIfInBounds_toArray,List.set_cons_zero,List.set_cons_succ]) (hCont (v53,v55,v57) _ ⟨hHeld,HO55.out,HO57.out,BZ.out⟩)
          · skip
            refine Kd.R_lit_step (Kd.int .i64) _ 3 ?hg (N:=57) ?hd (xs:=([(j:Int)]:List Int)) (inner:=[.int .i64 (j:Int)]) (ok:=fun _=>True) (okp:=fun _=>True) ?hr ?hp (fun _ hk=>hk) trivial (Below.refl _ _) (Nat.le_refl _) (by simp) ?_
            (case hd=>rfl)
            (case hg=>rfl)
            (case hr=>first|(go_simp;done)|(go_simp;rfl))
            (case hp=>exact(Reps.one (show Kd.M (Kd.int .i64) _ _ _ (j:Int) [.int .i64 (j:Int)] from rfl) (Reps.none _ _)))
            intro v57 wa_ ho hb hg_ hnew_
            clear hg_ hnew_
            have HO57:=Gy.mk (Kd.R_lower ho BZ.out.size)
            have n0_:=Gy.mk (Jh BZ.out hb)
            clear BZ hb ho
            have BZ:=n0_
            clear n0_
            refine hK.out _ _ (Gz (G9 SZ.out.bW BZ.out) 0 |>.trans rfl) (fun hHeld=>?_)
            clear hK K
            refine norm_ (a':=?_) ?_ ?_
            rotate_left
            · show Act.put _ (some 57) _=_
              simp only[Act.put,List.setIfInBounds_toArray,List.set_cons_zero,List.set_cons_succ,i64_w,i32_w]
              rfl
            refine one_ (i:=1) (N:=some 53) #[true,true,true,false,true,true,false,false] rfl rfl (Jo HT_.out (by kernel_rfl)) (by decide) (fun K hK=>?_)
            refine Kd.R_lit_step (Kd.int .i64) _ 3 ?hg (N:=53) ?hd (xs:=([]:List Int)) (inner:=[]) (ok:=fun _=>True) (okp:=fun _=>True) ?hr ?hp (fun _ hk=>hk) trivial (Below.refl _ _) (Nat.le_refl _) (by simp) ?_
            (case hd=>rfl)
            (case hg=>rfl)
            (case hr=>first|(go_simp;done)|(go_simp;rfl))
            (case hp=>exact(Reps.none _ _))
            intro v53 wa_ ho hb hg_ hnew_
            clear hg_ hnew_
            have m0_:=Gy.mk (Kd.R_elder' (v:=v53) HO57.out (Kd.R_base ho) hb)
            clear HO57
            have HO57:=m0_
            clear m0_
            have HO53:=Gy.mk (Kd.R_lower ho BZ.out.size)
            have n0_:=Gy.mk (Jh BZ.out hb)
            clear BZ hb ho
            have BZ:=n0_
            clear n0_
            refine hK.out _ _ (Gz (G9 SZ.out.bW BZ.out) 0 |>.trans rfl) (fun hHeld=>?_)
            clear hK K
            refine norm_ (a':=?_) ?_ ?_
            rotate_left
            · show Act.put _ (some 53) _=_
              simp only[Act.put,List.setIfInBounds_toArray,List.set_cons_zero,List.set_cons_succ,i64_w,i32_w]
              rfl
            refine one_ (i:=3) (N:=some 55) #[true,true,true,true,true,true,false,false] rfl rfl (Jo HT_.out (by kernel_rfl)) (by decide) (fun K hK=>?_)
            refine Kd.R_append_rows_step (Kd.int .i64) (w0:=wz) wz.heap.size (by rfl) (.tmp 53) (.tmp 54) 22 3 (.int .i64 0) 8 rfl Try.underlying22 info3 rfl (by decide) (by omega) v53 [] p _ _ _ (fun _=>True) (fun _=>False) rfl rfl ?aO ?aR (fun _ _ h=>h) (fun _ h=>h.elim) ?aF ?aB ?aS ?aL ?_
            (case aR=>exact(Foot.now (Kd.F_below PZ.out BZ.out)))
            (case aB=>exact BZ.out)
            (case aF=>exact fun _ _=>trivial)
            (case aO=>exact HO53.out)
            (case aS=>exact BZ.out.size)
            (case aL=>(try simp only[List.length_nil,List.length_cons]);have:=HLP.out;omega)
            intro v55 wb_ ho hb hg hat
            rw[List.nil_append] at ho
            have m0_:=Gy.mk (Kd.R_after (ok:=fun _=>True) HO57.out hg hat)
            clear HO57
            have HO57:=m0_
            clear m0_
            have HO55:=Gy.mk ho
            clear BZ HO53
            have BZ:=Gy.mk hb
            clear ho hb hg hat
            refine hK.out _ _ (Gz (G9 SZ.out.bW BZ.out) 0 |>.trans rfl) (fun hHeld=>?_)
            clear hK K
            refine norm_ (a':=?_) ?_ ?_
            rotate_left
            · show Act.put _ (some 55) _=_
              simp only[Act.put,List.setIfInBounds_toArray,List.set_cons_zero,List.set_cons_succ,i64_w,i32_w]
              rfl
            exact norm_ (by simp only[putAll,Act.put,List.setIfInBounds_toArray,List.set_cons_zero,List.set_cons_succ]) (hCont (v53,v55,v57) _ ⟨hHeld,HO55.out,HO57.out,BZ.out⟩)
        rintro⟨v53,v55,v57⟩ w53 ⟨hHeld,h0_,h1_,h2_⟩
        clear BZ
        have HO55:=Gy.mk h0_
        have HO57:=Gy.mk h1_
        have BZ:=Gy.mk h2_
        clear h0_ h1_ h2_
        obtain⟨A57,c57,e57⟩:=Kd.R_slice HO57.out
        subst e57
        refine norm_ (a':=?_) ?_ ?_
        rotate_left
        · simp only[putAll,Act.put,List.setIfInBounds_toArray,List.set_cons_zero,List.set_cons_succ]
          rfl
        refine one_ (i:=6) (N:=some 58) #[true,true,true,true,true,true,true,false] rfl rfl (Jo HT_.out (by kernel_rfl)) (by decide) (fun K hK=>?_)
        refine Kd.R_append_rows_step (Kd.int .i64) (w0:=wz) wz.heap.size (by rfl) (.tmp 55) (.tmp 57) 22 3 (.int .i64 0) 8 rfl Try.underlying22 info3 rfl (by decide) (by omega) v55 p [(j:Int)] _ _ _ (fun _=>True) (fun _=>False) rfl rfl ?aO ?aR (fun _ _ h=>h) (fun _ h=>h.elim) ?aF ?aB ?aS ?aL ?_
        (case aR=>exact(Kd.R_reads' HO57.out).2.2)
        (case aB=>exact BZ.out)
        (case aF=>exact fun _ _=>trivial)
        (case aO=>exact HO55.out)
        (case aS=>exact BZ.out.size)
        (case aL=>(try simp only[List.length_nil,List.length_cons]);have:=HLP.out;omega)
        intro v58 wb_ ho hb hg hat
        have HO58:=Gy.mk ho
        clear HO57
        clear BZ HO55
        have BZ:=Gy.mk hb
        clear ho hb hg hat
        have SY:=Gy.mk (St.below SZ.out BZ.out)
        have KY:=Gy.mk (Kp.trans KZ.out (Kp.below BZ.out))
        refine hK.out _ _ (Gz (G9 SZ.out.bW BZ.out) 0 |>.trans rfl) (fun hHeld=>?_)
        clear hK K
        refine norm_ (a':=?_) ?_ ?_
        rotate_left
        · show Act.put _ (some 58) _=_
          simp only[Act.put,List.setIfInBounds_toArray,List.set_cons_zero,List.set_cons_succ,i64_w,i32_w]
          rfl
        obtain⟨A58,c58,e58⟩:=Kd.R_slice HO58.out
        subst e58
        have HP58:Gy (Pa gO wb_ v A58 (p ++ [(j:Int)])):=⟨Kd.F_mono (Kd.R_F (Kd.R_bound HO58.out)) (fun k hk=>⟨fun e=>by have h5:=hk.2.1;have h6:=blk_lt SZ.out.bO;omega,fun e=>by have h5:=hk.2.1;have h6:=Kd.N_lt SZ.out.hN k e.symm;omega⟩)⟩
        have hc58:=(Kd.R_reads' HO58.out).2.1
        refine one_ (i:=7) (N:=some 59) #[true,true,true,true,true,true,true,true] rfl rfl (Jo HT_.out (by kernel_rfl)) (by decide) (fun K hK=>?_)
        have he:=enters_ Try.func115 (by kernel_rfl) rfl #[.slice A58 (p ++ [(j:Int)]).length c58, .pointer (some ⟨gB,0,none⟩), .pointer (some ⟨gO,0,none⟩), .pointer (some ⟨gW,0,none⟩)] wb_
        refine call_ 115 #[.slice A58 (p ++ [(j:Int)]).length c58, .pointer (some ⟨gB,0,none⟩), .pointer (some ⟨gO,0,none⟩), .pointer (some ⟨gW,0,none⟩)] (by rfl) rfl ?hr ?_
        (case hr=>unfold execOp;simp[resolve,Deferred.ofValue,invoke,Act.eval,he])
        refine(walk hD sq h4 nBO nOB nWO nOW nBW nWB gO0 m (p ++ [(j:Int)]) ?s1 ?s2 ?s3 ?s4 A58 c58 wb_ v ys hc58 ?s5 SY.out HP58.out).mono ?_
        (case s1=>simp)
        (case s2=>exact fun x hx=>(List.mem_append.1 hx).elim (fun z=>hr x z) (fun z=>by have:=List.mem_singleton.1 z;have:=HSQ.out;omega))
        (case s3=>exact List.nodup_append.2 ⟨hnd,(by simp),fun a ha b hb e=>HIN.out (by rw[<- List.mem_singleton.1 hb, <- e];exact ha)⟩)
        (case s4=>rw[List.length_append,List.length_singleton];omega)
        (case s5=>have z:=HBd.out;rw[Nat.succ_mul] at z;omega)
        rintro e w9 ⟨rfl,v9,hs9,hk9⟩
        refine⟨_,rfl,?_⟩
        have HS9:=Gy.mk hs9
        have HK9:=Gy.mk (Kp.trans KY.out hk9)
        clear hs9 hk9
        refine hK.out _ _ ((Gz HS9.out.bW 0).trans rfl) (fun hHeld=>?_)
        clear hK K
        refine done_ (by kernel_rfl) ?_
        try go_wp2
        go_roundg k1
        case measure=>omega
        case rel=>exact⟨j + 1,v9,_,by omega,(by first|rw[HWJ.out]|go_num),⟨by(repeat(first|with_reducible refine St.drewN ?_ _|with_reducible refine St.drew ?_));exact HS9.out⟩,⟨by(repeat(first|with_reducible refine Kp.drewN ?_ _|with_reducible refine Kp.drew ?_));exact HK9.out⟩,⟨by have z:=HE.out;rw[rowI,HREC.out] at z;rw[List.append_assoc];exact z⟩,⟨by have z:=HBd.out;rw[Nat.succ_mul] at z;have y:=walk_len sq h4 m (p ++ [(j:Int)]);rw[List.length_append];omega⟩⟩
      · obtain rfl:j=row.length:=by omega
        have hk0:gk=0:=by omega
        subst hk0
        have c3b0:decide ((row.length:Int) < (row.length:Int))=false:=decide_eq_false (by omega)
        go_wp2
        go_end0
        exact⟨rfl,v,by have:=HE.out;rw[rowI,List.append_nil] at this;rw[<- this];(repeat(first|with_reducible refine St.drewN ?_ _|with_reducible refine St.drew ?_));exact SS.out,by(repeat(first|with_reducible refine Kp.drewN ?_ _|with_reducible refine Kp.drew ?_));exact KK.out⟩
def foundI (d:List (List Int)):Nat->Nat->List (List Int)
  | 0,_=>[]
  | e + 1,i=>walkI d d.length [(i:Int)] ++ foundI d e (i + 1)
theorem lit1 {gO:Nat} {vo:Value} (w:World) (i:Int) (h1:gO < w.heap.size) (h2:∀k,vo.ownBlock=some k->k < w.heap.size):Pa gO (w.alloc (.cells #[.int .i64 i] 3)) vo (some ⟨w.heap.size,0,none⟩) [i]:=by
  have hR:Kd.R (Kd.int .i64) 3 (w.alloc (.cells #[.int .i64 i] 3)) w.heap.size (fun _=>True) (.slice (some ⟨w.heap.size,0,none⟩) 1 1) [i]:=by
    refine⟨fun _ _=>trivial,[.int .i64 i],World.ownsRow_lit w #[.int .i64 i] 1 (Nat.le_refl _) (by decide) rfl,Reps.one (show Kd.M (Kd.int .i64) _ _ _ i [.int .i64 i] from rfl) (Reps.none _ _)⟩
  exact Kd.F_mono (Kd.R_F (Kd.R_bound hR)) (fun k hk=>⟨fun e=>by have:=hk.2.1;omega,fun e=>by have:=hk.2.1;have:=h2 k e.symm;omega⟩)
theorem size_alloc_ (w:World) (o:Obj):(w.alloc o).heap.size=w.heap.size + 1:=by rw[show(w.alloc o).heap=w.heap.push o from rfl,Array.size_push]
def at4 (w:World) (C1 C2 C3 C4:Array Value):World:=(((w.alloc (.cells C1 25)).alloc (.cells C2 22)).alloc (.cells C3 23)).alloc (.cells C4 115)
theorem at4_1 (w:World) (C1 C2 C3 C4:Array Value):(at4 w C1 C2 C3 C4).heap[w.heap.size]? = some (.cells C1 25 (0,0)):=G5 (G5 (G5 (blk_new w _) _) _) _
theorem at4_3 (w:World) (C1 C2 C3 C4:Array Value):(at4 w C1 C2 C3 C4).heap[w.heap.size + 1 + 1]? = some (.cells C3 23 (0,0)):=by
  have:=blk_new ((w.alloc (.cells C1 25)).alloc (.cells C2 22)) (.cells C3 23)
  rw[size_alloc_,size_alloc_] at this
  exact G5 this _
theorem at4_4 (w:World) (C1 C2 C3 C4:Array Value):(at4 w C1 C2 C3 C4).heap[w.heap.size + 1 + 1 + 1]? = some (.cells C4 115 (0,0)):=by
  have:=blk_new (((w.alloc (.cells C1 25)).alloc (.cells C2 22)).alloc (.cells C3 23)) (.cells C4 115)
  rw[size_alloc_,size_alloc_,size_alloc_] at this
  exact this
theorem st_init (w:World) (AC:Option Addr) (nC cC:Nat) (AD:Option Addr) (nD cD:Nat) :
    St w w.heap.size (w.heap.size + 1 + 1) (w.heap.size + 1 + 1 + 1) AC nC cC AD nD cD (.slice (some ⟨w.heap.size + 1,0,none⟩) 0 0) []
      ((at4 w #[.slice AC nC cC, .slice AD nD cD] #[] #[.slice (some ⟨w.heap.size + 1,0,none⟩) 0 0] #[.nilFunc]).setCell ⟨w.heap.size + 1 + 1 + 1,0,none⟩
        (.func (.func 115) #[] #[.pointer (some ⟨w.heap.size,0,none⟩), .pointer (some ⟨w.heap.size + 1 + 1,0,none⟩), .pointer (some ⟨w.heap.size + 1 + 1 + 1,0,none⟩)])):=by
  have hR:Kd.N (Kd.slice 3 (Kd.int .i64)) 22 ((w.alloc (.cells #[.slice AC nC cC, .slice AD nD cD] 25)).alloc (.cells #[] 22)) w.heap.size (fun k=>w.heap.size<=k/\k≠w.heap.size + 1 + 1) (.slice (some ⟨w.heap.size + 1,0,none⟩) 0 0) []:=by
    refine⟨fun k hk=>?_,[],rfl,⟨fun k hk=>hk.symm,[],?_,Reps.none _ _⟩,fun j x c hx _=>by simp at hx⟩
    · have:w.heap.size + 1=k:=by simpa [Value.ownBlock] using hk
      omega
    · have:=World.ownsRow_lit (base:=w.heap.size) (e:=22) (size:=(Kd.raw (Kd.slice 3 (Kd.int .i64)).sz).sz) (w.alloc (.cells #[.slice AC nC cC, .slice AD nD cD] 25)) #[] 0 (by rw[size_alloc_];omega) (by decide) (by simp)
      rw[size_alloc_] at this
      exact this
  refine⟨?_,Jf (at4_1 _ _ _ _ _) (by show w.heap.size≠w.heap.size + 1 + 1 + 1;omega) _,Jf (at4_3 _ _ _ _ _) (by show w.heap.size + 1 + 1≠w.heap.size + 1 + 1 + 1;omega) _,Jg (at4_4 _ _ _ _ _) 0 _ rfl,?_⟩
  · unfold at4;exact G1 (G4 (G4 (G4 (G4 (Below.refl _ _) _) _) _) _) (by omega)
  · refine Kd.N_below hR (G1 (G4 (G4 (Below.refl _ _) _) _) ?_)
    rw[size_alloc_,size_alloc_];omega
end Circ
open Circ
def Gr.f (_:Nat) (c:List Int) (d:List (List Int)):Option (List (List Int)):=
  if c.length=d.length/\d.length<=4/\(∀i,i < d.length->(d.getD i []).length=d.length)/\(foundI d d.length 0).length<=20 then some (srtL ((foundI d d.length 0).length - 1) 1 (foundI d d.length 0)) else none
set_option maxHeartbeats 8000000 in
set_option maxRecDepth 100000 in
theorem Gr.calls (k:Nat) (A0_0:Option Addr) (c0_0:Nat) (l0_0:List Int) (A0_1:Option Addr) (c0_1:Nat) (l0_1:List (List Int)) (r:List (List Int)) (w:World) (hr0_0:Kd.C (Kd.int .i64) w A0_0 l0_0.length l0_0) (hc0_0:l0_0.length<=c0_0) (hr0_1:Kd.C (Kd.slice 3 (Kd.int .i64)) w A0_1 l0_1.length l0_1) (hc0_1:l0_1.length<=c0_1) (h:Gr.f k l0_0 l0_1=some r) :
    Calls Try.prog 96 #[.agg #[.slice A0_0 l0_0.length c0_0, .slice A0_1 l0_1.length c0_1]] w fun e w'=>∃v0_:Value,e = .returned (v0_)/\Kd.N (Kd.slice 3 (Kd.int .i64)) 22 w' w.heap.size (fun k_=>(w.heap.size<=k_)) v0_ r/\Below w.heap.size w w':=by
  have hu:=Try.underlying25
  unfold Gr.f at h
  split at h
  case isFalse=>cases h
  case isTrue hh=>
  obtain⟨hcd,h4,sq,h20⟩:=hh
  have HR:=Gy.mk (Option.some.inj h)
  have HCD:=Gy.mk hcd
  clear hcd
  clear h
  have H20:=Gy.mk h20
  clear h20
  have HD:=Gy.mk hr0_1
  have HSQ:=Gy.mk sq
  clear hr0_1 sq
  have z1:w.heap.size≠w.heap.size + 1 + 1:=by omega
  have z2:w.heap.size + 1 + 1≠w.heap.size:=by omega
  have z3:w.heap.size + 1 + 1 + 1≠w.heap.size + 1 + 1:=by omega
  have z4:w.heap.size + 1 + 1≠w.heap.size + 1 + 1 + 1:=by omega
  have z5:w.heap.size≠w.heap.size + 1 + 1 + 1:=by omega
  have z6:w.heap.size + 1 + 1 + 1≠w.heap.size:=by omega
  have z7:w.heap.size<=w.heap.size + 1 + 1:=by omega
  have hst:=at4_4 w #[.slice A0_0 l0_0.length c0_0, .slice A0_1 l0_1.length c0_1] #[] #[.slice (some ⟨w.heap.size + 1,0,none⟩) 0 0] #[.nilFunc]
  have hs0:(at4 w #[.slice A0_0 l0_0.length c0_0, .slice A0_1 l0_1.length c0_1] #[] #[.slice (some ⟨w.heap.size + 1,0,none⟩) 0 0] #[.nilFunc]).cell? ⟨w.heap.size + 1 + 1 + 1,0,none⟩=some .nilFunc:=(Gz hst 0).trans rfl
  have hf0:=G8 hst 0
  unfold at4 at hs0 hf0
  clear hst
  go_enter Try.func96,Try.ntmps96
  have S0:=Gy.mk (st_init w A0_0 l0_0.length c0_0 A0_1 l0_1.length c0_1)
  unfold at4 at S0
  generalize hW4:((((w.alloc (.cells #[.slice A0_0 l0_0.length c0_0, .slice A0_1 l0_1.length c0_1] 25)).alloc (.cells #[] 22)).alloc (.cells #[.slice (some ⟨w.heap.size + 1,0,none⟩) 0 0] 23)).alloc (.cells #[.nilFunc] 115))=w4 at hs0 hf0 S0
  go_wp2_with ((with_reducible refine gate_store (t:=115) (p:=4) rfl ?_);refine store_event (t:=115) (p:=4) (v:=?vo) (w1:=w4.setCell ⟨w.heap.size + 1 + 1 + 1,0,none⟩
        (.func (.func 115) #[] #[.pointer (some ⟨w.heap.size,0,none⟩), .pointer (some ⟨w.heap.size + 1 + 1,0,none⟩), .pointer (some ⟨w.heap.size + 1 + 1 + 1,0,none⟩)])) ?hg ?ho ?hn ?hr ?_;(case ho=>rfl);(case hg=>rfl);(case hn=>rfl);(case hr=>go_simp;rw[run_store _ _ _ _ _ rfl];simp only[stored,hs0,hf0];rfl);intro w5 hw;rw[<- hw] at S0;have SS:=S0;clear S0 hs0 hf0 hW4 hw;have hz0:w5.cell? ⟨w.heap.size,0,none⟩=some (.slice A0_0 l0_0.length c0_0):=(Gz SS.out.bB 0).trans rfl)
  have h625:l0_1.length * 5 ^ l0_1.length<=4 * 625:=Nat.mul_le_mul h4 (Nat.pow_le_pow_right (by omega) h4)
  generalize hF:foundI l0_1 l0_1.length 0=F at HR H20
  have HF:=Gy.mk hF
  clear hF
  obtain⟨n,hn⟩:∃n,n=l0_1.length:=⟨_,rfl⟩
  have HN:=Gy.mk hn
  have H4:=Gy.mk h4
  clear hn h4
  have H625:=Gy.mk h625
  clear h625
  have HHR:=Gy.mk hr0_0
  clear hr0_0
  go_loopg [11] (l0_0.length) (fun kq v11 w'=>∃(j:Nat) (v:Value) (ys:List (List Int)),kq + j=l0_0.length/\v11 = .int .i64 j/\Gy (St w w.heap.size (w.heap.size + 1 + 1) (w.heap.size + 1 + 1 + 1) A0_0 l0_0.length c0_0 A0_1 l0_1.length c0_1 v ys w')/\Gy (ys ++ foundI l0_1 kq j=F)/\Gy (ys.length + kq * 5 ^ l0_1.length<=1000000))
  case atStart=>exact⟨0,_,[],by omega,rfl,⟨by(repeat(first|with_reducible refine St.drewN ?_ _|with_reducible refine St.drew ?_));exact SS.out⟩,⟨by rw[<- HF.out,List.nil_append,HCD.out]⟩,⟨by have:=H625.out;rw[HCD.out,List.length_nil];omega⟩⟩
  case round=>
    clear SS
    obtain⟨j,v,ys,hj,rfl,SS,HE,HBd⟩:=hrel
    by_cases hlt:j < l0_0.length
    · obtain⟨k1,rfl⟩:∃k1,gk=k1 + 1:=⟨gk - 1,by omega⟩
      have HWJ:Gy (wrap64 ((j:Int) + 1)=((j + 1:Nat):Int)):=⟨by have:=H4.out;have:=HCD.out;unfold wrap64;omega⟩
      have hzW:wr.cell? ⟨w.heap.size + 1 + 1 + 1,0,none⟩=some (.func (.func 115) #[] #[.pointer (some ⟨w.heap.size,0,none⟩), .pointer (some ⟨w.heap.size + 1 + 1,0,none⟩), .pointer (some ⟨w.heap.size + 1 + 1 + 1,0,none⟩)]):=(Gz SS.out.bW 0).trans rfl
      have c3b0:decide ((j:Int) < (l0_0.length:Int))=true:=decide_eq_true (by omega)
      go_wp2_with (go_at_call 115;refine(walk HD.out HSQ.out H4.out z1 z2 z3 z4 z5 z6 z7 l0_1.length [(j:Int)] (by simp) ?s2 (by simp) (by simp) _ 1 _ v ys (Nat.le_refl _) ?s5 (SS.out.below (G4 (Below.refl _ _) _)) (lit1 wr (j:Int) (blk_lt SS.out.bO) (Kd.N_lt SS.out.hN))).mono ?_;(case s2=>exact fun x hx=>by have:=List.mem_singleton.1 hx;have:=HCD.out;omega);(case s5=>have z:=HBd.out;rw[Nat.succ_mul] at z;omega);rintro e w9 ⟨rfl,v9,hs9,_⟩;have HS9:=Gy.mk hs9;clear hs9)
      go_roundg k1
      case measure=>omega
      case rel=>exact⟨j + 1,v9,_,by omega,(by first|rw[HWJ.out]|go_num),⟨by(repeat(first|with_reducible refine St.drewN ?_ _|with_reducible refine St.drew ?_));exact HS9.out⟩,⟨by have z:=HE.out;rw[foundI] at z;rw[List.append_assoc];exact z⟩,⟨by have z:=HBd.out;rw[Nat.succ_mul] at z;have y:=walk_len HSQ.out H4.out l0_1.length [(j:Int)];rw[List.length_append];omega⟩⟩
    · obtain rfl:j=l0_0.length:=by omega
      have hk0:gk=0:=by omega
      subst hk0
      have c3b0:decide ((l0_0.length:Int) < (l0_0.length:Int))=false:=decide_eq_false (by omega)
      have HYF:Gy (ys=F):=⟨by have:=HE.out;rw[foundI,List.append_nil] at this;exact this⟩
      have hzO:wr.cell? ⟨w.heap.size + 1 + 1,0,none⟩=some v:=(Gz SS.out.bO 0).trans rfl
      by_cases hys:ys=[]
      · subst hys
        obtain⟨AV,cV,eV⟩:=Kd.N_slice SS.out.hN
        have HEV:=Gy.mk eV
        clear eV
        go_wp2_with (go_at_call 117;rw[HEV.out];refine(sort117_0 AV cV _).mono ?_;rintro e w9 ⟨rfl,⟨nd,rfl⟩⟩)
        go_ret
        refine⟨_,rfl,?_,?_⟩
        · rw[<- HR.out, <- HYF.out]
          exact Kd.N_mono (ok:=fun k=>w.heap.size<=k/\k≠w.heap.size + 1 + 1) (by(repeat(first|with_reducible refine Kd.N_drewN ?_ _|with_reducible refine Kd.N_drew ?_));exact SS.out.hN) (fun _ hk=>hk.1)
        · repeat(first|(with_reducible first|exact SS.out.hB|apply G4|apply G3|apply G2)|exact SS.out.hB)
      · have hlen:0 < ys.length:=List.length_pos_iff.2 hys
        obtain⟨g,cap,eV,hg,hgl,_⟩:=Kd.N_form SS.out.hN hlen
        have HEV:=Gy.mk eV
        have HN9:=Gy.mk (show Kd.N (Kd.slice 3 (Kd.int .i64)) 22 wr w.heap.size (fun k=>w.heap.size<=k/\k≠w.heap.size + 1 + 1) (.slice (some ⟨g,0,none⟩) ys.length cap) ys from eV ▸ SS.out.hN)
        have hgO:g≠w.heap.size + 1 + 1:=(SS.out.hN.1 g (by rw[eV];simp[Value.ownBlock])).2
        have HGO:=Gy.mk hgO
        have HG:=Gy.mk hg
        have h20:ys.length<=20:=by rw[HYF.out];exact H20.out
        clear eV hgO hg hgl hys hlen
        go_wp2_with (go_at_call 117;rw[HEV.out];refine(sort117 (show Kd.N (Kd.slice 3 (Kd.int .i64)) 22 _ w.heap.size (fun k=>w.heap.size<=k/\k≠w.heap.size + 1 + 1) (.slice (some ⟨g,0,none⟩) ys.length cap) ys by(repeat(first|with_reducible refine Kd.N_drewN ?_ _|with_reducible refine Kd.N_drew ?_));exact HN9.out) h20).mono ?_;rintro e w9 ⟨rfl,hs9⟩;have HS9:=Gy.mk hs9;clear hs9;have hzO9:w9.cell? ⟨w.heap.size + 1 + 1,0,none⟩=some v:=(Gz ((HS9.out.2.1.2 _ (blk_lt SS.out.bO) (fun e=>HGO.out e.symm)).trans SS.out.bO) 0).trans rfl)
        go_ret
        refine⟨_,rfl,?_,?_⟩
        · rw[<- HR.out, <- HYF.out,HEV.out]
          exact Kd.N_mono (ok:=fun k=>w.heap.size<=k/\k≠w.heap.size + 1 + 1) (by(repeat(first|with_reducible refine Kd.N_drewN ?_ _|with_reducible refine Kd.N_drew ?_));exact HS9.out.1) (fun _ hk=>hk.1)
        · have hBB:Below w.heap.size w w9:=⟨HS9.out.2.2.1.trans SS.out.hB.os,HS9.out.2.2.2.1.trans SS.out.hB.tape,HS9.out.2.2.2.2.trans SS.out.hB.output,Nat.le_trans SS.out.hB.size HS9.out.2.1.1,fun i hi=>(HS9.out.2.1.2 i (Nat.lt_of_lt_of_le hi SS.out.hB.size) (fun e=>by have:=HG.out;omega)).trans (SS.out.hB.block i hi)⟩
          repeat(first|(with_reducible first|exact hBB|apply G4|apply G3|apply G2)|exact hBB)
end
end Go.Proofs.Ytfooakkhkehpiaa.PU
namespace Go.Proofs.Ytfooakkhkehpiaa.PU
open Go.RowKit Go.Proofs.YtfooakkhkehpiaaW.PrintWords Go.Proofs.YtfooakkhkehpiaaW.PrintLast Go.Proofs.YtfooakkhkehpiaaW.PrintMore Go.Proofs.Ytfooakkhkehpiaa.Qd
attribute [local go_sem] max2_int min2_int max_two min_two max_three min_three max_four min_four
set_option linter.unusedVariables false
set_option linter.unusedSimpArgs false
mutual
def Fi.l0:Nat->List Int->Int->List Int->Int->Int->List Int->List (List Int)->List Int->List (List Int)->Option (List Int × (List (List Int)))
 | 0,_,_,_,_,_,_,_,_,_=>none
 | k + 1,x1,x6,gx,pa,kn,kc4,ed9,di3,be7=>if kn < pa then(if 0<=kn then(if kn < (gx.length:Int) then(if 0<=(rd gx kn) then(if (rd gx kn) < (ed9.length:Int) then(if (x1.length:Int)=0 then(none) else(if 0<=(Int.tmod (wrap64 (kn + 1)) (x1.length:Int)) then(if (Int.tmod (wrap64 (kn + 1)) (x1.length:Int)) < (x1.length:Int) then(if 0<=(rd x1 (Int.tmod (wrap64 (kn + 1)) (x1.length:Int))) then(if (rd x1 (Int.tmod (wrap64 (kn + 1)) (x1.length:Int))) < ((Jc ed9 (rd gx kn)).length:Int) then(Fi.l0 k x1 (mn x6 (rd (Jc ed9 (rd gx kn)) (rd x1 (Int.tmod (wrap64 (kn + 1)) (x1.length:Int))))) gx pa (wrap64 (kn + 1)) kc4 ed9 di3 be7) else(none)) else(none)) else(none)) else(none))) else(none)) else(none)) else(none)) else(none)) else(Fi.l1 k x1 x6 x1 (x1.length:Int) 0 di3 be7)
def Fi.l1:Nat->List Int->Int->List Int->Int->Int->List Int->List (List Int)->Option (List Int × (List (List Int)))
 | 0,_,_,_,_,_,_,_=>none
 | k + 1,x1,x6,x38,x39,wk,di3,be7=>if wk < x39 then(if 0<=wk then(if wk < (x38.length:Int) then(if 0<=(rd x38 wk) then(if (rd x38 wk) < (be7.length:Int) then(if (x1.length:Int)=0 then(none) else(if 0<=(Int.tmod (wrap64 (wk + 1)) (x1.length:Int)) then(if (Int.tmod (wrap64 (wk + 1)) (x1.length:Int)) < (x1.length:Int) then(if 0<=(rd x1 (Int.tmod (wrap64 (wk + 1)) (x1.length:Int))) then(if (rd x1 (Int.tmod (wrap64 (wk + 1)) (x1.length:Int))) < ((Jc be7 (rd x38 wk)).length:Int) then(Fi.l1 k x1 x6 x38 x39 (wrap64 (wk + 1)) di3 (be7.set ((rd x38 wk):Int).toNat ((Jc be7 (rd x38 wk)).set ((rd x1 (Int.tmod (wrap64 (wk + 1)) (x1.length:Int))):Int).toNat (wrap64 ((rd (Jc be7 (rd x38 wk)) (rd x1 (Int.tmod (wrap64 (wk + 1)) (x1.length:Int)))) - x6))))) else(none)) else(none)) else(none)) else(none))) else(none)) else(none)) else(none)) else(none)) else(some (di3,be7))
end
def Fi.f (k:Nat) (ab:List Int) (aa:List (List Int)) (l1:List Int):Option (List Int × (List (List Int))):=(Fo.f k ab aa).bind fun bt434=>(Fi.l0 k l1 9 l1 (l1.length:Int) 0 ab aa bt434.1 bt434.2)
def Fi.T6:Bool × List (List Nat × List Nat):=(true,[([],[]),([],[]),([1],[1]),([],[]),([2,3],[2,3]),([4],[4]),([],[]),([],[]),([7],[7]),([],[]),([9],[9]),([8,10],[8,10]),([6,11],[6,11]),([12],[12]),([5,13],[5,13]),([14],[14]),([0,15],[0,15]),([16,0,1,2,3,4,5,6,7,8,9,10,11,12,13,14,15,16],[0,16])])
def Fi.B6:List Nat:=[0,0,2,0,14,30,0,0,128,0,512,1920,4032,8128,16382,32766,65535,131071]
theorem Fi.tab6:rtab .any (opsOf Try.f97 6)=Fi.T6:=by kernel_rfl
theorem Fi.bits6:waitsOk Fi.T6.2 Fi.B6=true:=by kernel_rfl
def Fi.T11:Bool × List (List Nat × List Nat):=(true,[([],[]),([0],[0]),([],[]),([1,2],[1,2]),([3],[3]),([],[]),([],[]),([6],[6]),([],[]),([8],[8]),([7,9],[7,9]),([5,10],[5,10]),([11],[11]),([4,12],[4,12]),([13],[13]),([],[]),([14,15],[14,15]),([4,12,0,1,2,3,4,5,6,7,8,9,10,11,12,13,14,15,16],[4,12]),([17,16,0,1,2,3,4,5,6,7,8,9,10,11,12,13,14,15,16],[16,17])])
def Fi.B11:List Nat:=[0,1,0,7,15,0,0,64,0,256,960,2016,4064,8191,16383,0,65535,131071,262143]
theorem Fi.tab11:rtab .any (opsOf Try.f97 11)=Fi.T11:=by kernel_rfl
theorem Fi.bits11:waitsOk Fi.T11.2 Fi.B11=true:=by kernel_rfl
theorem am0 {p:Prop} (h:p:=by repeat(first|(with_reducible first|exact HB.out|apply G4|apply G3|apply G2|refine G1 ?_ kc5.out|refine G1 ?_ kc6.out|refine G1 ?_ kc7.out|refine G1 ?_ GB39.out)|exact HB.out)):p:=h
set_option maxHeartbeats 8000000 in
set_option maxRecDepth 100000 in
theorem Fi.calls (k:Nat) (ae:Option Addr) (ac:Nat) (ab:List Int) (ag:Option Addr) (af:Nat) (aa:List (List Int)) (A1:Option Addr) (c1:Nat) (l1:List Int) (r1:List Int) (r2:List (List Int)) (w:World) (ca:Kd.C (Kd.int .i64) w ae ab.length ab) (ce:ab.length<=ac) (cb:Kd.C (Kd.slice 3 (Kd.int .i64)) w ag aa.length aa) (cg:aa.length<=af) (j6:Kd.C (Kd.int .i64) w A1 l1.length l1) (kh:l1.length<=c1) (h:Fi.f k ab aa l1=some (r1,r2)) :
  Calls Try.prog 97 #[.agg #[.slice ae ab.length ac, .slice ag aa.length af], .slice A1 l1.length c1] w fun e w'=>∃v0_ v1_:Value,e = .returned (.agg #[v0_,v1_])/\Kd.R (Kd.int .i64) 3 w' w.heap.size (fun _=>True) v0_ r1/\Kd.S (Kd.slice 3 (Kd.int .i64)) 22 w' w.heap.size (fun k_=>some k_≠(v0_:Value).ownBlock) v1_ r2/\Below w.heap.size w w':=by
 have hu25:=Try.underlying25
 have bu:=A_ ca
 have cq:=A_ ce
 clear ca ce
 have bf:=A_ cb
 have cu:=A_ cg
 clear cb cg
 have h7:=A_ j6
 have yz:=A_ kh
 clear j6 kh
 have HB:=A_ (Below.refl w.heap.size w)
 have H:=h
 unfold Fi.f at H
 clear h
 replace H:=Option.bind_eq_some_iff.mp H
 obtain⟨⟨af3,ar1⟩,pb,H⟩:=H
 try dsimp only at H
 have A3:=A_ pb
 clear pb
 have H':=A_ H
 clear H
 go_enter Try.func97,Try.ntmps97
 go_wp2_with (first|((with_reducible refine gd_ 2 ?_);refine bx_ (N:=2) #[.slice ae ab.length ac, .slice ag aa.length af] 25 ?_;intro aa2 hg w4 hbox hb;have ny:=A_ (hbox);have mp0:=A_ ((g71_:w.heap.size<=aa2));have kc5:=mp0;replace HB:=hs_ (am0) hb;clear hb hbox hg)|((with_reducible refine gd_ 4 ?_);refine bx_ (N:=4) #[.slice none 0 0, .slice none 0 0] 25 ?_;intro xt hg w5 hbox hb;have pe:=A_ (hbox);have mp1:=A_ ((g71_:w.heap.size<=xt));have kc6:=mp1;replace HB:=hs_ (am0) hb;have hl5:=nl_ ny hg;have hl6:=nr_ ny hg;replace ny:=bb_ ny hb;clear hb hbox hg;have gb3:=hl5.out;have gb4:=hl6.out;obtain⟨sx,sy,ta,tb⟩:=blk2_ ny)|((with_reducible refine gc_ 111 ?_);refine gl_ 12 Try.func111 #[.agg #[.slice ae ab.length ac, .slice ag aa.length af]] ?_;(refine(Fo.calls k _ _ ab _ _ aa af3 ar1 _ (uf1_ bu) cq.out (uf1_ bf) cu.out A3.out).mono ?_);rintro e w8 ⟨mp2,mp3,rfl,aj,ar,hb⟩;refine⟨_,rfl,?_⟩;have ee0:=A_ (Kd.R_lower aj (G0 (am0)));have ee1:=A_ (Kd.S_lower ar (G0 (am0)));replace ny:=bb_ ny hb;replace pe:=bb_ pe hb;replace HB:=hs_ (am0) hb)|((with_reducible refine gd_ 5 ?_);refine bx_ (N:=5) #[.slice none 0 0, .slice none 0 0] 25 ?_;intro aa3 hg w9 hbox hb;replace ee0:=rb_ ee0 hb;replace ee1:=sb_ ee1 hb;have ss:=A_ (hbox);have mp4:=A_ ((g71_:w.heap.size<=aa3));have kc7:=mp4;replace HB:=hs_ (am0) hb;have ee2:=nl_ ny hg;have hl7:=nr_ ny hg;replace ny:=bb_ ny hb;have ee3:=nl_ pe hg;have hl8:=nr_ pe hg;replace pe:=bb_ pe hb;clear hb hbox hg;obtain⟨ax,av,ao5⟩:=Kd.R_slice ee0.out;subst ao5;have ah3:=hl7.out;have ah4:=ee2.out;have bv1:=hl8.out;have bv2:=ee3.out;obtain⟨tc,td,te,tf⟩:=blk2_ ss;obtain⟨es,dr,ag7⟩:=Kd.S_slice ee1.out;subst ag7))
 go_loopg [6,15] k (fun kq v6 v15 w'=>∃(jt:Int) (ed:Int),v6 = .int .i64 jt/\v15 = .int .i64 ed/\Gy (Fi.l0 kq l1 jt l1 (l1.length:Int) ed ab aa af3 ar1=some (r1,r2))/\Gy (kq<=k)/\Gy (Kd.R (Kd.int .i64) 3 w' w.heap.size (fun _=>True) (.slice ax af3.length av) af3)/\Gy (Kd.S (Kd.slice 3 (Kd.int .i64)) 22 w' w.heap.size (fun k_=>some k_≠((.slice ax af3.length av):Value).ownBlock) (.slice es ar1.length dr) ar1)/\Gy (hc_ w' aa2 #[(.slice ae ab.length ac),(.slice ag aa.length af)] 25)/\Gy (hc_ w' xt #[(.slice none 0 0),(.slice none 0 0)] 25)/\Gy (hc_ w' aa3 #[(.slice ax af3.length av),(.slice es ar1.length dr)] 25)/\Gy (Below w.heap.size w w'))
 case atStart=>exact⟨(9),(0),(g2_),(g2_),H',⟨Nat.le_refl _⟩,⟨ra_ ee0⟩,⟨sa_ ee1⟩,⟨ba_ ny⟩,⟨ba_ pe⟩,⟨ba_ ss⟩,⟨am0⟩⟩
 clear H'
 obtain⟨jt,ed,rfl,rfl,HA,HK1,ak2,tv,ny,pe,ss,HB⟩:=hrel
 cases gk with
 | zero=>exact absurd HA.out (by simp[Fi.l0])
 | succ k1=>?_
 have H:=HA.out
 clear HA
 simp only[Fi.l0] at H
 by_cases dl:ed < (l1.length:Int)
 ·rw[if_pos dl] at H
  have mb:=decide_eq_true dl
  clear dl
  obtain⟨vm,H⟩:=pd_ H
  obtain⟨vg,H⟩:=pd_ H
  obtain⟨ao9,H⟩:=pd_ H
  obtain⟨qm,H⟩:=pd_ H
  by_cases jx:(l1.length:Int)=0
  ·rw[if_pos jx] at H
   exact absurd H (by simp)
  rw[if_neg jx] at H
  have bh8:((l1.length:Int) == 0)=false:=beq_eq_false_iff_ne.mpr jx
  have hl9:((l1.length:Int) != 0)=true:=bne_iff_ne.mpr jx
  have kc8:¬ (l1=[]):=fun h_=>jx (g47_)
  obtain⟨ji21,hji21⟩:∃j_:Int,(Int.tmod (wrap64 (ed + 1)) (l1.length:Int))=j_:=⟨_,rfl⟩
  first|rw[hji21] at H|simp only[hji21] at H
  obtain⟨ao0,H⟩:=pd_ H
  obtain⟨ba3,H⟩:=pd_ H
  obtain⟨vl,H⟩:=pd_ H
  obtain⟨bh9,H⟩:=pd_ H
  obtain⟨ji26,hji26⟩:∃j_:Int,(mn jt (rd (Jc aa (rd l1 ed)) (rd l1 (ji21))))=j_:=⟨_,rfl⟩
  first|rw[hji26] at H|simp only[hji26] at H
  have hji26_:(if (rd (Jc aa (rd l1 ed)) (rd l1 (ji21))) < jt then(rd (Jc aa (rd l1 ed)) (rd l1 (ji21))) else jt)=ji26:=hji26
  have H':=A_ H
  clear H
  obtain⟨⟨hm2,kc9,fo9⟩,ee4,ee5⟩:=rdp_ (Kd.at_int h7.out ed)
  cases kc9
  replace fo9:=cl_ HB fo9
  try go_wp2
  replace ak2:=rd_ ak2
  replace tv:=sd_ tv
  replace ny:=bd_ ny
  replace pe:=bd_ pe
  replace ss:=bd_ ss
  replace HB:=A_ (G2 HB.out)
  obtain⟨⟨hm3,mp5,kd0,kd1,di4,hm4,hm5⟩,ee6,ee7⟩:=rdp_ (at_L1 bf.out (rd l1 ed))
  have kd2:=di4
  cases kd1
  replace di4:=cl_ HB di4
  have hm6:=A_ hm5
  have mp6:=A_ hm4
  clear hm5 hm4
  obtain⟨⟨kd3,kd4,di5⟩,ee8,ee9⟩:=rdp_ (Kd.at_int h7.out (ji21))
  have kd5:=di5
  obtain rfl:hm2=kd3:=(by injection kd4)
  replace di5:=cl_ HB di5
  obtain⟨⟨hm7,kd6,di6⟩,ef0,ef1⟩:=rdp_ (Kd.at_int hm6.out (rd l1 (ji21)))
  have kd7:=di6
  cases kd6
  replace di6:=cl_ HB di6
  refine start_ (n:=18) (S:=fun w'=>w'.cell? ⟨aa2,0,none⟩=some (.slice ae ab.length ac)/\w'.cell? ⟨aa2,1,none⟩=some (.slice (some hm3) aa.length af)/\w'.cell? (hm3.add ((rd l1 ed)).toNat)=some (.slice (some hm7) (Jc aa (rd l1 ed)).length kd0)/\w'.cell? (hm2.add ((ji21)).toNat)=some (.int .i64 (rd l1 (ji21)))/\w'.cell? (hm7.add ((rd l1 (ji21))).toNat)=some (.int .i64 (rd (Jc aa (rd l1 ed)) (rd l1 (ji21))))) (ds:=[]) (tl_ 18 0) (g1_) rfl (g1_) ⟨(Gz ny.out 0).trans rfl,(Gz ny.out 1).trans rfl,((cl_ HB kd2).trans rfl),((cl_ HB kd5).trans rfl),((cl_ HB kd7).trans rfl)⟩ (fun hHeld=>?_);refine Jm Fi.tab6 Fi.bits6 (fun HT_ HW_=>?_)
  generalize wr.drew=w27 at ak2 tv ny pe ss HB hm6 di4 di5 di6 hHeld |-
  refine pw_ 0 20 (tl_ 18 1) ?_
  refine pw_ 1 21 (tl_ 18 3) ?_
  refine pw_ 3 23 (tl_ 18 11) ?_
  refine pw_ 6 26 (tl_ 18 75) ?_
  refine pw_ 7 27 (tl_ 18 203) ?_
  refine pw_ 8 28 (tl_ 18 459) ?_
  refine pw_ 9 29 (tl_ 18 971) ?_
  refine pw_ 10 30 (tl_ 18 1995) ?_
  refine pw_ 11 31 (tl_ 18 4043) ?_
  refine pw_ 12 32 (tl_ 18 8139) ?_
  refine tk5_ 2 22 (tl_ 18 8143) hHeld ?_
  refine pw_ 4 24 (tl_ 18 8159) ?_
  refine tk5_ 5 25 (tl_ 18 8191) hHeld ?_
  refine tk5_ 13 33 (tl_ 18 16383) hHeld ?_
  refine pw_ 14 34 (tl_ 18 32767) ?_
  refine tk5_ 15 35 (tl_ 18 65535) hHeld ?_
  refine pw_ 16 36 (tl_ 18 131071) ?_
  refine pw_ 17 6 (tl_ 18 262143) ?_
  refine done_ (done_of HT_.out (g1_)) ?_
  try go_wp2
  go_roundg k1
  case measure=>have:=HK1.out;omega
  case rel=>exact⟨(ji26),(wrap64 (ed + 1)),(by first|rfl|(simp;done)|(simp only[<- hji26] <;> (first|rfl|simp))|(simp[*];done)),(g2_),H',⟨g13_⟩,⟨uf2_ ak2⟩,⟨uf3_ tv⟩,⟨uf0_ ny⟩,⟨uf0_ pe⟩,⟨uf0_ ss⟩,⟨am0⟩⟩
 rw[if_neg dl] at H
 have mb:=decide_eq_false dl
 clear dl
 have H':=A_ H
 clear H
 go_wp2
 go_loopg [40] k1 (fun kq v40 w'=>∃(ke:Int) (ar2:List Int) (ng:List (List Int)) (cm6:Value) (fp0:Value),v40 = .int .i64 ke/\Gy (Fi.l1 kq l1 jt l1 (l1.length:Int) ke ar2 ng=some (r1,r2))/\Gy (kq<=k1)/\Gy (Kd.R (Kd.int .i64) 3 w' w.heap.size (fun _=>True) cm6 ar2)/\Gy (Kd.S (Kd.slice 3 (Kd.int .i64)) 22 w' w.heap.size (fun k_=>some k_≠(cm6:Value).ownBlock) fp0 ng)/\Gy (hc_ w' aa2 #[(.slice ae ab.length ac),(.slice ag aa.length af)] 25)/\Gy (hc_ w' xt #[(.slice none 0 0),(.slice none 0 0)] 25)/\Gy (hc_ w' aa3 #[cm6,fp0] 25)/\Gy (Below w.heap.size w w'))
 case atStart=>exact⟨(0),(af3),(ar1),(.slice ax af3.length av),(.slice es ar1.length dr),(g2_),H',⟨Nat.le_refl _⟩,⟨uf2_ ak2⟩,⟨uf3_ tv⟩,⟨uf0_ ny⟩,⟨uf0_ pe⟩,⟨uf0_ ss⟩,⟨am0⟩⟩
 clear H'
 obtain⟨ke,ar2,ng,cm6,fp0,rfl,HA,HK2,ak2,tv,ny,pe,ss,HB⟩:=hrel
 cases gk with
 | zero=>exact absurd HA.out (by simp[Fi.l1])
 | succ k2=>?_
 have H:=HA.out
 clear HA
 simp only[Fi.l1] at H
 by_cases lr:ke < (l1.length:Int)
 case neg=>
  rw[if_neg lr] at H
  have bt3:=decide_eq_false lr
  clear lr
  simp only[Option.some.injEq,Prod.mk.injEq] at H
  obtain⟨rfl,rfl⟩:=H
  have gs6:=hl7.out
  have gs7:=ee2.out
  have da7:=hl8.out
  have da8:=ee3.out
  obtain⟨fc8,fc9,fd0,fd1⟩:=blk2_ ss
  obtain⟨ae6,ae7,ck4⟩:=Kd.R_slice ak2.out
  subst ck4
  have ew9:=hl6.out
  have ex0:=hl5.out
  obtain⟨da9,db0,db1,db2⟩:=blk2_ pe
  obtain⟨ah5,ah6,db3⟩:=Kd.S_slice tv.out
  subst db3
  go_wp2
  refine bodyPost_ret (results_cell_row rfl _ _ xt 25 #[.slice ae6 ar2.length ae7, .slice ah5 ng.length ah6] (0,0) _ rfl (ba_ pe) Try.underlying25 rfl (g1_)) rfl ?_
  exact⟨_,_,g4_,ra_ ak2,sa_ tv,am0⟩
 rw[if_pos lr] at H
 have bt3:=decide_eq_true lr
 clear lr
 obtain⟨gp8,H⟩:=pd_ H
 obtain⟨ci6,H⟩:=pd_ H
 obtain⟨ad8,H⟩:=pd_ H
 obtain⟨ey1,H⟩:=pd_ H
 by_cases ri:(l1.length:Int)=0
 ·rw[if_pos ri] at H
  exact absurd H (by simp)
 rw[if_neg ri] at H
 have dt8:((l1.length:Int) == 0)=false:=beq_eq_false_iff_ne.mpr ri
 have mp7:((l1.length:Int) != 0)=true:=bne_iff_ne.mpr ri
 have mp8:¬ (l1=[]):=fun h_=>ri (g47_)
 obtain⟨ji34,hji34⟩:∃j_:Int,(Int.tmod (wrap64 (ke + 1)) (l1.length:Int))=j_:=⟨_,rfl⟩
 first|rw[hji34] at H|simp only[hji34] at H
 obtain⟨db7,H⟩:=pd_ H
 obtain⟨dw3,H⟩:=pd_ H
 obtain⟨ja7,H⟩:=pd_ H
 obtain⟨ja8,H⟩:=pd_ H
 obtain⟨fp1,hyq⟩:∃y_:List Int,y_=((Jc ng (rd l1 ke)).set ((rd l1 (ji34)):Int).toNat (wrap64 ((rd (Jc ng (rd l1 ke)) (rd l1 (ji34))) - jt))):=⟨_,rfl⟩
 replace H:(Fi.l1 k2 l1 jt l1 (l1.length:Int) (wrap64 (ke + 1)) ar2 (ng.set ((rd l1 ke):Int).toNat fp1))=some (r1,r2):=qh_
 have kd8:=A_ hyq
 clear hyq
 obtain⟨hm8,hyq⟩:∃y_:List (List Int),y_=(ng.set ((rd l1 ke):Int).toNat fp1):=⟨_,rfl⟩
 replace H:(Fi.l1 k2 l1 jt l1 (l1.length:Int) (wrap64 (ke + 1)) ar2 hm8)=some (r1,r2):=qh_
 have kd9:=A_ hyq
 clear hyq
 have H':=A_ H
 clear H
 obtain⟨⟨hm9,ke0,hn0⟩,fp2,fp3⟩:=rdp_ (Kd.at_int h7.out ke)
 cases ke0
 replace hn0:=cl_ HB hn0
 try go_wp2
 replace ak2:=rd_ ak2
 replace tv:=sd_ tv
 replace ny:=bd_ ny
 replace pe:=bd_ pe
 replace ss:=bd_ ss
 replace HB:=A_ (G2 HB.out)
 obtain⟨oz,m3,av6⟩:=Kd.S_slice tv.out
 (first|subst av6|(injection av6 with f1_ f2_ f3_;have f4_:=f1_.symm;have f5_:=f3_.symm;clear f1_ f2_ f3_;subst f4_;subst f5_))
 have ef2:0<=((rd l1 ke):Int):=od_
 have ef3:(rd l1 ke) < (ng.length:Int):=od_
 obtain⟨fp4,mp9,ke1,ke2,ef4,hn2,hn3⟩:=at_L1 (Kd.S_reads' tv.out).2.2 (rd l1 ke) ef2 ef3
 cases ke2
 obtain⟨ce446,hce446,hMe446,hcc446⟩:=Kd.S_get tv.out [] (rd l1 ke) ef2 (by first|exact ef3|exact od_|(have e_:=(Kd.S_reads' tv.out).1;omega))
 obtain⟨ve446_0,rfl,ge446_0⟩:=hMe446
 have hv446_0:=hcc446 0 _ rfl
 rw[Nat.add_zero,show((Kd.slice 3 (Kd.int .i64))).sz=1 from rfl,Nat.mul_one] at hv446_0
 replace hv446_0:=Option.some.inj (hv446_0.symm.trans ef4)
 rw[hv446_0] at ge446_0
 have cb3:=A_ (show Kd.R (Kd.int .i64) 3 _ _ _ _ (Jc ng (rd l1 ke)) from ge446_0)
 clear hv446_0 ge446_0
 have HX446_0:=A_ ef4
 clear hcc446 hce446
 have fp5:=A_ hn3
 have mq0:=A_ hn2
 clear hn3 hn2
 replace ef2:=eq_true ef2
 replace ef3:=eq_true ef3
 obtain⟨⟨ke3,ke4,ef5⟩,fp6,fp7⟩:=rdp_ (Kd.at_int h7.out (ji34))
 have ke5:=ef5
 obtain rfl:hm9=ke3:=(by injection ke4)
 replace ef5:=cl_ HB ef5
 obtain⟨⟨mq1,ke6,fq0⟩,fp8,fp9⟩:=rdp_ (Kd.at_int (by repeat(first|(with_reducible exact fp5.out)|(with_reducible refine Kd.C_alloc ?_ _)|(with_reducible refine Kd.C_drewN ?_ _)|(with_reducible refine Kd.C_drew ?_)|exact fp5.out)) (rd l1 (ji34)))
 cases ke6
 have p39:0<=((rd l1 (ji34)):Int):=od_
 have q39:((rd l1 (ji34)):Int) < (((Jc ng (rd l1 ke)).length:Int):Int):=od_
 obtain⟨ck3,la,ai2,de2,gl39,cl39,HG39⟩:=Kd.R_form cb3.out (by omega)
 (first|cases ai2|(injection ai2 with ea_ en_ ec_;(first|subst ea_|(injection ea_ with ea_;subst ea_));subst ec_;clear en_))
 have GB39:=A_ de2
 have GG39:=A_ HG39
 clear de2 gl39 HG39
 (first|simp only[add_plain] at fq0|skip)
 obtain⟨fc7,hf39_0⟩:=Kd.R_celln 0 cb3.out ((rd l1 (ji34)):Int) p39 q39
 replace p39:=eq_true p39
 replace q39:=eq_true q39
 have hq42:((rd l1 ke):Int) < (ng.length:Int):=(by have h_:((rd l1 ke):Int) < ((ng.length:Int):Int):=od_;first|exact h_|(have e_:=(Kd.S_reads' tv.out).1;omega)|simpa only[List.length_set,List.length_set] using h_)
 obtain⟨oki42,ce42,hcl42,hM42,hcc42,hok42,hbk42⟩:=Kd.S_borrow tv.out [] ((rd l1 ke):Int) (od_) (by first|exact hq42|exact od_|(have e_:=(Kd.S_reads' tv.out).1;omega))
 obtain⟨ve42_0,rfl,ge42_0⟩:=hM42
 have hv42:=hcc42 0 _ rfl
 rw[Nat.add_zero,show((Kd.slice 3 (Kd.int .i64))).sz=1 from rfl,Nat.mul_one] at hv42
 replace hv42:=Option.some.inj (hv42.symm.trans HX446_0.out)
 subst hv42
 clear hcc42 hcl42
 replace ge42_0:=(show Kd.R (Kd.int .i64) 3 _ _ _ _ (Jc ng (rd l1 ke)) from ge42_0)
 have HP42:=Kd.R_putg ge42_0 ((rd l1 (ji34)):Int) (wrap64 ((rd (Jc ng (rd l1 ke)) (rd l1 (ji34))) - jt))
 rw[<- kd8.out] at HP42
 have HS42:=hbk42 HP42.2 (fun k_ e_=>by injection e_ with e_;subst e_;exact ge42_0.1 _ rfl) (x':=fp1) (Kd.M_row HP42.1)
 rw[<- kd9.out] at HS42
 have HQ42:=A_ HS42
 clear HP42 HS42 hbk42 hok42
 refine start_ (n:=19) (S:=fun w'=>w'.cell? ⟨aa3,0,none⟩=some (cm6)/\w'.cell? ⟨aa3,1,none⟩=some (.slice (some fp4) ng.length m3)/\w'.cell? (fp4.add ((rd l1 ke)).toNat)=some (.slice (some ⟨ck3,0,none⟩) (Jc ng (rd l1 ke)).length ke1)/\w'.cell? (hm9.add ((ji34)).toNat)=some (.int .i64 (rd l1 (ji34)))/\w'.cell? ⟨ck3,((rd l1 (ji34))).toNat,none⟩=some (.int .i64 (rd (Jc ng (rd l1 ke)) (rd l1 (ji34))))) (ds:=[18]) (tl_ 19 0) (g1_) rfl (g1_) ⟨(Gz ss.out 0).trans rfl,(Gz ss.out 1).trans rfl,ef4,((cl_ HB ke5).trans rfl),fq0⟩ (fun hHeld=>?_);refine Jm Fi.tab11 Fi.bits11 (fun HT_ HW_=>?_)
 generalize wr.drew=w40 at ak2 tv ny pe ss HB GG39 cb3 HQ42 fp5 HX446_0 hf39_0 fc7 ef4 ef5 fq0 hHeld |-
 refine pw_ 0 45 (tl_ 19 1) ?_
 refine pw_ 2 47 (tl_ 19 5) ?_
 refine pw_ 5 50 (tl_ 19 37) ?_
 refine pw_ 6 51 (tl_ 19 101) ?_
 refine pw_ 7 52 (tl_ 19 229) ?_
 refine pw_ 8 53 (tl_ 19 485) ?_
 refine pw_ 9 54 (tl_ 19 997) ?_
 refine pw_ 10 55 (tl_ 19 2021) ?_
 refine pw_ 11 56 (tl_ 19 4069) ?_
 refine pw_ 15 60 (tl_ 19 36837) ?_
 refine tk5_ 1 46 (tl_ 19 36839) hHeld ?_
 refine pw_ 3 48 (tl_ 19 36847) ?_
 refine tk5_ 4 49 (tl_ 19 36863) hHeld ?_
 refine tk5_ 12 57 (tl_ 19 40959) hHeld ?_
 refine pw_ 13 58 (tl_ 19 49151) ?_
 refine tk5_ 14 59 (tl_ 19 65535) hHeld ?_
 refine pw_ 16 61 (tl_ 19 131071) ?_
 refine pw_ 17 62 (tl_ 19 262143) ?_
 refine last_ (i:=18) (N:=none) (tl_ 19 524287) rfl rfl (Jo HT_.out (g1_)) (by decide) (fun K hK=>?_)
 refine skip_ (w1:=?_) (by rfl) rfl ?_ ?_
 rotate_left
 ·go_simp
  rfl
 refine hK.out _ _ ?_
 clear hK K
 refine done_ (done_of HT_.out (g1_)) ?_
 try go_wp2
 go_roundg k2
 case measure=>have:=HK1.out;have:=HK2.out;omega
 case rel=>exact⟨(wrap64 (ke + 1)),(ar2),(hm8),(cm6),(.slice (some fp4) ng.length m3),(g2_),H',⟨g16_⟩,⟨by(with_reducible repeat(first|apply Kd.R_alloc|apply Kd.R_drewN|apply Kd.R_drew));exact Kd.R_mono (Kd.R_far (p:=⟨ck3,((rd l1 (ji34)):Int).toNat,none⟩) (Kd.R_far1 ak2.out rfl ((cb3.out.1 _ rfl).1)) (fun _ hk=>hk.2) (.int .i64 (wrap64 ((rd (Jc ng (rd l1 ke)) (rd l1 (ji34))) - jt)))) (fun _ hk=>trivial)⟩,⟨uf3_ HQ42⟩,⟨by(with_reducible repeat(first|refine G6 ?_ _|refine G7 ?_|refine G5 ?_ _));refine Jf ?_ (by have h_:=Kd.R_ne cb3.out ny.out (by decide);intro e_;exact h_ (g6_)) _;exact uf0_ ny⟩,⟨by(with_reducible repeat(first|refine G6 ?_ _|refine G7 ?_|refine G5 ?_ _));refine Jf ?_ (by have h_:=Kd.R_ne cb3.out pe.out (by decide);intro e_;exact h_ (g6_)) _;exact uf0_ pe⟩,⟨by(with_reducible repeat(first|refine G6 ?_ _|refine G7 ?_|refine G5 ?_ _));refine Jf ?_ (by have h_:=Kd.R_ne cb3.out ss.out (by decide);intro e_;exact h_ (g6_)) _;exact uf0_ ss⟩,⟨am0⟩⟩
def Fd.l0:Nat->Int->List Int->List (List Int)->Option (List Int × (List (List Int)) × Int)
 | 0,_,_,_=>none
 | k + 1,x5,fq1,fq2=>(Gr.f k fq1 fq2).bind fun rr=>(if (rr.length:Int)=0 then(some (fq1,fq2,x5)) else(if 0 < (rr.length:Int) then((Fi.f k fq1 fq2 (Jc rr 0)).bind fun bt298=>(Fd.l0 k (wrap64 (x5 + 1)) bt298.1 bt298.2)) else(none)))
def Fd.f (k:Nat) (ab:List Int) (aa:List (List Int)):Option (List Int × (List (List Int)) × Int):=(Fo.f k ab aa).bind fun bt287=>(Fd.l0 k 0 bt287.1 bt287.2)
theorem Fd.calls0_q0 {p:Prop} (h:p:=by repeat(first|(with_reducible first|exact HB.out|apply G4|apply G3|apply G2|refine G1 ?_ ke7.out|refine G1 ?_ ke8.out|refine G1 ?_ ke9.out)|exact HB.out)):p:=h
set_option maxHeartbeats 8000000 in
set_option maxRecDepth 100000 in
theorem Fd.calls0 (k:Nat) (ae:Option Addr) (ac:Nat) (ab:List Int) (ag:Option Addr) (af:Nat) (aa:List (List Int)) (r1:List Int) (r2:List (List Int)) (r3:Int) (w:World) (ca:Kd.C (Kd.int .i64) w ae ab.length ab) (ce:ab.length<=ac) (cb:Kd.C (Kd.slice 3 (Kd.int .i64)) w ag aa.length aa) (cg:aa.length<=af) (h:Fd.f k ab aa=some (r1,r2,r3)) :
  Calls Try.prog 99 #[.agg #[.slice ae ab.length ac, .slice ag aa.length af]] w fun e w'=>∃v0_ v1_:Value,e = .returned (.tuple #[.agg #[v0_,v1_], .int .i64 r3])/\Kd.R (Kd.int .i64) 3 w' w.heap.size (fun k_=>(w.heap.size<=k_)) v0_ r1/\Kd.S (Kd.slice 3 (Kd.int .i64)) 22 w' w.heap.size (fun k_=>(w.heap.size<=k_)/\some k_≠(v0_:Value).ownBlock) v1_ r2/\Below w.heap.size w w':=by
 have hu25:=Try.underlying25
 have bu:=A_ ca
 have cq:=A_ ce
 clear ca ce
 have bf:=A_ cb
 have cu:=A_ cg
 clear cb cg
 have HB:=A_ (Below.refl w.heap.size w)
 have H:=h
 unfold Fd.f at H
 clear h
 replace H:=Option.bind_eq_some_iff.mp H
 obtain⟨⟨cm7,ai4⟩,th,H⟩:=H
 try dsimp only at H
 have A2:=A_ th
 clear th
 have H':=A_ H
 clear H
 go_enter Try.func99,Try.ntmps99
 go_wp2_with (first|((with_reducible refine gd_ 1 ?_);refine bx_ (N:=1) #[.slice ae ab.length ac, .slice ag aa.length af] 25 ?_;intro rs hg w3 hbox hb;have nh:=A_ (hbox);have mq2:=A_ ((g72_:w.heap.size<=rs));have ke7:=mq2;replace HB:=A_ (Jh (Fd.calls0_q0) hb);clear hb hbox hg)|((with_reducible refine gd_ 2 ?_);refine bx_ (N:=2) #[.slice none 0 0, .slice none 0 0] 25 ?_;intro o5 hg w4 hbox hb;have oo:=A_ (hbox);have mq3:=A_ ((g72_:w.heap.size<=o5));have ke8:=mq3;replace HB:=A_ (Jh (Fd.calls0_q0) hb);have hn4:=nl_ nh hg;have hn5:=nr_ nh hg;replace nh:=bb_ nh hb;clear hb hbox hg;have eu4:=hn4.out;have eu5:=hn5.out;obtain⟨za,zb,ag8,zc⟩:=blk2_ nh)|((with_reducible refine gc_ 111 ?_);refine gl_ 8 Try.func111 #[.agg #[.slice ae ab.length ac, .slice ag aa.length af]] ?_;(refine(Fo.calls k _ _ ab _ _ aa cm7 ai4 _ (uf1_ bu) cq.out (uf1_ bf) cu.out A2.out).mono ?_);rintro e w7 ⟨kf0,gt0,rfl,aj,ar,hb⟩;refine⟨_,rfl,?_⟩;have ef6:=A_ (Kd.R_lower (Kd.R_newM (M:=fun k_=>(w.heap.size<=k_)) aj (G0 (Fd.calls0_q0)) (fun k_ h_=>h_)) (G0 (Fd.calls0_q0)));have bd0:=A_ (Kd.S_lower (Kd.S_mono (ok':=fun k_=>(w.heap.size<=k_)/\some k_≠(kf0:Value).ownBlock/\k_≠rs/\k_≠o5) (id (Kd.S_bound ar)) (fun k_ hk_=>⟨(Nat.le_trans (G0 (Fd.calls0_q0)) hk_.2.1),hk_.1,(Kd.freshB (g:=rs) (o:=.cells #[.slice ae ab.length ac, .slice ag aa.length af] 25 (0,0)) (uf0_ nh) k_ hk_.2.1),(Kd.freshB (g:=o5) (o:=.cells #[.slice none 0 0, .slice none 0 0] 25 (0,0)) (uf0_ oo) k_ hk_.2.1)⟩)) (G0 (Fd.calls0_q0)));replace nh:=bb_ nh hb;replace oo:=bb_ oo hb;replace HB:=A_ (Jh (Fd.calls0_q0) hb))|((with_reducible refine gd_ 4 ?_);refine bx_ (N:=4) #[.slice none 0 0, .slice none 0 0] 25 ?_;intro mm hg w8 hbox hb;replace ef6:=rb_ ef6 hb;replace bd0:=A_ (Kd.S_below (Kd.S_elderB (uf3_ bd0) mm (Nat.le_of_eq hg.symm)) hb);have mo:=A_ (hbox);have mq4:=A_ ((g72_:w.heap.size<=mm));have ke9:=mq4;replace HB:=A_ (Jh (Fd.calls0_q0) hb);have be8:=nl_ nh hg;have di7:=nr_ nh hg;replace nh:=bb_ nh hb;have be9:=nl_ oo hg;have di8:=nr_ oo hg;replace oo:=bb_ oo hb;clear hb hbox hg;obtain⟨ft,fs,eo9⟩:=Kd.R_slice ef6.out;subst eo9;have bn8:=di7.out;have bn9:=be8.out;have ah3:=di8.out;have ah4:=be9.out;obtain⟨xg,xh,zv,xi⟩:=blk2_ mo;obtain⟨bq,bb,ao8⟩:=Kd.S_slice bd0.out;subst ao8))
 go_loopg [5] k (fun kq v5 w'=>∃(an:Int) (qf:List Int) (qg:List (List Int)) (ef7:Value) (fq3:Value),v5 = .int .i64 an/\Gy (Fd.l0 kq an qf qg=some (r1,r2,r3))/\Gy (kq<=k)/\Gy (Kd.R (Kd.int .i64) 3 w' w.heap.size (fun k_=>(w.heap.size<=k_)) ef7 qf)/\Gy (Kd.S (Kd.slice 3 (Kd.int .i64)) 22 w' w.heap.size (fun k_=>(w.heap.size<=k_)/\some k_≠(ef7:Value).ownBlock/\k_≠rs/\k_≠o5/\k_≠mm) fq3 qg)/\Gy (hc_ w' rs #[(.slice ae ab.length ac),(.slice ag aa.length af)] 25)/\Gy (hc_ w' o5 #[(.slice none 0 0),(.slice none 0 0)] 25)/\Gy (hc_ w' mm #[ef7,fq3] 25)/\Gy (Below w.heap.size w w'))
 case atStart=>exact⟨(0),(cm7),(ai4),(.slice ft cm7.length fs),(.slice bq ai4.length bb),(g2_),H',⟨Nat.le_refl _⟩,⟨ra_ ef6⟩,⟨sa_ bd0⟩,⟨ba_ nh⟩,⟨ba_ oo⟩,⟨ba_ mo⟩,⟨Fd.calls0_q0⟩⟩
 clear H'
 obtain⟨an,qf,qg,ef7,fq3,rfl,HA,HK1,qh,qw,nh,oo,mo,HB⟩:=hrel
 cases gk with
 | zero=>exact absurd HA.out (by simp[Fd.l0])
 | succ k1=>?_
 have H:=HA.out
 clear HA
 simp only[Fd.l0] at H
 obtain⟨rr,A14,H⟩:=bind_ H
 by_cases dl:(rr.length:Int)=0
 ·rw[if_pos dl] at H
  have mb:((rr.length:Int) == 0)=true:=beq_iff_eq.mpr dl
  have kf1:((rr.length:Int) != 0)=false:=bne_eq_false_iff_eq.mpr dl
  clear dl
  simp only[Option.some.injEq,Prod.mk.injEq] at H
  obtain⟨rfl,rfl,rfl⟩:=H
  have dz8:=di7.out
  have dz9:=be8.out
  have hn6:=di8.out
  have hn7:=be9.out
  obtain⟨az4,az5,az6,az7⟩:=blk2_ mo
  obtain⟨g3,gf,sn⟩:=Kd.R_slice qh.out
  subst sn
  obtain⟨jc,gv,ux⟩:=Kd.S_slice qw.out
  subst ux
  go_wp2_with (first|((with_reducible refine gc_ 96 ?_);refine gl_ 12 Try.func96 #[.agg #[.slice g3 qf.length gf, .slice jc qg.length gv]] ?_;(refine(Gr.calls k1 _ _ qf _ _ qg rr _ (cR_ qh) (lR_ qh) (cS_ qw) (lS_ qw) A14.out).mono ?_);rintro e j5 ⟨kf2,rfl,aj,hb⟩;refine⟨_,rfl,?_⟩;have ak3:=A_ (Kd.N_lower (Kd.N_mono (ok':=fun k_=>(w.heap.size<=k_)/\some k_≠(.slice g3 qf.length gf:Value).ownBlock/\some k_≠(.slice jc qg.length gv:Value).ownBlock/\k_≠rs/\k_≠o5/\k_≠mm) aj (fun k_ hk_=>⟨(Nat.le_trans (G0 (Fd.calls0_q0)) hk_),(Kd.fresh' (Kd.R_lt (uf2_ qh)) k_ hk_),(Kd.fresh' (Kd.S_lt (uf3_ qw)) k_ hk_),(Kd.freshB (g:=rs) (o:=.cells #[.slice ae ab.length ac, .slice ag aa.length af] 25 (0,0)) (uf0_ nh) k_ hk_),(Kd.freshB (g:=o5) (o:=.cells #[.slice none 0 0, .slice none 0 0] 25 (0,0)) (uf0_ oo) k_ hk_),(Kd.freshB (g:=mm) (o:=.cells #[.slice g3 qf.length gf, .slice jc qg.length gv] 25 (0,0)) (uf0_ mo) k_ hk_)⟩)) (G0 (Fd.calls0_q0)));replace qh:=rb_ qh hb;replace qw:=A_ (Kd.S_elder' (uf3_ qw) (Kd.N_base (g95_)) hb);replace nh:=bb_ nh hb;replace oo:=bb_ oo hb;replace mo:=bb_ mo hb;replace HB:=A_ (Jh (Fd.calls0_q0) hb);obtain⟨bh,bc,aq5⟩:=Kd.N_slice ak3.out;subst aq5;obtain⟨fn4,fn5,fn6,fn7⟩:=blk2_ mo;have gu5:=hn5.out;have gu6:=hn4.out;obtain⟨dp5,dp6,dp7,dp8⟩:=blk2_ oo))
  refine bodyPost_ret (Jn rfl _ _ o5 25 #[.slice g3 qf.length gf, .slice jc qg.length gv] (0,0) _ rfl (ba_ oo) Try.underlying25 rfl (g1_)) rfl ?_
  exact⟨_,_,g4_,ra_ qh,sa_ qw,Fd.calls0_q0⟩
 rw[if_neg dl] at H
 have mb:((rr.length:Int) == 0)=false:=beq_eq_false_iff_ne.mpr dl
 have kf1:((rr.length:Int) != 0)=true:=bne_iff_ne.mpr dl
 have mq5:¬ (rr=[]):=fun h_=>dl (g47_)
 obtain⟨po,H⟩:=pos_ H
 have ch1:=decide_eq_true po
 have mq6:decide (0 < rr.length)=true:=decide_eq_true (by omega)
 clear po
 replace H:=Option.bind_eq_some_iff.mp H
 obtain⟨⟨cm8,ai6⟩,hn8,H⟩:=H
 try dsimp only at H
 have A27:=A_ hn8
 clear hn8
 have H':=A_ H
 clear H
 have bw1:=di7.out
 have bw2:=be8.out
 have br5:=di8.out
 have br6:=be9.out
 obtain⟨br7,br8,br9,bs0⟩:=blk2_ mo
 obtain⟨zy,zz,ec5⟩:=Kd.R_slice qh.out
 subst ec5
 obtain⟨lm,k8,ci7⟩:=Kd.S_slice qw.out
 subst ci7
 try go_wp2_with (first|((with_reducible refine gc_ 96 ?_);refine gl_ 12 Try.func96 #[.agg #[.slice zy qf.length zz, .slice lm qg.length k8]] ?_;(refine(Gr.calls k1 _ _ qf _ _ qg rr _ (cR_ qh) (lR_ qh) (cS_ qw) (lS_ qw) A14.out).mono ?_);rintro e w33 ⟨kf2,rfl,aj,hb⟩;refine⟨_,rfl,?_⟩;have ak3:=A_ (Kd.N_lower (Kd.N_mono (ok':=fun k_=>(w.heap.size<=k_)/\some k_≠(.slice zy qf.length zz:Value).ownBlock/\some k_≠(.slice lm qg.length k8:Value).ownBlock/\k_≠rs/\k_≠o5/\k_≠mm) aj (fun k_ hk_=>⟨(Nat.le_trans (G0 (Fd.calls0_q0)) hk_),(Kd.fresh' (Kd.R_lt (uf2_ qh)) k_ hk_),(Kd.fresh' (Kd.S_lt (uf3_ qw)) k_ hk_),(Kd.freshB (g:=rs) (o:=.cells #[.slice ae ab.length ac, .slice ag aa.length af] 25 (0,0)) (uf0_ nh) k_ hk_),(Kd.freshB (g:=o5) (o:=.cells #[.slice none 0 0, .slice none 0 0] 25 (0,0)) (uf0_ oo) k_ hk_),(Kd.freshB (g:=mm) (o:=.cells #[.slice zy qf.length zz, .slice lm qg.length k8] 25 (0,0)) (uf0_ mo) k_ hk_)⟩)) (G0 (Fd.calls0_q0)));replace qh:=rb_ qh hb;replace qw:=A_ (Kd.S_elder' (uf3_ qw) (Kd.N_base (g95_)) hb);replace nh:=bb_ nh hb;replace oo:=bb_ oo hb;replace mo:=bb_ mo hb;replace HB:=A_ (Jh (Fd.calls0_q0) hb);obtain⟨gl,f4,bw3⟩:=Kd.N_slice ak3.out;subst bw3))
 replace qh:=rd_ qh
 replace qw:=sd_ qw
 replace ak3:=nd_ ak3
 replace nh:=bd_ nh
 replace oo:=bd_ oo
 replace mo:=bd_ mo
 replace HB:=A_ (G2 HB.out)
 have ef8:0<=(0:Int):=(by omega)
 have ef9:0 < (rr.length:Int):=od_
 obtain⟨hn9,ho3,ho4,kf3,di9,ho8,hp8⟩:=at_L1 (Kd.N_reads' ak3.out).2.2 0 ef8 ef9
 cases kf3
 obtain⟨ce297,hce297,hMe297,hcc297⟩:=Kd.N_get ak3.out [] 0 ef8 (by first|exact ef9|exact od_|(have e_:=(Kd.N_reads' ak3.out).1;omega))
 obtain⟨ua297_0,uc297_0,rfl,ul297_0,ge297_0⟩:=Kd.FK_slice_open hMe297
 have hv297_0:=hcc297 0 _ rfl
 rw[Nat.add_zero,show((Kd.slice 3 (Kd.int .i64))).sz=1 from rfl,Nat.mul_one] at hv297_0
 replace hv297_0:=Option.some.inj (hv297_0.symm.trans di9)
 injection hv297_0 with hva_ hvn_ hvc_
 rw[hva_] at ge297_0
 rw[hvc_] at ul297_0
 have fq4:=A_ (show Kd.V (Kd.int .i64) 3 _ w.heap.size _ _ (Jc rr 0) from Kd.V_mk ul297_0 ge297_0)
 clear hva_ hvn_ hvc_ ge297_0 ul297_0
 clear hcc297 hce297
 have qi297:(0 < rr.length)=True:=eq_true (by omega)
 (try rw[show((0:Int)).toNat=0 from rfl] at di9)
 (try rw[Addr.add_zero'] at di9)
 have cm9:=A_ hp8
 have kf4:=A_ ho8
 clear hp8 ho8
 replace ef8:=eq_true ef8
 replace ef9:=eq_true ef9
 refine start_ (n:=6) (S:=fun w'=>w'.cell? ⟨mm,0,none⟩=some (.slice zy qf.length zz)/\w'.cell? ⟨mm,1,none⟩=some (.slice lm qg.length k8)/\w'.cell? hn9=some (.slice ho3 (Jc rr 0).length ho4)) (ds:=[5]) (tl_ 6 0) (g1_) rfl (g1_) ⟨(Gz mo.out 0).trans rfl,(Gz mo.out 1).trans rfl,di9⟩ (fun hHeld=>?_)
 generalize w33.drew=w35 at qh qw ak3 nh oo mo HB fq4 cm9 di9 hHeld |-
 refine pure_ (i:=1) (N:=some 19) (v:=?_) (a':=?_) (tl_ 6 2) rfl rfl (g1_) (fun _ _ _ h=>h) (Or.inl ⟨by rfl,?_⟩) ?_ ?_
 rotate_left
 ·intro w'
  go_simp
  with_reducible rfl
 rotate_left
 ·simp only[Act.put,List.setIfInBounds_toArray,List.set_cons_zero,List.set_cons_succ,i64_w,i32_w]
  rfl
 refine pure_ (i:=2) (N:=some 20) (v:=?_) (a':=?_) (tl_ 6 6) rfl rfl (g1_) (fun _ _ _ h=>h) (Or.inl ⟨by rfl,?_⟩) ?_ ?_
 rotate_left
 ·intro w'
  go_simp
  with_reducible rfl
 rotate_left
 ·simp only[Act.put,List.setIfInBounds_toArray,List.set_cons_zero,List.set_cons_succ,i64_w,i32_w]
  rfl
 refine take_ (i:=0) (N:=some 18) (v:=?_) (a':=?_) (tl_ 6 7) rfl rfl (g1_) (fun _ _ _ h=>h) (Or.inl ⟨by rfl,?_⟩) hHeld ?_ ?_
 rotate_left
 ·rintro w' ⟨s0,s1,s2⟩
  go_simp
  with_reducible rfl
 rotate_left
 ·simp only[Act.put,List.setIfInBounds_toArray,List.set_cons_zero,List.set_cons_succ,i64_w,i32_w]
  rfl
 refine take_ (i:=3) (N:=some 21) (v:=?_) (a':=?_) (tl_ 6 15) rfl rfl (g1_) (fun _ _ _ h=>h) (Or.inl ⟨by rfl,?_⟩) hHeld ?_ ?_
 rotate_left
 ·rintro w' ⟨s0,s1,s2⟩
  go_simp
  with_reducible rfl
 rotate_left
 ·simp only[Act.put,List.setIfInBounds_toArray,List.set_cons_zero,List.set_cons_succ,i64_w,i32_w]
  rfl
 refine one_ (i:=4) (N:=some 22) (tl_ 6 31) rfl rfl (g1_) (by decide) (fun K hK=>?_)
 refine goes_ Try.func97 (g1_) rfl #[.agg #[.slice zy qf.length zz, .slice lm qg.length k8], .slice ho3 (Jc rr 0).length ho4] (by rfl) rfl rfl (g3_) ?_
 with_reducible refine(Fi.calls k1 _ _ qf _ _ qg _ _ (Jc rr 0) cm8 ai6 _ ?side1 ?side2 ?side3 ?side4 ?side5 ?side6 A27.out).mono ?_
 (case side1=>exact cR_ qh)
 (case side2=>exact lR_ qh)
 (case side3=>exact cS_ qw)
 (case side4=>exact lS_ qw)
 (case side5=>repeat(first|exact(by repeat(first|(with_reducible exact cm9.out)|(with_reducible refine Kd.C_alloc ?_ _)|(with_reducible refine Kd.C_drewN ?_ _)|(with_reducible refine Kd.C_drew ?_)|exact cm9.out))|(with_reducible refine Kd.C_alloc ?_ _)|(with_reducible refine Kd.C_drewN ?_ _)|(with_reducible refine Kd.C_drew ?_)))
 (case side6=>exact kf4.out)
 rintro e jq ⟨kf5,gt9,rfl,aj,ar,hb⟩
 have HS2_:=(hb.cell (World.block_lt_of_cell? _ _ (hHeld.2.2))).trans (hHeld.2.2)
 refine⟨_,rfl,?_⟩
 replace fq4:=A_ (Kd.V_mono (Kd.V_told (Kd.V_told (Kd.V_old (uf5_ fq4) hb) (Kd.R_base aj)) (Kd.S_base (g60_))) (fun _ h_=>h_.1))
 have hp9:=A_ (Kd.R_lower (Kd.R_new' (Kd.R_newM (M:=fun k_=>(w.heap.size<=k_)) aj (G0 (Fd.calls0_q0)) (fun k_ h_=>h_)) (Kd.R_lt (uf2_ qh))) (G0 (Fd.calls0_q0)))
 have df0:=A_ (Kd.S_lower (Kd.S_mono (ok':=fun k_=>(w.heap.size<=k_)/\some k_≠(kf5:Value).ownBlock/\some k_≠(.slice zy qf.length zz:Value).ownBlock/\some k_≠(.slice lm qg.length k8:Value).ownBlock/\some k_≠(.slice (some hn9) rr.length f4:Value).ownBlock/\k_≠rs/\k_≠o5/\k_≠mm) (id (Kd.S_bound ar)) (fun k_ hk_=>⟨(Nat.le_trans (G0 (Fd.calls0_q0)) hk_.2.1),hk_.1,(Kd.fresh' (Kd.R_lt (uf2_ qh)) k_ hk_.2.1),(Kd.fresh' (Kd.S_lt (uf3_ qw)) k_ hk_.2.1),(Kd.fresh' (Kd.N_lt (uf4_ ak3)) k_ hk_.2.1),(Kd.freshB (g:=rs) (o:=.cells #[.slice ae ab.length ac, .slice ag aa.length af] 25 (0,0)) (uf0_ nh) k_ hk_.2.1),(Kd.freshB (g:=o5) (o:=.cells #[.slice none 0 0, .slice none 0 0] 25 (0,0)) (uf0_ oo) k_ hk_.2.1),(Kd.freshB (g:=mm) (o:=.cells #[.slice zy qf.length zz, .slice lm qg.length k8] 25 (0,0)) (uf0_ mo) k_ hk_.2.1)⟩)) (G0 (Fd.calls0_q0)))
 replace qh:=A_ (Kd.R_elder' (uf2_ qh) (Kd.R_base aj) hb)
 replace qw:=A_ (Kd.S_mono (Kd.S_told (Kd.S_told (Kd.S_old (uf3_ qw) hb) (Kd.R_base aj)) (Kd.S_base (g60_))) (fun _ h_=>h_.1))
 replace ak3:=A_ (Kd.N_mono (Kd.N_told (Kd.N_told (Kd.N_old (uf4_ ak3) hb) (Kd.R_base aj)) (Kd.S_base (g60_))) (fun _ h_=>h_.1))
 replace nh:=bb_ nh hb
 replace oo:=bb_ oo hb
 replace mo:=bb_ mo hb
 replace cm9:=A_ (Kd.C_below (by repeat(first|(with_reducible exact cm9.out)|(with_reducible refine Kd.C_alloc ?_ _)|(with_reducible refine Kd.C_drewN ?_ _)|(with_reducible refine Kd.C_drew ?_)|exact cm9.out)) hb)
 replace HB:=A_ (Jh (Fd.calls0_q0) hb)
 obtain⟨qi,qj,eg0⟩:=Kd.R_slice hp9.out
 (first|subst eg0|(injection eg0 with f1_ f2_ f3_;have f4_:=f1_.symm;have f5_:=f3_.symm;clear f1_ f2_ f3_;subst f4_;subst f5_))
 obtain⟨lx,la,ai2⟩:=Kd.S_slice df0.out
 (first|subst ai2|(injection ai2 with f1_ f2_ f3_;have f4_:=f1_.symm;have f5_:=f3_.symm;clear f1_ f2_ f3_;subst f4_;subst f5_))
 refine hK.out _ _ ⟨(Gz mo.out 0).trans rfl,(Gz mo.out 1).trans rfl,HS2_⟩ (fun hHeld=>?_)
 clear hK K
 refine nm_ ?_
 refine last_ (i:=5) (N:=none) (tl_ 6 63) rfl rfl (g1_) (by decide) (fun K hK=>?_)
 have mq7:jq.cell? ⟨mm,0,none⟩=some (.slice zy qf.length zz):=(Gz mo.out 0).trans rfl
 have mq8:=G8 mo.out 0
 have mr3:jq.cell? ⟨mm,1,none⟩=some (.slice lm qg.length k8):=(Gz mo.out 1).trans rfl
 have mr4:=G8 mo.out 1
 refine skip_ (w1:=?_) (by rfl) rfl ?_ ?_
 rotate_left
 ·go_simp
  rfl
 refine hK.out _ _ ?_
 clear hK K
 refine done_ (g1_) ?_
 try go_wp2
 go_roundg k1
 case measure=>have:=HK1.out;omega
 case rel=>exact⟨(wrap64 (an + 1)),(cm8),(ai6),(.slice qi cm8.length qj),(.slice lx ai6.length la),(g2_),H',⟨g13_⟩,⟨ra_ hp9⟩,⟨sa_ df0⟩,⟨ba_ nh⟩,⟨ba_ oo⟩,⟨ba_ mo⟩,⟨Fd.calls0_q0⟩⟩
theorem Fd.calls (k:Nat) (ae:Option Addr) (ac:Nat) (ab:List Int) (ag:Option Addr) (af:Nat) (aa:List (List Int)) (r1:List Int) (r2:List (List Int)) (r3:Int) (w:World) (ca:Kd.C (Kd.int .i64) w ae ab.length ab) (ce:ab.length<=ac) (cb:Kd.C (Kd.slice 3 (Kd.int .i64)) w ag aa.length aa) (cg:aa.length<=af) (h:Fd.f k ab aa=some (r1,r2,r3)) :
  Calls Try.prog 99 #[.agg #[.slice ae ab.length ac, .slice ag aa.length af]] w fun e w'=>∃v0_ v1_:Value,e = .returned (.tuple #[.agg #[v0_,v1_], .int .i64 r3])/\Kd.R (Kd.int .i64) 3 w' w.heap.size (fun _=>True) v0_ r1/\Kd.S (Kd.slice 3 (Kd.int .i64)) 22 w' w.heap.size (fun k_=>some k_≠(v0_:Value).ownBlock) v1_ r2/\Below w.heap.size w w':=by
 refine(Fd.calls0 k ae ac ab ag af aa r1 r2 r3 w ca ce cb cg h).mono ?_
 rintro e w' ⟨v0_,v1_,he,h0,h1,hb⟩
 exact⟨v0_,v1_,he,Kd.R_mono h0 (fun _ _=>trivial),Kd.S_mono h1 (fun _ h_=>h_.2),hb⟩
attribute [local go_sem high] eqA69
mutual
def Fr.j0:Nat->Bool->List Int->List (List Int)->Int->Int->Int->Int->Option (List Int × (List (List Int)) × Bool)
 | 0,_,_,_,_,_,_,_=>none
 | k + 1,wv,ar3,ar4,bo8,xu,ak4,bf0=>if wv=true then((Gw.f k ar3 ar4 xu bf0).bind fun bt456=>((Fg.f k bt456.1 bt456.2).bind fun fq5=>(some (bt456.1,bt456.2,fq5)))) else(if bo8=1 then((Gl.f k ar3 ar4 xu).bind fun fq6=>(if fq6=true then((Gl.f k ar3 ar4 ak4).bind fun fq7=>(if fq7=true then(Fr.j1 k (xu != ak4) ar3 ar4 bo8 xu ak4 bf0) else(Fr.j1 k false ar3 ar4 bo8 xu ak4 bf0))) else(Fr.j1 k false ar3 ar4 bo8 xu ak4 bf0))) else(Fr.j1 k false ar3 ar4 bo8 xu ak4 bf0))
def Fr.j1:Nat->Bool->List Int->List (List Int)->Int->Int->Int->Int->Option (List Int × (List (List Int)) × Bool)
 | 0,_,_,_,_,_,_,_=>none
 | k + 1,x34,ar3,ar4,bo8,xu,ak4,bf0=>if x34=true then((Fo.f k ar3 ar4).bind fun bt466=>(if 0<=xu then(if xu < (bt466.2.length:Int) then(if 0<=ak4 then(if ak4 < ((Jc bt466.2 xu).length:Int) then((some (bt466.2.set (xu:Int).toNat ((Jc bt466.2 xu).set (ak4:Int).toNat bf0):List (List Int))).bind fun af4=>((Fg.f k bt466.1 af4).bind fun cb4=>(some (bt466.1,af4,cb4)))) else(none)) else(none)) else(none)) else(none))) else(if (bo8 == 2 && (xu == 0 && (ak4 == 0 && (bf0 == 0))))=true then((Fw.f k ar3 ar4).bind fun bt478=>(some (bt478.1,bt478.2,true))) else(if (bo8 == 3 && (xu == 0 && (ak4 == 0 && (bf0 == 0))))=true then((Fd.f k ar3 ar4).bind fun bt484=>(some (bt484.1,bt484.2.1,true))) else(some (([]:List Int),([]:List (List Int)),false))))
end
def Fr.f (k:Nat) (ab:List Int) (aa:List (List Int)) (aq:Int) (ak:Int) (am:Int) (ap:Int):Option (List Int × (List (List Int)) × Bool):=if aq=0 then(if am=0 then((Gl.f k ab aa ak).bind fun cn0=>(Fr.j0 k cn0 ab aa aq ak am ap)) else(Fr.j0 k false ab aa aq ak am ap)) else(Fr.j0 k false ab aa aq ak am ap)
def Fr.T6:Bool × List (List Nat × List Nat):=(true,[([],[]),([0],[0]),([],[]),([2],[2]),([1,3],[1,3]),([4],[4]),([],[]),([6],[6]),([],[]),([8],[8]),([5,7,0,1,2,3,4,5,6,7,8,9],[5,7]),([10,9,0,1,2,3,4,5,6,7,8,9],[9,10])])
def Fr.B6:List Nat:=[0,1,0,4,15,31,0,64,0,256,1023,2047]
theorem Fr.tab6:rtab .any (opsOf Try.f123 6)=Fr.T6:=by kernel_rfl
theorem Fr.bits6:waitsOk Fr.T6.2 Fr.B6=true:=by kernel_rfl
theorem i8 {p:Prop} (h:p:=by repeat(first|(with_reducible first|exact HB.out|apply G4|apply G3|apply G2|refine G1 ?_ kf6.out|refine G1 ?_ kf7.out|refine G1 ?_ kf8.out|refine G1 ?_ kf9.out|refine G1 ?_ kg0.out|refine G1 ?_ GB83.out|refine G1 ?_ kg1.out)|exact HB.out)):p:=h
set_option maxHeartbeats 8000000 in
set_option maxRecDepth 100000 in
theorem Fr.calls (k:Nat) (ae:Option Addr) (ac:Nat) (ab:List Int) (ag:Option Addr) (af:Nat) (aa:List (List Int)) (aq:Int) (ak:Int) (am:Int) (ap:Int) (r1:List Int) (r2:List (List Int)) (r3:Bool) (w:World) (ca:Kd.C (Kd.int .i64) w ae ab.length ab) (ce:ab.length<=ac) (cb:Kd.C (Kd.slice 3 (Kd.int .i64)) w ag aa.length aa) (cg:aa.length<=af) (h:Fr.f k ab aa aq ak am ap=some (r1,r2,r3)) :
  Calls Try.prog 123 #[.agg #[.slice ae ab.length ac, .slice ag aa.length af], .agg #[.int .i64 aq, .int .i64 ak, .int .i64 am, .int .i64 ap]] w fun e w'=>∃v0_ v1_:Value,e = .returned (.tuple #[.agg #[v0_,v1_], .bool r3])/\Kd.R (Kd.int .i64) 3 w' w.heap.size (fun _=>True) v0_ r1/\Kd.S (Kd.slice 3 (Kd.int .i64)) 22 w' w.heap.size (fun k_=>some k_≠(v0_:Value).ownBlock) v1_ r2/\Below w.heap.size w w':=by
 have hu25:=Try.underlying25
 have hu69:=Try.underlying69
 have bu:=A_ ca
 have cq:=A_ ce
 clear ca ce
 have bf:=A_ cb
 have cu:=A_ cg
 clear cb cg
 have HB:=A_ (Below.refl w.heap.size w)
 have H:=h
 unfold Fr.f at H
 clear h
 have HC3:=A_ H
 clear H
 go_enter Try.func123,Try.ntmps123
 go_upto_region 1 with(first|((with_reducible refine gd_ 2 ?_);refine bx_ (N:=2) #[.slice ae ab.length ac, .slice ag aa.length af] 25 ?_;intro st hg w4 hbox hb;have et:=A_ (hbox);have mr9:=A_ ((g21_:w.heap.size<=st));have kf6:=mr9;replace HB:=hs_ (i8) hb;clear hb hbox hg)|((with_reducible refine gd_ 3 ?_);refine bx_ (N:=3) #[.int .i64 aq, .int .i64 ak, .int .i64 am, .int .i64 ap] 69 ?_;intro pf hg w5 hbox hb;have d6:=A_ (hbox);have ms0:=A_ ((g21_:w.heap.size<=pf));have kf7:=ms0;replace HB:=hs_ (i8) hb;have ak5:=A_ ((g88_:st≠pf));have ak6:=A_ ((g89_:pf≠st));replace et:=bb_ et hb;clear hb hbox hg)|((with_reducible refine gd_ 4 ?_);refine bx_ (N:=4) #[.slice none 0 0, .slice none 0 0] 25 ?_;intro iu hg w6 hbox hb;have dv:=A_ (hbox);have ms1:=A_ ((g21_:w.heap.size<=iu));have kf8:=ms1;replace HB:=hs_ (i8) hb;have af5:=A_ ((g88_:st≠iu));have af6:=A_ ((g89_:iu≠st));replace et:=bb_ et hb;have xv:=A_ ((g104_:pf≠iu));have xw:=A_ ((g105_:iu≠pf));replace d6:=bb_ d6 hb;clear hb hbox hg))
 (try simp only[Act.put,List.setIfInBounds_toArray,List.set_cons_zero,List.set_cons_succ])
 go_cut [10] (fun v10 wc=>∃(kq:Nat) (rt:Bool),v10 = .bool rt/\Gy (Fr.j0 kq rt ab aa aq ak am ap=some (r1,r2,r3))/\Gy (kq<=k)/\Gy (hc_ wc st #[(.slice ae ab.length ac),(.slice ag aa.length af)] 25)/\Gy (hc_ wc pf #[.int .i64 aq, .int .i64 ak, .int .i64 am, .int .i64 ap] 69)/\Gy (hc_ wc iu #[(.slice none 0 0),(.slice none 0 0)] 25)/\Gy (Below w.heap.size w wc))
 case first=>
  have H:=HC3.out
  clear HC3
  by_cases c7:aq=0
  case neg=>
   rw[if_neg c7] at H
   have ud:(aq == 0)=false:=beq_eq_false_iff_ne.mpr c7
   have ba4:(aq != 0)=true:=bne_iff_ne.mpr c7
   (first|rw[ud]|(simp only[i64_w,i32_w];rw[ud])|skip)
   have H':=A_ H
   clear H
   have ch8:=ak6.out
   have ch9:=ak5.out
   have bv3:=xv.out
   have bv4:=xw.out
   obtain⟨vh,vi,bj7,hq4,wu,vj,bj8,hq5⟩:=blk4_ d6
   go_wp2
   go_meet
   case rel=>exact⟨_,(false),(g2_),H',⟨g9_⟩,⟨uf0_ et⟩,⟨uf0_ d6⟩,⟨uf0_ dv⟩,⟨i8⟩⟩
  rw[if_pos c7] at H
  have ud:(aq == 0)=true:=beq_iff_eq.mpr c7
  have ba4:(aq != 0)=false:=bne_eq_false_iff_eq.mpr c7
  clear c7
  (first|rw[ud]|(simp only[i64_w,i32_w];rw[ud])|skip)
  by_cases c8:am=0
  ·rw[if_pos c8] at H
   have ad6:(am == 0)=true:=beq_iff_eq.mpr c8
   have bm5:(am != 0)=false:=bne_eq_false_iff_eq.mpr c8
   clear c8
   obtain⟨cn0,A9,H⟩:=bind_ H
   have H':=A_ H
   clear H
   have bn8:=ak6.out
   have bn9:=ak5.out
   have ah3:=xv.out
   have ah4:=xw.out
   obtain⟨xg,xh,bd7,hq0,zv,xi,bd8,hq1⟩:=blk4_ d6
   have cg3:=af5.out
   have cg4:=af6.out
   obtain⟨sf,sg,sh,si⟩:=blk2_ et
   go_wp2_with (first|(go_at_call 83;(refine(Gl.calls k _ _ ab _ _ aa ak cn0 _ (uf1_ bu) cq.out (uf1_ bf) cu.out A9.out).mono ?_);rintro e w15 ⟨rfl,hb⟩;replace et:=bb_ et hb;replace d6:=bb_ d6 hb;replace dv:=bb_ dv hb;replace HB:=hs_ (i8) hb))
   go_meet
   case rel=>exact⟨_,(cn0),(g2_),H',⟨g9_⟩,⟨uf0_ et⟩,⟨uf0_ d6⟩,⟨uf0_ dv⟩,⟨i8⟩⟩
  rw[if_neg c8] at H
  have ad6:(am == 0)=false:=beq_eq_false_iff_ne.mpr c8
  have bm5:(am != 0)=true:=bne_iff_ne.mpr c8
  have H':=A_ H
  clear H
  have dz8:=ak6.out
  have dz9:=ak5.out
  have hn6:=xv.out
  have hn7:=xw.out
  obtain⟨az4,az5,dj0,hq2,az6,az7,dj1,hq3⟩:=blk4_ d6
  go_wp2
  go_meet
  case rel=>exact⟨_,(false),(g2_),H',⟨g9_⟩,⟨uf0_ et⟩,⟨uf0_ d6⟩,⟨uf0_ dv⟩,⟨i8⟩⟩
 clear HC3
 obtain⟨kq,rt,rfl,HA,HJ2,et,d6,dv,HB⟩:=hcut
 cases kq with
 | zero=>exact absurd HA.out (by simp[Fr.j0])
 | succ kj2=>?_
 have H:=HA.out
 clear HA
 simp only[Fr.j0] at H
 by_cases je:rt=true
 ·subst je
  replace H:=ifp_ H
  replace H:=Option.bind_eq_some_iff.mp H
  obtain⟨⟨pg,ru⟩,hq6,H⟩:=H
  try dsimp only at H
  have A23:=A_ hq6
  clear hq6
  obtain⟨fq5,A24,H⟩:=bind_ H
  simp only[Option.some.injEq,Prod.mk.injEq] at H
  obtain⟨rfl,rfl,rfl⟩:=H
  have ff8:=ak5.out
  have ff9:=ak6.out
  have fe8:=af5.out
  have fe9:=af6.out
  obtain⟨ck5,ck6,ck7,ck8⟩:=blk2_ et
  have bw1:=xv.out
  have bw2:=xw.out
  obtain⟨cx3,cx4,hq7,kg2,cx5,cx6,hq8,kg3⟩:=blk4_ d6
  try go_wp2_with (first|((with_reducible refine gc_ 84 ?_);refine gl_ 30 Try.func84 #[.agg #[.slice ae ab.length ac, .slice ag aa.length af], .int .i64 ak, .int .i64 ap] ?_;(refine(Gw.calls kj2 _ _ ab _ _ aa ak ap pg ru _ (uf1_ bu) cq.out (uf1_ bf) cu.out A23.out).mono ?_);rintro e w30 ⟨ms2,ms3,rfl,aj,ar,hb⟩;refine⟨_,rfl,?_⟩;have aa4:=A_ (Kd.R_lower aj (G0 (i8)));have aa5:=A_ (Kd.S_lower ar (G0 (i8)));replace et:=bb_ et hb;replace d6:=bb_ d6 hb;replace dv:=bb_ dv hb;replace HB:=hs_ (i8) hb)|((with_reducible refine gd_ 6 ?_);refine bx_ (N:=6) #[.slice none 0 0, .slice none 0 0] 25 ?_;intro ln hg w31 hbox hb;replace aa4:=rb_ aa4 hb;replace aa5:=sb_ aa5 hb;have xx:=A_ (hbox);have ms4:=A_ ((g21_:w.heap.size<=ln));have kf9:=ms4;replace HB:=hs_ (i8) hb;have fq8:=A_ ((g88_:st≠ln));have kg4:=A_ ((g89_:ln≠st));replace et:=bb_ et hb;have fq9:=A_ ((g104_:pf≠ln));have kg5:=A_ ((g105_:ln≠pf));replace d6:=bb_ d6 hb;have dj2:=A_ ((g150_:iu≠ln));have cb5:=A_ ((g151_:ln≠iu));replace dv:=bb_ dv hb;clear hb hbox hg;obtain⟨lm,k8,ci7⟩:=Kd.R_slice aa4.out;subst ci7;have bk0:=kg4.out;have bk1:=fq8.out;have dg5:=kg5.out;have dg6:=fq9.out;have kg6:=cb5.out;have kg7:=dj2.out;obtain⟨kg8,kg9,kh0,kh1⟩:=blk2_ xx;obtain⟨qi,qj,eg0⟩:=Kd.S_slice aa5.out;subst eg0))
  generalize hw_:((w31.setCell ⟨ln,0,none⟩ (.slice lm pg.length k8)).setCell ⟨ln,1,none⟩ (.slice qi ru.length qj))=w38
  have n0_:Gy (Kd.R (Kd.int .i64) 3 w38 w.heap.size (fun _=>True) (.slice lm pg.length k8) pg):=A_ (by rw[<- hw_];exact ra_ aa4)
  have n1_:Gy (Kd.S (Kd.slice 3 (Kd.int .i64)) 22 w38 w.heap.size (fun k_=>some k_≠(.slice lm pg.length k8:Value).ownBlock) (.slice qi ru.length qj) ru):=A_ (by rw[<- hw_];exact sa_ aa5)
  have n2_:Gy (hc_ w38 st #[.slice ae ab.length ac, .slice ag aa.length af] 25):=A_ (by rw[<- hw_];exact ba_ et)
  have n3_:Gy (hc_ w38 pf #[.int .i64 aq, .int .i64 ak, .int .i64 am, .int .i64 ap] 69):=A_ (by rw[<- hw_];exact ba_ d6)
  have n4_:Gy (hc_ w38 iu #[.slice none 0 0, .slice none 0 0] 25):=A_ (by rw[<- hw_];exact ba_ dv)
  have n5_:Gy (hc_ w38 ln #[.slice lm pg.length k8, .slice qi ru.length qj] 25):=A_ (by rw[<- hw_];exact ba_ xx)
  have n6_:Gy (Below w.heap.size w w38):=A_ (by rw[<- hw_];exact i8)
  clear hw_
  have aa4:=n0_
  have aa5:=n1_
  have et:=n2_
  have d6:=n3_
  have dv:=n4_
  have xx:=n5_
  have HB:=n6_
  clear n0_ n1_ n2_ n3_ n4_ n5_ n6_
  replace aa4:=rd_ aa4
  replace aa5:=sd_ aa5
  replace et:=bd_ et
  replace d6:=bd_ d6
  replace dv:=bd_ dv
  replace xx:=bd_ xx
  replace HB:=A_ (G2 HB.out)
  refine start_ (n:=5) (S:=fun w'=>w'.cell? ⟨ln,0,none⟩=some (.slice lm pg.length k8)/\w'.cell? ⟨ln,1,none⟩=some (.slice qi ru.length qj)) (ds:=[]) (tl_ 5 0) (g1_) rfl (g1_) ⟨(Gz xx.out 0).trans rfl,(Gz xx.out 1).trans rfl⟩ (fun hHeld=>?_)
  generalize w38.drew=w39 at aa4 aa5 et d6 dv xx HB hHeld |-
  refine take_ (i:=0) (N:=some 31) (v:=?_) (a':=?_) (tl_ 5 1) rfl rfl (g1_) (fun _ _ _ h=>h) (Or.inl ⟨by rfl,?_⟩) hHeld ?_ ?_
  rotate_left
  ·rintro w' ⟨s0,s1⟩
   go_simp
   with_reducible rfl
  rotate_left
  ·simp only[Act.put,List.setIfInBounds_toArray,List.set_cons_zero,List.set_cons_succ,i64_w,i32_w]
   rfl
  refine take_ (i:=1) (N:=some 32) (v:=?_) (a':=?_) (tl_ 5 3) rfl rfl (g1_) (fun _ _ _ h=>h) (Or.inl ⟨by rfl,?_⟩) hHeld ?_ ?_
  rotate_left
  ·rintro w' ⟨s0,s1⟩
   go_simp
   with_reducible rfl
  rotate_left
  ·simp only[Act.put,List.setIfInBounds_toArray,List.set_cons_zero,List.set_cons_succ,i64_w,i32_w]
   rfl
  refine one_ (i:=2) (N:=some 33) (tl_ 5 7) rfl rfl (g1_) (by decide) (fun K hK=>?_)
  refine goes_ Try.func73 (g1_) rfl #[.agg #[.slice lm pg.length k8, .slice qi ru.length qj]] (by rfl) rfl rfl (g3_) ?_
  refine(Fg.calls kj2 _ _ pg _ _ ru fq5 _ (cR_ aa4) (lR_ aa4) (cS_ aa5) (lS_ aa5) A24.out).mono ?_
  rintro e w40 ⟨rfl,hb⟩
  refine⟨_,rfl,?_⟩
  replace aa4:=rb_ aa4 hb
  replace aa5:=sb_ aa5 hb
  replace et:=bb_ et hb
  replace d6:=bb_ d6 hb
  replace dv:=bb_ dv hb
  replace xx:=bb_ xx hb
  replace HB:=hs_ (i8) hb
  refine hK.out _ _ ⟨(Gz xx.out 0).trans rfl,(Gz xx.out 1).trans rfl⟩ (fun hHeld=>?_)
  clear hK K
  refine nm_ ?_
  refine one_ (i:=3) (N:=none) (tl_ 5 15) rfl rfl (g1_) (by decide) (fun K hK=>?_)
  have ms5:w40.cell? ⟨iu,0,none⟩=some (.slice none 0 0):=(Gz dv.out 0).trans rfl
  have ms6:=G8 dv.out 0
  have ms9:=cb5.out
  have mt2:=dj2.out
  have jc9:w40.cell? ⟨iu,1,none⟩=some (.slice none 0 0):=(Gz dv.out 1).trans rfl
  have jd0:=G8 dv.out 1
  refine skip_ (w1:=?_) (by rfl) rfl ?_ ?_
  rotate_left
  ·go_simp
   rfl
  refine hK.out _ _ ⟨(cf_ cb5 ((cf_ cb5 (hHeld.1)))),(cf_ cb5 ((cf_ cb5 (hHeld.2))))⟩ (fun hHeld=>?_)
  clear hK K
  refine pure_ (i:=4) (N:=some 5) (v:=?_) (a':=?_) (tl_ 5 31) rfl rfl (g1_) (fun _ _ _ h=>h) (Or.inl ⟨by rfl,?_⟩) ?_ ?_
  rotate_left
  ·intro w'
   go_simp
   with_reducible rfl
  rotate_left
  ·simp only[Act.put,List.setIfInBounds_toArray,List.set_cons_zero,List.set_cons_succ,i64_w,i32_w]
   rfl
  refine done_ (g1_) ?_
  try go_wp2
  refine bodyPost_ret (Jn rfl _ _ iu 25 #[.slice lm pg.length k8, .slice qi ru.length qj] (0,0) _ rfl (ba_ dv) Try.underlying25 rfl (g1_)) rfl ?_
  exact⟨_,_,g4_,ra_ aa4,sa_ aa5,i8⟩
 replace je:=Bool.eq_false_iff.mpr je
 subst je
 replace H:=ifn_ H
 have fr0:=A_ H
 clear H
 go_upto_region 4 with(fail)
 go_cut [34] (fun v34 wc=>∃(kq:Nat) (eg1:Bool),v34 = .bool eg1/\Gy (Fr.j1 kq eg1 ab aa aq ak am ap=some (r1,r2,r3))/\Gy (kq<=kj2)/\Gy (hc_ wc st #[(.slice ae ab.length ac),(.slice ag aa.length af)] 25)/\Gy (hc_ wc pf #[.int .i64 aq, .int .i64 ak, .int .i64 am, .int .i64 ap] 69)/\Gy (hc_ wc iu #[(.slice none 0 0),(.slice none 0 0)] 25)/\Gy (Below w.heap.size w wc))
 case first=>
  have H:=fr0.out
  clear fr0
  by_cases c44:aq=1
  case neg=>
   rw[if_neg c44] at H
   have cn1:(aq == 1)=false:=beq_eq_false_iff_ne.mpr c44
   have hq9:(aq != 1)=true:=bne_iff_ne.mpr c44
   (first|rw[cn1]|(simp only[i64_w,i32_w];rw[cn1])|skip)
   have H':=A_ H
   clear H
   have eb2:=ak6.out
   have eb3:=ak5.out
   have jh6:=xv.out
   have jh7:=xw.out
   obtain⟨fr1,fr2,fr3,kk4,fr4,fr5,fr6,kk5⟩:=blk4_ d6
   go_wp2
   go_meet
   case rel=>exact⟨_,(false),(g2_),H',⟨g106_⟩,⟨uf0_ et⟩,⟨uf0_ d6⟩,⟨uf0_ dv⟩,⟨i8⟩⟩
  rw[if_pos c44] at H
  have cn1:(aq == 1)=true:=beq_iff_eq.mpr c44
  have hq9:(aq != 1)=false:=bne_eq_false_iff_eq.mpr c44
  clear c44
  (first|rw[cn1]|(simp only[i64_w,i32_w];rw[cn1])|skip)
  obtain⟨fq6,A45,H⟩:=bind_ H
  by_cases c46:fq6=true
  case neg=>
   replace c46:=Bool.eq_false_iff.mpr c46
   subst c46
   replace H:=ifn_ H
   have H':=A_ H
   clear H
   have ki8:=ak6.out
   have ki9:=ak5.out
   have fj6:=xv.out
   have fj7:=xw.out
   obtain⟨kj0,kj4,kj6,kj8,kk0,kk1,kk2,kk3⟩:=blk4_ d6
   have fg8:=af5.out
   have fg9:=af6.out
   obtain⟨fj8,fj9,fk0,fk1⟩:=blk2_ et
   go_wp2_with (first|(go_at_call 83;(refine(Gl.calls kj2 _ _ ab _ _ aa ak false _ (uf1_ bu) cq.out (uf1_ bf) cu.out A45.out).mono ?_);rintro e w73 ⟨rfl,hb⟩;replace et:=bb_ et hb;replace d6:=bb_ d6 hb;replace dv:=bb_ dv hb;replace HB:=hs_ (i8) hb))
   go_meet
   case rel=>exact⟨_,(false),(g2_),H',⟨g106_⟩,⟨uf0_ et⟩,⟨uf0_ d6⟩,⟨uf0_ dv⟩,⟨i8⟩⟩
  subst c46
  replace H:=ifp_ H
  obtain⟨fq7,A47,H⟩:=bind_ H
  by_cases c48:fq7=true
  ·subst c48
   replace H:=ifp_ H
   have H':=A_ H
   clear H
   have fg2:=ak6.out
   have fg3:=ak5.out
   have fg4:=xv.out
   have fg5:=xw.out
   obtain⟨au2,au3,bn2,cl5,au4,au5,bn3,cl6⟩:=blk4_ d6
   have js0:=af5.out
   have js1:=af6.out
   obtain⟨eg2,eg3,eg4,eg5⟩:=blk2_ et
   have MK83_0:=True.intro
   go_wp2_with (first|(clear MK83_0;go_at_call 83;(refine(Gl.calls kj2 _ _ ab _ _ aa ak true _ (uf1_ bu) cq.out (uf1_ bf) cu.out A45.out).mono ?_);rintro e w54 ⟨rfl,hb⟩;replace et:=bb_ et hb;replace d6:=bb_ d6 hb;replace dv:=bb_ dv hb;replace HB:=hs_ (i8) hb;obtain⟨hr3,hr4,hr5,hr6⟩:=blk2_ et;obtain⟨ex3,ex4,kh2,kh3,ex5,ex6,kh4,kh5⟩:=blk4_ d6)|(go_at_call 83;(refine(Gl.calls kj2 _ _ ab _ _ aa am true _ (uf1_ bu) cq.out (uf1_ bf) cu.out A47.out).mono ?_);rintro e w57 ⟨rfl,hb⟩;replace et:=bb_ et hb;replace d6:=bb_ d6 hb;replace dv:=bb_ dv hb;replace HB:=hs_ (i8) hb;obtain⟨gm3,gm4,kh6,kh7,gm5,gm6,kh8,kh9⟩:=blk4_ d6))
   go_meet
   case rel=>exact⟨_,((ak != am)),(g2_),H',⟨g106_⟩,⟨uf0_ et⟩,⟨uf0_ d6⟩,⟨uf0_ dv⟩,⟨i8⟩⟩
  replace c48:=Bool.eq_false_iff.mpr c48
  subst c48
  replace H:=ifn_ H
  have H':=A_ H
  clear H
  have fi8:=ak6.out
  have fi9:=ak5.out
  have ki0:=xv.out
  have ki1:=xw.out
  obtain⟨hr7,hr8,ki2,ki3,hr9,hs1,ki4,ki5⟩:=blk4_ d6
  have hs2:=af5.out
  have hs3:=af6.out
  obtain⟨fj1,fj2,fj3,fj4⟩:=blk2_ et
  have MK83_0:=True.intro
  go_wp2_with (first|(clear MK83_0;go_at_call 83;(refine(Gl.calls kj2 _ _ ab _ _ aa ak true _ (uf1_ bu) cq.out (uf1_ bf) cu.out A45.out).mono ?_);rintro e w64 ⟨rfl,hb⟩;replace et:=bb_ et hb;replace d6:=bb_ d6 hb;replace dv:=bb_ dv hb;replace HB:=hs_ (i8) hb;obtain⟨hc8,hc9,hd2,hd3⟩:=blk2_ et;obtain⟨hs4,hs5,hs6,ki6,hs7,hs8,ht1,ki7⟩:=blk4_ d6)|(go_at_call 83;(refine(Gl.calls kj2 _ _ ab _ _ aa am false _ (uf1_ bu) cq.out (uf1_ bf) cu.out A47.out).mono ?_);rintro e w67 ⟨rfl,hb⟩;replace et:=bb_ et hb;replace d6:=bb_ d6 hb;replace dv:=bb_ dv hb;replace HB:=hs_ (i8) hb))
  go_meet
  case rel=>exact⟨_,(false),(g2_),H',⟨g106_⟩,⟨uf0_ et⟩,⟨uf0_ d6⟩,⟨uf0_ dv⟩,⟨i8⟩⟩
 clear fr0
 obtain⟨kq,eg1,rfl,HA,HJ42,et,d6,dv,HB⟩:=hcut
 cases kq with
 | zero=>exact absurd HA.out (by simp[Fr.j1])
 | succ kj42=>?_
 have H:=HA.out
 clear HA
 simp only[Fr.j1] at H
 by_cases c77:eg1=true
 case neg=>
  replace c77:=Bool.eq_false_iff.mpr c77
  subst c77
  replace H:=ifn_ H
  by_cases ar5:(aq == 2 && (ak == 0 && (am == 0 && (ap == 0))))=true
  ·rw[if_pos ar5] at H
   have km3:(aq == 2 && (ak == 0 && (am == 0 && (ap == 0))))=true:=ar5
   (try(have km4:decide (aq=2 && (ak == 0 && (am == 0 && (ap == 0))))=true:=by simpa using ar5))
   (try(have km5:(aq == 2 && (ak == 0 && (am == 0 && (ap == 0))))=true:=by simpa using ar5))
   clear ar5
   replace H:=Option.bind_eq_some_iff.mp H
   obtain⟨⟨dj4,eh0⟩,ht8,H⟩:=H
   try dsimp only at H
   have km6:=A_ ht8
   clear ht8
   simp only[Option.some.injEq,Prod.mk.injEq] at H
   obtain⟨rfl,rfl,rfl⟩:=H
   have mw2:=ak6.out
   have mw3:=ak5.out
   have gz0:=xv.out
   have gz1:=xw.out
   obtain⟨mw4,mw5,mw6,mw7,mw8,mw9,mx0,mx1⟩:=blk4_ d6
   have km7:=af5.out
   have km8:=af6.out
   obtain⟨jv5,jv6,jv7,jv8⟩:=blk2_ et
   go_wp2_with (first|((with_reducible refine gc_ 92 ?_);refine gl_ 78 Try.func92 #[.agg #[.slice ae ab.length ac, .slice ag aa.length af]] ?_;(refine(Fw.calls kj42 _ _ ab _ _ aa dj4 eh0 _ (uf1_ bu) cq.out (uf1_ bf) cu.out km6.out).mono ?_);rintro e jv9 ⟨mx2,mx3,rfl,aj,ar,hb⟩;refine⟨_,rfl,?_⟩;have ht9:=A_ (Kd.R_lower aj (G0 (i8)));have hu3:=A_ (Kd.S_lower ar (G0 (i8)));replace et:=bb_ et hb;replace d6:=bb_ d6 hb;replace dv:=bb_ dv hb;replace HB:=hs_ (i8) hb;obtain⟨eh1,eh2,km9⟩:=Kd.R_slice ht9.out;subst km9;obtain⟨jm3,jm4,jm5,jm6⟩:=blk2_ dv;obtain⟨nn,np,fh8⟩:=Kd.S_slice hu3.out;subst fh8))
   refine bodyPost_ret (Jn rfl _ _ iu 25 #[.slice eh1 dj4.length eh2, .slice nn eh0.length np] (0,0) _ rfl (ba_ dv) Try.underlying25 rfl (g1_)) rfl ?_
   exact⟨_,_,g4_,ra_ ht9,sa_ hu3,i8⟩
  rw[if_neg ar5] at H
  have km3:(aq == 2 && (ak == 0 && (am == 0 && (ap == 0))))=false:=by simpa using ar5
  (try(have km4:decide (aq=2 && (ak == 0 && (am == 0 && (ap == 0))))=false:=by simpa using ar5))
  (try(have km5:(aq == 2 && (ak == 0 && (am == 0 && (ap == 0))))=false:=by simpa using ar5))
  (try(have mx4:¬ (aq=2 && (ak == 0 && (am == 0 && (ap == 0)))):=by simpa using ar5))
  clear ar5
  by_cases ar6:(aq == 3 && (ak == 0 && (am == 0 && (ap == 0))))=true
  ·rw[if_pos ar6] at H
   have kn0:(aq == 3 && (ak == 0 && (am == 0 && (ap == 0))))=true:=ar6
   (try(have kn1:decide (aq=3 && (ak == 0 && (am == 0 && (ap == 0))))=true:=by simpa using ar6))
   (try(have kn2:(aq == 3 && (ak == 0 && (am == 0 && (ap == 0))))=true:=by simpa using ar6))
   clear ar6
   replace H:=Option.bind_eq_some_iff.mp H
   obtain⟨⟨cb7,cn2,kn3⟩,hu4,H⟩:=H
   try dsimp only at H
   have kn4:=A_ hu4
   clear hu4
   simp only[Option.some.injEq,Prod.mk.injEq] at H
   obtain⟨rfl,rfl,rfl⟩:=H
   have kn5:=ak6.out
   have kn6:=ak5.out
   have hf3:=xv.out
   have hf5:=xw.out
   obtain⟨hf6,hf7,hf8,mx5,hf9,hg0,hg3,mx6⟩:=blk4_ d6
   have kn7:=af5.out
   have kn8:=af6.out
   obtain⟨mx7,mx8,mx9,my0⟩:=blk2_ et
   go_wp2_with (first|((with_reducible refine gc_ 99 ?_);refine gl_ 85 Try.func99 #[.agg #[.slice ae ab.length ac, .slice ag aa.length af]] ?_;(refine(Fd.calls kj42 _ _ ab _ _ aa cb7 cn2 kn3 _ (uf1_ bu) cq.out (uf1_ bf) cu.out kn4.out).mono ?_);rintro e my1 ⟨my2,my3,rfl,aj,ar,hb⟩;refine⟨_,rfl,?_⟩;have eh3:=A_ (Kd.R_lower aj (G0 (i8)));have eh4:=A_ (Kd.S_lower ar (G0 (i8)));replace et:=bb_ et hb;replace d6:=bb_ d6 hb;replace dv:=bb_ dv hb;replace HB:=hs_ (i8) hb)|((with_reducible refine gd_ 8 ?_);refine bx_ (N:=8) #[.slice none 0 0, .slice none 0 0] 25 ?_;intro ak8 hg kn9 hbox hb;replace eh3:=rb_ eh3 hb;replace eh4:=sb_ eh4 hb;have fs2:=A_ (hbox);have my4:=A_ ((g21_:w.heap.size<=ak8));have kg1:=my4;replace HB:=hs_ (i8) hb;have ko0:=A_ ((g88_:st≠ak8));have ko1:=A_ ((g89_:ak8≠st));replace et:=bb_ et hb;have ko2:=A_ ((g104_:pf≠ak8));have ko3:=A_ ((g105_:ak8≠pf));replace d6:=bb_ d6 hb;have fs3:=A_ ((g150_:iu≠ak8));have ko4:=A_ ((g151_:ak8≠iu));replace dv:=bb_ dv hb;clear hb hbox hg;obtain⟨af7,af8,fs4⟩:=Kd.R_slice eh3.out;subst fs4;have fi1:=ko1.out;have fi2:=ko0.out;have ko5:=ko3.out;have ko6:=ko2.out;have jo3:=ko4.out;have jo4:=fs3.out;obtain⟨my5,my6,my7,my8⟩:=blk2_ fs2;obtain⟨aw9,ax0,fs5⟩:=Kd.S_slice eh4.out;subst fs5;obtain⟨my9,mz0,mz1,mz2⟩:=blk2_ dv))
   refine bodyPost_ret (Jn rfl _ _ iu 25 #[.slice af7 cb7.length af8, .slice aw9 cn2.length ax0] (0,0) _ rfl (ba_ dv) Try.underlying25 rfl (g1_)) rfl ?_
   exact⟨_,_,g4_,ra_ eh3,sa_ eh4,i8⟩
  rw[if_neg ar6] at H
  have kn0:(aq == 3 && (ak == 0 && (am == 0 && (ap == 0))))=false:=by simpa using ar6
  (try(have kn1:decide (aq=3 && (ak == 0 && (am == 0 && (ap == 0))))=false:=by simpa using ar6))
  (try(have kn2:(aq == 3 && (ak == 0 && (am == 0 && (ap == 0))))=false:=by simpa using ar6))
  (try(have mz3:¬ (aq=3 && (ak == 0 && (am == 0 && (ap == 0)))):=by simpa using ar6))
  clear ar6
  simp only[Option.some.injEq,Prod.mk.injEq] at H
  obtain⟨rfl,rfl,rfl⟩:=H
  have ko7:=ak6.out
  have ko8:=ak5.out
  have fi3:=xv.out
  have fi4:=xw.out
  obtain⟨jo8,jo9,mz4,mz5,jp0,jp1,mz6,mz7⟩:=blk4_ d6
  have ko9:=af6.out
  have kp0:=af5.out
  obtain⟨kp1,kp2,kp3,kp4⟩:=blk2_ dv
  go_wp2
  refine bodyPost_ret (Jn rfl _ _ iu 25 #[.slice none 0 0, .slice none 0 0] (0,0) _ rfl (ba_ dv) Try.underlying25 rfl (g1_)) rfl ?_
  exact⟨_,_,g4_,g18_,g24_,i8⟩
 subst c77
 replace H:=ifp_ H
 replace H:=Option.bind_eq_some_iff.mp H
 obtain⟨⟨lc,kz⟩,ht3,H⟩:=H
 try dsimp only at H
 have A78:=A_ ht3
 clear ht3
 obtain⟨mt5,H⟩:=pd_ H
 obtain⟨mt6,H⟩:=pd_ H
 obtain⟨fr7,H⟩:=pd_ H
 obtain⟨mt7,H⟩:=pd_ H
 obtain⟨fr8,hyq⟩:∃y_:List Int,y_=((Jc kz ak).set (am:Int).toNat ap):=⟨_,rfl⟩
 replace H:((some (kz.set (ak:Int).toNat fr8:List (List Int))).bind fun af4=>((Fg.f kj42 lc af4).bind fun cb4=>(some (lc,af4,cb4))))=some (r1,r2,r3):=qh_
 have kk6:=A_ hyq
 clear hyq
 obtain⟨af4,hyq⟩:∃y_:List (List Int),y_=(kz.set (ak:Int).toNat fr8):=⟨_,rfl⟩
 replace H:((Fg.f kj42 lc af4).bind fun cb4=>(some (lc,af4,cb4)))=some (r1,r2,r3):=qh_
 have kk7:=A_ hyq
 clear hyq
 obtain⟨cb4,A84,H⟩:=bind_ H
 simp only[Option.some.injEq,Prod.mk.injEq] at H
 obtain⟨rfl,rfl,rfl⟩:=H
 have mt8:=ak5.out
 have mt9:=ak6.out
 have jt9:=af5.out
 have ju0:=af6.out
 obtain⟨ju1,ju2,ju3,ju4⟩:=blk2_ et
 try go_wp2_with (first|((with_reducible refine gc_ 111 ?_);refine gl_ 58 Try.func111 #[.agg #[.slice ae ab.length ac, .slice ag aa.length af]] ?_;(refine(Fo.calls kj42 _ _ ab _ _ aa lc kz _ (uf1_ bu) cq.out (uf1_ bf) cu.out A78.out).mono ?_);rintro e w88 ⟨mu0,mu1,rfl,aj,ar,hb⟩;refine⟨_,rfl,?_⟩;have rv:=A_ (Kd.R_lower aj (G0 (i8)));have ni:=A_ (Kd.S_lower ar (G0 (i8)));replace et:=bb_ et hb;replace d6:=bb_ d6 hb;replace dv:=bb_ dv hb;replace HB:=hs_ (i8) hb)|((with_reducible refine gd_ 7 ?_);refine bx_ (N:=7) #[.slice none 0 0, .slice none 0 0] 25 ?_;intro kr hg w89 hbox hb;replace rv:=rb_ rv hb;replace ni:=sb_ ni hb;have o6:=A_ (hbox);have mu2:=A_ ((g21_:w.heap.size<=kr));have kg0:=mu2;replace HB:=hs_ (i8) hb;have fr9:=A_ ((g88_:st≠kr));have kk8:=A_ ((g89_:kr≠st));replace et:=bb_ et hb;have fs0:=A_ ((g104_:pf≠kr));have kk9:=A_ ((g105_:kr≠pf));replace d6:=bb_ d6 hb;have dj3:=A_ ((g150_:iu≠kr));have cb6:=A_ ((g151_:kr≠iu));replace dv:=bb_ dv hb;clear hb hbox hg;obtain⟨nz,n0,eg6⟩:=Kd.R_slice rv.out;subst eg6;have kl0:=kk8.out;have kl1:=fr9.out;have kl2:=kk9.out;have kl3:=fs0.out;have fl0:=cb6.out;have fl1:=dj3.out;obtain⟨kl4,kl5,kl6,kl7⟩:=blk2_ o6;obtain⟨ak7,rx,kl8⟩:=Kd.S_slice ni.out;subst kl8))
 generalize hw_:((w89.setCell ⟨kr,0,none⟩ (.slice nz lc.length n0)).setCell ⟨kr,1,none⟩ (.slice ak7 kz.length rx))=w96
 have n0_:Gy (Kd.R (Kd.int .i64) 3 w96 w.heap.size (fun _=>True) (.slice nz lc.length n0) lc):=A_ (by rw[<- hw_];exact ra_ rv)
 have n1_:Gy (Kd.S (Kd.slice 3 (Kd.int .i64)) 22 w96 w.heap.size (fun k_=>some k_≠(.slice nz lc.length n0:Value).ownBlock) (.slice ak7 kz.length rx) kz):=A_ (by rw[<- hw_];exact sa_ ni)
 have n2_:Gy (hc_ w96 st #[.slice ae ab.length ac, .slice ag aa.length af] 25):=A_ (by rw[<- hw_];exact ba_ et)
 have n3_:Gy (hc_ w96 pf #[.int .i64 aq, .int .i64 ak, .int .i64 am, .int .i64 ap] 69):=A_ (by rw[<- hw_];exact ba_ d6)
 have n4_:Gy (hc_ w96 iu #[.slice none 0 0, .slice none 0 0] 25):=A_ (by rw[<- hw_];exact ba_ dv)
 have n5_:Gy (hc_ w96 kr #[.slice nz lc.length n0, .slice ak7 kz.length rx] 25):=A_ (by rw[<- hw_];exact ba_ o6)
 have n6_:Gy (Below w.heap.size w w96):=A_ (by rw[<- hw_];exact i8)
 clear hw_
 have rv:=n0_
 have ni:=n1_
 have et:=n2_
 have d6:=n3_
 have dv:=n4_
 have o6:=n5_
 have HB:=n6_
 clear n0_ n1_ n2_ n3_ n4_ n5_ n6_
 replace rv:=rd_ rv
 replace ni:=sd_ ni
 replace et:=bd_ et
 replace d6:=bd_ d6
 replace dv:=bd_ dv
 replace o6:=bd_ o6
 replace HB:=A_ (G2 HB.out)
 have eg7:0<=(ak:Int):=od_
 have eg8:ak < (kz.length:Int):=od_
 obtain⟨bf1,mu3,kl9,km0,eg9,ht4,ht5⟩:=at_L1 (Kd.S_reads' ni.out).2.2 ak eg7 eg8
 cases km0
 obtain⟨ce473,hce473,hMe473,hcc473⟩:=Kd.S_get ni.out [] ak eg7 (by first|exact eg8|exact od_|(have e_:=(Kd.S_reads' ni.out).1;omega))
 obtain⟨ve473_0,rfl,ge473_0⟩:=hMe473
 have hv473_0:=hcc473 0 _ rfl
 rw[Nat.add_zero,show((Kd.slice 3 (Kd.int .i64))).sz=1 from rfl,Nat.mul_one] at hv473_0
 replace hv473_0:=Option.some.inj (hv473_0.symm.trans eg9)
 rw[hv473_0] at ge473_0
 have bo9:=A_ (show Kd.R (Kd.int .i64) 3 _ _ _ _ (Jc kz ak) from ge473_0)
 clear hv473_0 ge473_0
 have HX473_0:=A_ eg9
 clear hcc473 hce473
 have km1:=A_ ht5
 have mu4:=A_ ht4
 clear ht5 ht4
 replace eg7:=eq_true eg7
 replace eg8:=eq_true eg8
 have p83:0<=(am:Int):=od_
 have q83:(am:Int) < (((Jc kz ak).length:Int):Int):=od_
 obtain⟨aw8,mu5,ht6,ht7,gl83,cl83,HG83⟩:=Kd.R_form bo9.out (by omega)
 (first|cases ht6|(injection ht6 with ea_ en_ ec_;(first|subst ea_|(injection ea_ with ea_;subst ea_));subst ec_;clear en_))
 have GB83:=A_ ht7
 have GG83:=A_ HG83
 clear ht7 gl83 HG83
 obtain⟨km2,hf83_0⟩:=Kd.R_celln 0 bo9.out (am:Int) p83 q83
 replace p83:=eq_true p83
 replace q83:=eq_true q83
 have hq98:(ak:Int) < (kz.length:Int):=(by have h_:(ak:Int) < ((kz.length:Int):Int):=od_;first|exact h_|(have e_:=(Kd.S_reads' ni.out).1;omega)|simpa only[List.length_set,List.length_set] using h_)
 obtain⟨oki98,ce98,hcl98,hM98,hcc98,hok98,hbk98⟩:=Kd.S_borrow ni.out [] (ak:Int) (od_) (by first|exact hq98|exact od_|(have e_:=(Kd.S_reads' ni.out).1;omega))
 obtain⟨ve98_0,rfl,ge98_0⟩:=hM98
 have hv98:=hcc98 0 _ rfl
 rw[Nat.add_zero,show((Kd.slice 3 (Kd.int .i64))).sz=1 from rfl,Nat.mul_one] at hv98
 replace hv98:=Option.some.inj (hv98.symm.trans HX473_0.out)
 subst hv98
 clear hcc98 hcl98
 replace ge98_0:=(show Kd.R (Kd.int .i64) 3 _ _ _ _ (Jc kz ak) from ge98_0)
 have HP98:=Kd.R_putg ge98_0 (am:Int) ap
 rw[<- kk6.out] at HP98
 have HS98:=hbk98 HP98.2 (fun k_ e_=>by injection e_ with e_;subst e_;exact ge98_0.1 _ rfl) (x':=fr8) (Kd.M_row HP98.1)
 rw[<- kk7.out] at HS98
 have HQ98:=A_ HS98
 clear HP98 HS98 hbk98 hok98
 refine start_ (n:=12) (S:=fun w'=>w'.cell? ⟨kr,0,none⟩=some (.slice nz lc.length n0)/\w'.cell? ⟨kr,1,none⟩=some (.slice (some bf1) kz.length rx)/\w'.cell? ⟨pf,0,none⟩=some (.int .i64 aq)/\w'.cell? ⟨pf,1,none⟩=some (.int .i64 ak)/\w'.cell? ⟨pf,2,none⟩=some (.int .i64 am)/\w'.cell? ⟨pf,3,none⟩=some (.int .i64 ap)/\w'.cell? (bf1.add (ak).toNat)=some (.slice (some ⟨aw8,0,none⟩) (Jc kz ak).length kl9)) (ds:=[11]) (tl_ 12 0) (g1_) rfl (g1_) ⟨(Gz o6.out 0).trans rfl,(Gz o6.out 1).trans rfl,(Gz d6.out 0).trans rfl,(Gz d6.out 1).trans rfl,(Gz d6.out 2).trans rfl,(Gz d6.out 3).trans rfl,eg9⟩ (fun hHeld=>?_);refine Jm Fr.tab6 Fr.bits6 (fun HT_ HW_=>?_)
 generalize w96.drew=w97 at rv ni et d6 dv o6 HB GG83 bo9 HQ98 km1 HX473_0 hf83_0 eg9 km2 hHeld |-
 refine pw_ 0 59 (tl_ 12 1) ?_
 refine pw_ 2 61 (tl_ 12 5) ?_
 refine pw_ 6 65 (tl_ 12 69) ?_
 refine pw_ 8 67 (tl_ 12 325) ?_
 refine tk4_ 1 60 (tl_ 12 327) hHeld ?_
 refine tk4_ 3 62 (tl_ 12 335) hHeld ?_
 refine pw_ 4 63 (tl_ 12 351) ?_
 refine tk4_ 5 64 (tl_ 12 383) hHeld ?_
 refine tk4_ 7 66 (tl_ 12 511) hHeld ?_
 refine tk4_ 9 68 (tl_ 12 1023) hHeld ?_
 refine pw_ 10 69 (tl_ 12 2047) ?_
 refine last_ (i:=11) (N:=none) (tl_ 12 4095) rfl rfl (Jo HT_.out (g1_)) (by decide) (fun K hK=>?_)
 refine skip_ (w1:=?_) (by rfl) rfl ?_ ?_
 rotate_left
 ·go_simp
  rfl
 refine hK.out _ _ ?_
 clear hK K
 refine done_ (done_of HT_.out (g1_)) ?_
 have n0_:Gy (Kd.R (Kd.int .i64) 3 (w97.setCell ⟨aw8,(am:Int).toNat,none⟩ (.int .i64 ap)) w.heap.size (fun _=>True) (.slice nz lc.length n0) lc):=⟨by(with_reducible repeat(first|apply Kd.R_alloc|apply Kd.R_drewN|apply Kd.R_drew));exact Kd.R_mono (Kd.R_far (p:=⟨aw8,(am:Int).toNat,none⟩) (Kd.R_far1 rv.out rfl ((bo9.out.1 _ rfl).1)) (fun _ hk=>hk.2) (.int .i64 ap)) (fun _ hk=>trivial)⟩
 have n1_:Gy (Kd.S (Kd.slice 3 (Kd.int .i64)) 22 (w97.setCell ⟨aw8,(am:Int).toNat,none⟩ (.int .i64 ap)) w.heap.size (fun k_=>some k_≠(.slice nz lc.length n0:Value).ownBlock) (.slice (some bf1) kz.length rx) af4):=⟨uf3_ HQ98⟩
 have n2_:Gy ((w97.setCell ⟨aw8,(am:Int).toNat,none⟩ (.int .i64 ap)).heap[st]? = some (.cells #[.slice ae ab.length ac, .slice ag aa.length af] 25 (0,0))):=⟨by(with_reducible repeat(first|refine G6 ?_ _|refine G7 ?_|refine G5 ?_ _));refine Jf ?_ (by have h_:=Kd.R_ne bo9.out et.out (by decide);intro e_;exact h_ (g6_)) _;exact uf0_ et⟩
 have n3_:Gy ((w97.setCell ⟨aw8,(am:Int).toNat,none⟩ (.int .i64 ap)).heap[pf]? = some (.cells #[.int .i64 aq, .int .i64 ak, .int .i64 am, .int .i64 ap] 69 (0,0))):=⟨by(with_reducible repeat(first|refine G6 ?_ _|refine G7 ?_|refine G5 ?_ _));refine Jf ?_ (by have h_:=Kd.R_ne bo9.out d6.out (by decide);intro e_;exact h_ (g6_)) _;exact uf0_ d6⟩
 have n4_:Gy ((w97.setCell ⟨aw8,(am:Int).toNat,none⟩ (.int .i64 ap)).heap[iu]? = some (.cells #[.slice none 0 0, .slice none 0 0] 25 (0,0))):=⟨by(with_reducible repeat(first|refine G6 ?_ _|refine G7 ?_|refine G5 ?_ _));refine Jf ?_ (by have h_:=Kd.R_ne bo9.out dv.out (by decide);intro e_;exact h_ (g6_)) _;exact uf0_ dv⟩
 have n5_:Gy ((w97.setCell ⟨aw8,(am:Int).toNat,none⟩ (.int .i64 ap)).heap[kr]? = some (.cells #[.slice nz lc.length n0, .slice (some bf1) kz.length rx] 25 (0,0))):=⟨by(with_reducible repeat(first|refine G6 ?_ _|refine G7 ?_|refine G5 ?_ _));refine Jf ?_ (by have h_:=Kd.R_ne bo9.out o6.out (by decide);intro e_;exact h_ (g6_)) _;exact uf0_ o6⟩
 have n6_:Gy (Below w.heap.size w (w97.setCell ⟨aw8,(am:Int).toNat,none⟩ (.int .i64 ap))):=⟨i8⟩
 generalize (w97.setCell ⟨aw8,(am:Int).toNat,none⟩ (.int .i64 ap))=he9 at n0_ n1_ n2_ n3_ n4_ n5_ n6_ |-
 have rv:=n0_
 have ni:=n1_
 have et:=n2_
 have d6:=n3_
 have dv:=n4_
 have o6:=n5_
 have HB:=n6_
 clear n0_ n1_ n2_ n3_ n4_ n5_ n6_
 try go_wp2
 replace rv:=rd_ rv
 replace ni:=sd_ ni
 replace et:=bd_ et
 replace d6:=bd_ d6
 replace dv:=bd_ dv
 replace o6:=bd_ o6
 replace HB:=A_ (G2 HB.out)
 refine start_ (n:=5) (S:=fun w'=>w'.cell? ⟨kr,0,none⟩=some (.slice nz lc.length n0)/\w'.cell? ⟨kr,1,none⟩=some (.slice (some bf1) kz.length rx)) (ds:=[]) (tl_ 5 0) (g1_) rfl (g1_) ⟨(Gz o6.out 0).trans rfl,(Gz o6.out 1).trans rfl⟩ (fun hHeld=>?_)
 generalize he9.drew=jv1 at rv ni et d6 dv o6 HB hHeld |-
 refine take_ (i:=0) (N:=some 70) (v:=?_) (a':=?_) (tl_ 5 1) rfl rfl (g1_) (fun _ _ _ h=>h) (Or.inl ⟨by rfl,?_⟩) hHeld ?_ ?_
 rotate_left
 ·rintro w' ⟨s0,s1⟩
  go_simp
  with_reducible rfl
 rotate_left
 ·simp only[Act.put,List.setIfInBounds_toArray,List.set_cons_zero,List.set_cons_succ,i64_w,i32_w]
  rfl
 refine take_ (i:=1) (N:=some 71) (v:=?_) (a':=?_) (tl_ 5 3) rfl rfl (g1_) (fun _ _ _ h=>h) (Or.inl ⟨by rfl,?_⟩) hHeld ?_ ?_
 rotate_left
 ·rintro w' ⟨s0,s1⟩
  go_simp
  with_reducible rfl
 rotate_left
 ·simp only[Act.put,List.setIfInBounds_toArray,List.set_cons_zero,List.set_cons_succ,i64_w,i32_w]
  rfl
 refine one_ (i:=2) (N:=some 72) (tl_ 5 7) rfl rfl (g1_) (by decide) (fun K hK=>?_)
 refine goes_ Try.func73 (g1_) rfl #[.agg #[.slice nz lc.length n0, .slice (some bf1) af4.length rx]] (by rfl) rfl rfl (by(try simp only[List.map_toArray,List.map_cons,List.map_nil]);first|done|(rw[show af4.length=kz.length from(Kd.S_reads' ni.out).1.symm] <;> rfl)|rfl|(simp only[List.length_drop,List.length_take];rfl)) ?_
 with_reducible refine(Fg.calls kj42 _ _ lc _ _ af4 cb4 _ ?side1 ?side2 ?side3 ?side4 A84.out).mono ?_
 (case side1=>exact cR_ rv)
 (case side2=>exact lR_ rv)
 (case side3=>exact cS_ ni)
 (case side4=>rw[show af4.length=kz.length from(Kd.S_reads' ni.out).1.symm];exact(Kd.S_reads' ni.out).2.1)
 rintro e fs1 ⟨rfl,hb⟩
 refine⟨_,rfl,?_⟩
 replace rv:=rb_ rv hb
 replace ni:=sb_ ni hb
 replace et:=bb_ et hb
 replace d6:=bb_ d6 hb
 replace dv:=bb_ dv hb
 replace o6:=bb_ o6 hb
 replace HB:=hs_ (i8) hb
 refine hK.out _ _ ⟨(Gz o6.out 0).trans rfl,(Gz o6.out 1).trans rfl⟩ (fun hHeld=>?_)
 clear hK K
 refine nm_ ?_
 refine one_ (i:=3) (N:=none) (tl_ 5 15) rfl rfl (g1_) (by decide) (fun K hK=>?_)
 have mu6:fs1.cell? ⟨iu,0,none⟩=some (.slice none 0 0):=(Gz dv.out 0).trans rfl
 have mu7:=G8 dv.out 0
 have mu9:=xv.out
 have mv0:=cb6.out
 have mv2:=xw.out
 have mv3:=dj3.out
 have mv4:fs1.cell? ⟨iu,1,none⟩=some (.slice none 0 0):=(Gz dv.out 1).trans rfl
 have mv5:=G8 dv.out 1
 refine skip_ (w1:=?_) (by rfl) rfl ?_ ?_
 rotate_left
 ·go_simp
  rfl
 refine hK.out _ _ ⟨(cf_ cb6 ((cf_ cb6 (hHeld.1)))),(cf_ cb6 ((cf_ cb6 (hHeld.2))))⟩ (fun hHeld=>?_)
 clear hK K
 refine pure_ (i:=4) (N:=some 5) (v:=?_) (a':=?_) (tl_ 5 31) rfl rfl (g1_) (fun _ _ _ h=>h) (Or.inl ⟨by rfl,?_⟩) ?_ ?_
 rotate_left
 ·intro w'
  go_simp
  with_reducible rfl
 rotate_left
 ·simp only[Act.put,List.setIfInBounds_toArray,List.set_cons_zero,List.set_cons_succ,i64_w,i32_w]
  rfl
 refine done_ (g1_) ?_
 try go_wp2
 refine bodyPost_ret (Jn rfl _ _ iu 25 #[.slice nz lc.length n0, .slice (some bf1) kz.length rx] (0,0) _ rfl (ba_ dv) Try.underlying25 rfl (g1_)) rfl ?_
 exact⟨_,_,g4_,ra_ rv,sa_ ni,i8⟩
def Fv.l0:Nat->List Int->List Int->Int->Int->Option (Bool)
 | 0,_,_,_,_=>none
 | k + 1,x0,x1,wg,gx=>if gx < wg then(if 0<=gx then(if gx < (x0.length:Int) then(if gx < (x1.length:Int) then(if (rd x0 gx)=(rd x1 gx) then(Fv.l0 k x0 x1 wg (wrap64 (gx + 1))) else(some false)) else(none)) else(none)) else(none)) else(some true)
def Fv.f (k:Nat) (l0:List Int) (l1:List Int):Option (Bool):=if (l0.length:Int)=(l1.length:Int) then(Fv.l0 k l0 l1 (l0.length:Int) 0) else(some false)
set_option maxHeartbeats 8000000 in
set_option maxRecDepth 100000 in
theorem Fv.calls (k:Nat) (A0:Option Addr) (c0:Nat) (l0:List Int) (A1:Option Addr) (c1:Nat) (l1:List Int) (r:Bool) (w:World) (fc:Kd.C (Kd.int .i64) w A0 l0.length l0) (gc:l0.length<=c0) (j6:Kd.C (Kd.int .i64) w A1 l1.length l1) (kh:l1.length<=c1) (h:Fv.f k l0 l1=some r) :
  Calls Try.prog 131 #[.slice A0 l0.length c0, .slice A1 l1.length c1] w fun e w'=>e = .returned (.bool r)/\Drawn0 w w':=by
 have i3:=A_ fc
 have qn:=A_ gc
 clear fc gc
 have h7:=A_ j6
 have yz:=A_ kh
 clear j6 kh
 have H:=h
 unfold Fv.f at H
 clear h
 by_cases c3:(l0.length:Int)=(l1.length:Int)
 case neg=>
  rw[if_neg c3] at H
  have jd:((l0.length:Int) == (l1.length:Int))=false:=beq_eq_false_iff_ne.mpr c3
  have n7:((l0.length:Int) != (l1.length:Int))=true:=bne_iff_ne.mpr c3
  have vd:(l0.length == l1.length)=false:=by first|simpa using c3|(simp at c3 |-;omega)
  obtain rfl:=Option.some.inj H
  go_enter Try.func131,Try.ntmps131
  go_wp2
  repeat(go_quiet (fail);try go_wp2)
  go_ret
  exact⟨g2_,g5_⟩
 rw[if_pos c3] at H
 have jd:((l0.length:Int) == (l1.length:Int))=true:=beq_iff_eq.mpr c3
 have n7:((l0.length:Int) != (l1.length:Int))=false:=bne_eq_false_iff_eq.mpr c3
 have vd:(l0.length == l1.length)=true:=by first|simpa using c3|(simp at c3 |-;omega)
 clear c3
 have H':=A_ H
 clear H
 go_enter Try.func131,Try.ntmps131
 go_wp2
 repeat(go_quiet (fail);try go_wp2)
 go_loopg [13] k (fun kq v13 w'=>∃(ba:Int),v13 = .int .i64 ba/\Gy (Fv.l0 kq l0 l1 (l0.length:Int) ba=some r)/\Gy (kq<=k)/\Drawn0 w w')
 case atStart=>exact⟨(0),(g2_),H',⟨Nat.le_refl _⟩,g5_⟩
 clear H'
 obtain⟨ba,rfl,HA,HK1,⟨m1,rfl⟩⟩:=hrel
 cases gk with
 | zero=>exact absurd HA.out (by simp[Fv.l0])
 | succ k1=>?_
 have H:=HA.out
 clear HA
 simp only[Fv.l0] at H
 by_cases c4:ba < (l0.length:Int)
 case neg=>
  rw[if_neg c4] at H
  have mv:=decide_eq_false c4
  clear c4
  obtain rfl:=Option.some.inj H
  go_wp2
  repeat(go_quiet (fail);try go_wp2)
  go_ret
  exact⟨g2_,g5_⟩
 rw[if_pos c4] at H
 have mv:=decide_eq_true c4
 clear c4
 obtain⟨ij,H⟩:=pd_ H
 obtain⟨nk,H⟩:=pd_ H
 obtain⟨ud,H⟩:=pd_ H
 by_cases c8:(rd l0 ba)=(rd l1 ba)
 ·rw[if_pos c8] at H
  have ad6:((rd l0 ba) == (rd l1 ba))=true:=beq_iff_eq.mpr c8
  have bm5:((rd l0 ba) != (rd l1 ba))=false:=bne_eq_false_iff_eq.mpr c8
  clear c8
  have H':=A_ H
  clear H
  obtain⟨⟨kp5,fs6,kp6⟩,cb8,cb9⟩:=rdp_ (Kd.at_int i3.out ba)
  cases fs6
  obtain⟨⟨kp7,fs7,kp8⟩,cc0,cc1⟩:=rdp_ (Kd.at_int h7.out ba)
  cases fs7
  go_wp2
  repeat(go_quiet (fail);try go_wp2)
  go_roundg k1
  case measure=>have:=HK1.out;omega
  case rel=>exact⟨(wrap64 (ba + 1)),(g2_),H',⟨g13_⟩,g5_⟩
 rw[if_neg c8] at H
 have ad6:((rd l0 ba) == (rd l1 ba))=false:=beq_eq_false_iff_ne.mpr c8
 have bm5:((rd l0 ba) != (rd l1 ba))=true:=bne_iff_ne.mpr c8
 obtain rfl:=Option.some.inj H
 obtain⟨⟨kp5,fs6,kp6⟩,cb8,cb9⟩:=rdp_ (Kd.at_int i3.out ba)
 cases fs6
 obtain⟨⟨kp7,fs7,kp8⟩,cc0,cc1⟩:=rdp_ (Kd.at_int h7.out ba)
 cases fs7
 go_wp2
 repeat(go_quiet (fail);try go_wp2)
 go_ret
 exact⟨g2_,g5_⟩
def F6.el (k:Nat):List (List Int)->List (List Int)->Option Bool
 | x :: r,y :: s=>(Fv.f k x y).bind fun t=>if t=true then F6.el k r s else some false
 | _,_=>some true
def F6.f (k:Nat) (l0:List (List Int)) (l1:List (List Int)):Option (Bool):=if (l0.length:Int)=(l1.length:Int) then F6.el k l0 l1 else some false
theorem F6.at {w:World} {A:Option Addr} {n:Nat} {xs:List (List Int)} (h:Kd.C (Kd.slice 3 (Kd.int .i64)) w A n xs) (j:Nat) (hj:j < n) :
  ∃ad A0 c0,A=some ad/\w.cell? (ad.add j)=some (.slice A0 (xs.getD j []).length c0)/\(xs.getD j []).length<=c0/\(Kd.int .i64).C w A0 (xs.getD j []).length (xs.getD j []):=by
 obtain⟨ad,c,rfl,hcl,⟨A0,c0,rfl,hl,hC⟩,hcc⟩:=Kd.C_get h [] (j:Int) (by omega) (by omega)
 refine⟨ad,A0,c0,rfl,?_,hl,hC⟩
 have:=hcc 0 _ rfl
 have hs:(Kd.slice 3 (Kd.int .i64)).sz=1:=rfl
 rw[hs] at this
 simpa using this
set_option maxHeartbeats 4000000 in
set_option maxRecDepth 100000 in
theorem F6.calls (k:Nat) (A0:Option Addr) (c0:Nat) (l0:List (List Int)) (A1:Option Addr) (c1:Nat) (l1:List (List Int)) (r:Bool) (w:World) (fc:Kd.C (Kd.slice 3 (Kd.int .i64)) w A0 l0.length l0) (gc:l0.length<=c0) (j6:Kd.C (Kd.slice 3 (Kd.int .i64)) w A1 l1.length l1) (kh:l1.length<=c1) (h:F6.f k l0 l1=some r) :
  Calls Try.prog 132 #[.slice A0 l0.length c0, .slice A1 l1.length c1, .func (.func 131) #[] #[]] w fun e w'=>e = .returned (.bool r)/\Drawn0 w w':=by
 have hn:l0.length<=9223372036854775807:=fc.2.1
 have i3:=A_ fc
 have h7:=A_ j6
 clear fc j6
 unfold F6.f at h
 by_cases hl:(l0.length:Int)=(l1.length:Int)
 case neg=>
  rw[if_neg hl] at h
  obtain rfl:=Option.some.inj h
  have jd:((l0.length:Int) == (l1.length:Int))=false:=beq_eq_false_iff_ne.mpr hl
  have n7:((l0.length:Int) != (l1.length:Int))=true:=bne_iff_ne.mpr hl
  have vd:(l0.length == l1.length)=false:=by first|simpa using hl|(simp at hl |-;omega)
  clear h hl
  go_enter Try.func132,Try.ntmps132
  go_wp2
  repeat(go_quiet (fail);try go_wp2)
  go_ret
  exact⟨rfl,g5_⟩
 rw[if_pos hl] at h
 have H:=A_ h
 have jd:((l0.length:Int) == (l1.length:Int))=true:=beq_iff_eq.mpr hl
 have n7:((l0.length:Int) != (l1.length:Int))=false:=bne_eq_false_iff_eq.mpr hl
 have vd:(l0.length == l1.length)=true:=by first|simpa using hl|(simp at hl |-;omega)
 have HL:Gy (l1.length=l0.length):=⟨by omega⟩
 clear h hl
 go_enter Try.func132,Try.ntmps132
 go_wp2
 repeat(go_quiet (fail);try go_wp2)
 go_loopg [17] (l0.length) (fun kq v17 w'=>∃j:Nat,kq + j=l0.length/\v17 = .int .i64 j/\Gy (F6.el k (l0.drop j) (l1.drop j)=some r)/\Drawn0 w w')
 case atStart=>exact⟨0,by omega,rfl,⟨H.out⟩,g5_⟩
 clear H
 obtain⟨j,hj,rfl,HA,⟨m1,rfl⟩⟩:=hrel
 by_cases hlt:j < l0.length
 case neg=>
  obtain rfl:j=l0.length:=by omega
  have hr:Gy (true=r):=⟨by
   have:=HA.out
   rw[List.drop_of_length_le (Nat.le_refl _)] at this
   simp only[F6.el] at this
   exact Option.some.inj this⟩
  have mv:decide ((l0.length:Int) < (l0.length:Int))=false:=decide_eq_false (by omega)
  clear HA
  go_wp2
  repeat(go_quiet (fail);try go_wp2)
  go_ret
  exact⟨by rw[<- hr.out];try rfl,g5_⟩
 obtain⟨k1,rfl⟩:∃k1,gk=k1 + 1:=⟨gk - 1,by omega⟩
 have hd0:l0.drop j=l0.getD j [] :: l0.drop (j + 1):=by
  rw[List.drop_eq_getElem_cons hlt];simp[List.getD_eq_getElem?_getD,List.getElem?_eq_getElem hlt]
 have hlt1:j < l1.length:=by rw[HL.out];exact hlt
 have hd1:l1.drop j=l1.getD j [] :: l1.drop (j + 1):=by
  rw[List.drop_eq_getElem_cons hlt1];simp[List.getD_eq_getElem?_getD,List.getElem?_eq_getElem hlt1]
 have HX:=HA.out
 rw[hd0,hd1] at HX
 simp only[F6.el] at HX
 clear HA
 obtain⟨ad0,B0,b0,e0,hx0,hm0,hi0⟩:=F6.at i3.out j hlt
 obtain⟨ad1,B1,b1,e1,ub,hm1,hi1⟩:=F6.at h7.out j hlt1
 cases e0
 cases e1
 have HI0:=A_ hi0
 have HI1:=A_ hi1
 have p5:(0<=(j:Int))=True:=eq_true (by omega)
 have q5:((j:Int) < (l0.length:Int))=True:=eq_true (by omega)
 have q6:((j:Int) < (l1.length:Int))=True:=eq_true (by have:=HL.out;omega)
 have mv:decide ((j:Int) < (l0.length:Int))=true:=decide_eq_true (by omega)
 clear hi0 hi1 hd0 hd1
 generalize l0.getD j []=x at hx0 hm0 HI0 HX
 generalize l1.getD j []=y at ub hm1 HI1 HX
 obtain⟨t,hT,HX⟩:=Option.bind_eq_some_iff.mp HX
 have HT:=A_ hT
 clear hT
 have hx0':w.cell? (ad0.add j)=some (.slice B0 x.length b0):=hx0
 have hx1':w.cell? (ad1.add j)=some (.slice B1 y.length b1):=ub
 by_cases ht:t=true
 ·subst ht
  rw[if_pos rfl] at HX
  have HX':=A_ HX
  clear HX
  go_wp2_with (go_at_call 131;refine(Fv.calls k _ _ x _ _ y true _ ?s1 ?s2 ?s3 ?s4 HT.out).mono ?_;(case s1=>repeat(first|exact HI0.out|(with_reducible refine Kd.C_drewN ?_ _)|(with_reducible refine Kd.C_drew ?_)));(case s2=>exact hm0);(case s3=>repeat(first|exact HI1.out|(with_reducible refine Kd.C_drewN ?_ _)|(with_reducible refine Kd.C_drew ?_)));(case s4=>exact hm1);rintro e w9 ⟨rfl,⟨nd,rfl⟩⟩)
  go_roundg k1
  case measure=>omega
  case rel=>exact⟨j + 1,by omega,by go_num,HX',g101_⟩
 obtain rfl:t=false:=by simpa using ht
 rw[if_neg (by decide)] at HX
 obtain rfl:=Option.some.inj HX
 clear HX ht
 go_wp2_with (go_at_call 131;refine(Fv.calls k _ _ x _ _ y false _ ?s1 ?s2 ?s3 ?s4 HT.out).mono ?_;(case s1=>repeat(first|exact HI0.out|(with_reducible refine Kd.C_drewN ?_ _)|(with_reducible refine Kd.C_drew ?_)));(case s2=>exact hm0);(case s3=>repeat(first|exact HI1.out|(with_reducible refine Kd.C_drewN ?_ _)|(with_reducible refine Kd.C_drew ?_)));(case s4=>exact hm1);rintro e w9 ⟨rfl,⟨nd,rfl⟩⟩)
 go_ret
 exact⟨rfl,g101_⟩
def Gu.f (k:Nat) (ab:List Int) (aa:List (List Int)) (bg:List Int) (b5:List (List Int)):Option (Bool):=(Fv.f k ab bg).bind fun dj5=>(if dj5=true then((F6.f k aa b5).bind fun dj6=>(some dj6)) else(some false))
theorem bh6 {p:Prop} (h:p:=by repeat(first|(with_reducible first|exact HB.out|apply G4|apply G3|apply G2|refine G1 ?_ hu5.out|refine G1 ?_ hu6.out)|exact HB.out)):p:=h
set_option maxHeartbeats 8000000 in
set_option maxRecDepth 100000 in
theorem Gu.calls (k:Nat) (ae:Option Addr) (ac:Nat) (ab:List Int) (ag:Option Addr) (af:Nat) (aa:List (List Int)) (eu:Option Addr) (ev:Nat) (bg:List Int) (e7:Option Addr) (e8:Nat) (b5:List (List Int)) (r:Bool) (w:World) (ca:Kd.C (Kd.int .i64) w ae ab.length ab) (ce:ab.length<=ac) (cb:Kd.C (Kd.slice 3 (Kd.int .i64)) w ag aa.length aa) (cg:aa.length<=af) (yn:Kd.C (Kd.int .i64) w eu bg.length bg) (yo:bg.length<=ev) (yp:Kd.C (Kd.slice 3 (Kd.int .i64)) w e7 b5.length b5) (yq:b5.length<=e8) (h:Gu.f k ab aa bg b5=some r) :
  Calls Try.prog 124 #[.agg #[.slice ae ab.length ac, .slice ag aa.length af], .agg #[.slice eu bg.length ev, .slice e7 b5.length e8]] w fun e w'=>e = .returned (.bool r)/\Below w.heap.size w w':=by
 have hu25:=Try.underlying25
 have bu:=A_ ca
 have cq:=A_ ce
 clear ca ce
 have bf:=A_ cb
 have cu:=A_ cg
 clear cb cg
 have am2:=A_ yn
 have ay4:=A_ yo
 clear yn yo
 have ay5:=A_ yp
 have br0:=A_ yq
 clear yp yq
 have HB:=A_ (Below.refl w.heap.size w)
 have H:=h
 unfold Gu.f at H
 clear h
 obtain⟨dj5,A3,H⟩:=bind_ H
 by_cases c4:dj5=true
 ·subst c4
  replace H:=ifp_ H
  obtain⟨dj6,A5,H⟩:=bind_ H
  obtain rfl:=Option.some.inj H
  go_enter Try.func124,Try.ntmps124
  go_wp2_with (first|((with_reducible refine gd_ 2 ?_);refine bx_ (N:=2) #[.slice ae ab.length ac, .slice ag aa.length af] 25 ?_;intro af9 hg w6 hbox hb;have ar7:=A_ (hbox);have kp9:=A_ ((g43_:w.heap.size<=af9));have hu5:=kp9;replace HB:=hs_ (bh6) hb;clear hb hbox hg)|((with_reducible refine gd_ 3 ?_);refine bx_ (N:=3) #[.slice eu bg.length ev, .slice e7 b5.length e8] 25 ?_;intro bf2 hg w7 hbox hb;have fs8:=A_ (hbox);have kq0:=A_ ((g43_:w.heap.size<=bf2));have hu6:=kq0;replace HB:=hs_ (bh6) hb;have fs9:=nl_ ar7 hg;have ft0:=nr_ ar7 hg;replace ar7:=bb_ ar7 hb;clear hb hbox hg;have ga5:=fs9.out;have ga6:=ft0.out;obtain⟨cf9,cg0,cg1,cg2⟩:=blk2_ ar7;obtain⟨am4,am5,am6,am7⟩:=blk2_ fs8)|((with_reducible refine gc_ 131 ?_);refine gl_ 9 Try.func131 #[.slice ae ab.length ac, .slice eu bg.length ev] ?_;(refine(Fv.calls k _ _ ab _ _ bg true _ (uf1_ bu) cq.out (uf1_ am2) ay4.out A3.out).mono ?_);rintro e w' ⟨rfl,⟨nd,rfl⟩⟩;refine⟨_,rfl,?_⟩)|(go_at_call 132;(refine(F6.calls k _ _ aa _ _ b5 dj6 _ (cu_ (Kd.C_below bf.out (bh6))) cu.out (cu_ (Kd.C_below ay5.out (bh6))) br0.out A5.out).mono ?_);rintro e w' ⟨rfl,⟨nd,rfl⟩⟩))
  go_ret
  exact⟨g4_,bh6⟩
 replace c4:=Bool.eq_false_iff.mpr c4
 subst c4
 replace H:=ifn_ H
 obtain rfl:=Option.some.inj H
 go_enter Try.func124,Try.ntmps124
 go_wp2_with (first|((with_reducible refine gd_ 2 ?_);refine bx_ (N:=2) #[.slice ae ab.length ac, .slice ag aa.length af] 25 ?_;intro af9 hg w11 hbox hb;have ar7:=A_ (hbox);have kp9:=A_ ((g43_:w.heap.size<=af9));have hu5:=kp9;replace HB:=hs_ (bh6) hb;clear hb hbox hg)|((with_reducible refine gd_ 3 ?_);refine bx_ (N:=3) #[.slice eu bg.length ev, .slice e7 b5.length e8] 25 ?_;intro bf2 hg ws hbox hb;have fs8:=A_ (hbox);have kq0:=A_ ((g43_:w.heap.size<=bf2));have hu6:=kq0;replace HB:=hs_ (bh6) hb;have fs9:=nl_ ar7 hg;have ft0:=nr_ ar7 hg;replace ar7:=bb_ ar7 hb;clear hb hbox hg;have cg3:=fs9.out;have cg4:=ft0.out;obtain⟨sf,sg,sh,si⟩:=blk2_ ar7;obtain⟨am8,am9,an0,an1⟩:=blk2_ fs8)|((with_reducible refine gc_ 131 ?_);refine gl_ 9 Try.func131 #[.slice ae ab.length ac, .slice eu bg.length ev] ?_;(refine(Fv.calls k _ _ ab _ _ bg false _ (uf1_ bu) cq.out (uf1_ am2) ay4.out A3.out).mono ?_);rintro e w' ⟨rfl,⟨nd,rfl⟩⟩;refine⟨_,rfl,?_⟩))
 go_ret
 exact⟨g4_,bh6⟩
attribute [local go_sem high] eqA69
def F4.j0:Nat->Bool->List Int->List (List Int)->List (S25)->List Int->List (List Int)->Option (List Int × (List (List Int)) × (List (S25)) × Bool)
 | 0,_,_,_,_,_,_=>none
 | k + 1,x48,hu7,hu8,ft1,hu9,hv0=>if x48=true then(some (hu7,hu8,ft1,false)) else(if ft1.length < 2932031007402 then((some (ft1 ++ [(⟨hu7,hu8⟩:S25)]:List (S25))).bind fun su=>(if (su.length:Int) > 8 then(if 1<=(su.length:Int) then((Fq.f k hu9 hv0 (su.drop (1:Int).toNat)).bind fun bt540=>(some (bt540.1,bt540.2.1,bt540.2.2,true))) else(none)) else((Fq.f k hu9 hv0 su).bind fun bt549=>(some (bt549.1,bt549.2.1,bt549.2.2,true))))) else(none))
def F4.f (k:Nat) (ab:List Int) (aa:List (List Int)) (ai:List (S25)) (aq:Int) (ak:Int) (am:Int) (ap:Int):Option (List Int × (List (List Int)) × (List (S25)) × Bool):=(Fq.f k ab aa ai).bind fun bt501=>(if (aq == 4 && (ak == 0 && (am == 0 && (ap == 0))))=true then(if (wrap64 ((bt501.2.2.length:Int) - 1)) < 0 then(some (bt501.1,bt501.2.1,bt501.2.2,false)) else(if 0<=(wrap64 ((bt501.2.2.length:Int) - 1)) then(if (wrap64 ((bt501.2.2.length:Int) - 1)) < (bt501.2.2.length:Int) then(if (wrap64 ((bt501.2.2.length:Int) - 1))<=(bt501.2.2.length:Int) then((Fq.f k ((Jd bt501.2.2 (wrap64 ((bt501.2.2.length:Int) - 1))).f0) ((Jd bt501.2.2 (wrap64 ((bt501.2.2.length:Int) - 1))).f1) (bt501.2.2.take ((wrap64 ((bt501.2.2.length:Int) - 1)):Int).toNat)).bind fun bt516=>(some (bt516.1,bt516.2.1,bt516.2.2,true))) else(none)) else(none)) else(none))) else((Fr.f k ab aa aq ak am ap).bind fun bt525=>(if bt525.2.2=true then((Gu.f k bt525.1 bt525.2.1 ab aa).bind fun cn3=>(F4.j0 k cn3 bt501.1 bt501.2.1 bt501.2.2 bt525.1 bt525.2.1)) else(F4.j0 k true bt501.1 bt501.2.1 bt501.2.2 bt525.1 bt525.2.1))))
def F4.T6:Bool × List (List Nat × List Nat):=(true,[([],[]),([0],[0]),([],[]),([1,2],[1,2]),([3],[3]),([],[]),([5],[5]),([],[]),([6,7],[6,7]),([4,8],[4,8]),([9],[9]),([10,10,0,1,2,3,4,5,6,7,8,9,10],[10]),([11,0,1,2,3,4,5,6,7,8,9,10,11],[])])
def F4.B6:List Nat:=[0,1,0,7,15,0,32,0,224,511,1023,2047,4095]
theorem F4.tab6:rtab .any (opsOf Try.f102 6)=F4.T6:=by kernel_rfl
theorem F4.bits6:waitsOk F4.T6.2 F4.B6=true:=by kernel_rfl
theorem fz {p:Prop} (h:p:=by repeat(first|(with_reducible first|exact HB.out|apply G4|apply G3|apply G2|refine G1 ?_ ft2.out|refine G1 ?_ ft3.out|refine G1 ?_ ft4.out|refine G1 ?_ ft5.out|refine G1 ?_ kq1.out)|exact HB.out)):p:=h
set_option maxHeartbeats 8000000 in
set_option maxRecDepth 100000 in
theorem F4.calls (k:Nat) (ae:Option Addr) (ac:Nat) (ab:List Int) (ag:Option Addr) (af:Nat) (aa:List (List Int)) (ci:Option Addr) (bv:Nat) (ai:List (S25)) (aq:Int) (ak:Int) (am:Int) (ap:Int) (r1:List Int) (r2:List (List Int)) (r3:List (S25)) (r4:Bool) (w:World) (ca:Kd.C (Kd.int .i64) w ae ab.length ab) (ce:ab.length<=ac) (cb:Kd.C (Kd.slice 3 (Kd.int .i64)) w ag aa.length aa) (cg:aa.length<=af) (k0:Kd.C k25 w ci ai.length ai) (k5:ai.length<=bv) (h:F4.f k ab aa ai aq ak am ap=some (r1,r2,r3,r4)) :
  Calls Try.prog 102 #[.agg #[.slice ae ab.length ac, .slice ag aa.length af, .slice ci ai.length bv], .agg #[.int .i64 aq, .int .i64 ak, .int .i64 am, .int .i64 ap]] w fun e w'=>∃v0_ v1_ v2_:Value,e = .returned (.tuple #[.agg #[v0_,v1_,v2_], .bool r4])/\Kd.R (Kd.int .i64) 3 w' w.heap.size (fun _=>True) v0_ r1/\Kd.S (Kd.slice 3 (Kd.int .i64)) 22 w' w.heap.size (fun k_=>some k_≠(v0_:Value).ownBlock) v1_ r2/\Kd.R k25 25 w' w.heap.size (fun k_=>some k_≠(v0_:Value).ownBlock/\some k_≠(v1_:Value).ownBlock) v2_ r3/\Below w.heap.size w w':=by
 have hu28:=Try.underlying28
 have hu69:=Try.underlying69
 have hu25:=Try.underlying25
 have bu:=A_ ca
 have cq:=A_ ce
 clear ca ce
 have bf:=A_ cb
 have cu:=A_ cg
 clear cb cg
 have l9:=A_ k0
 have rf:=A_ k5
 clear k0 k5
 have HB:=A_ (Below.refl w.heap.size w)
 have H:=h
 unfold F4.f at H
 clear h
 replace H:=Option.bind_eq_some_iff.mp H
 obtain⟨⟨fh,fx,eg⟩,pb,H⟩:=H
 try dsimp only at H
 have A3:=A_ pb
 clear pb
 by_cases c4:(aq == 4 && (ak == 0 && (am == 0 && (ap == 0))))=true
 case neg=>
  rw[if_neg c4] at H
  have mv:(aq == 4 && (ak == 0 && (am == 0 && (ap == 0))))=false:=by simpa using c4
  (try(have hv1:decide (aq=4 && (ak == 0 && (am == 0 && (ap == 0))))=false:=by simpa using c4))
  (try(have hv2:(aq == 4 && (ak == 0 && (am == 0 && (ap == 0))))=false:=by simpa using c4))
  (try(have nb3:¬ (aq=4 && (ak == 0 && (am == 0 && (ap == 0)))):=by simpa using c4))
  clear c4
  replace H:=Option.bind_eq_some_iff.mp H
  obtain⟨⟨im,ji,hy3⟩,hy4,H⟩:=H
  try dsimp only at H
  have A57:=A_ hy4
  clear hy4
  have bz9:=A_ H
  clear H
  go_enter Try.func102,Try.ntmps102
  go_upto_region 8 with(first|((with_reducible refine gd_ 2 ?_);refine bx_ (N:=2) #[.slice ae ab.length ac, .slice ag aa.length af, .slice ci ai.length bv] 28 ?_;intro kf hg w59 hbox hb;have fu:=A_ (hbox);have hv3:=A_ ((g8_:w.heap.size<=kf));have ft2:=hv3;replace HB:=hs_ (fz) hb;clear hb hbox hg)|((with_reducible refine gd_ 3 ?_);refine bx_ (N:=3) #[.int .i64 aq, .int .i64 ak, .int .i64 am, .int .i64 ap] 69 ?_;intro kg hg w60 hbox hb;have gw:=A_ (hbox);have hv4:=A_ ((g8_:w.heap.size<=kg));have ft3:=hv4;replace HB:=hs_ (fz) hb;have cn4:=A_ ((g27_:kf≠kg));have cn5:=A_ ((g28_:kg≠kf));replace fu:=bb_ fu hb;clear hb hbox hg)|((with_reducible refine gd_ 4 ?_);refine bx_ (N:=4) #[.slice none 0 0, .slice none 0 0, .slice none 0 0] 28 ?_;intro dc hg w61 hbox hb;have eb:=A_ (hbox);have hv5:=A_ ((g8_:w.heap.size<=dc));have ft4:=hv5;replace HB:=hs_ (fz) hb;have ak9:=A_ ((g27_:kf≠dc));have al0:=A_ ((g28_:dc≠kf));replace fu:=bb_ fu hb;have ar8:=A_ ((g48_:kg≠dc));have ar9:=A_ ((g49_:dc≠kg));replace gw:=bb_ gw hb;clear hb hbox hg;have hs2:=cn4.out;have hs3:=cn5.out;have kt2:=ak9.out;have kt3:=al0.out;obtain⟨hy5,hy6,kt4,hy7,hy8,kt5⟩:=blk3_ fu)|((with_reducible refine gc_ 104 ?_);refine gl_ 12 Try.func104 #[.agg #[.slice ae ab.length ac, .slice ag aa.length af, .slice ci ai.length bv]] ?_;(refine(Fq.calls k _ _ ab _ _ aa _ _ ai fh fx eg _ (uf1_ bu) cq.out (uf1_ bf) cu.out (uf1_ l9) rf.out A3.out).mono ?_);rintro e w65 ⟨hv6,hv7,hv8,rfl,aj,ar,ef,hb⟩;refine⟨_,rfl,?_⟩;have lo:=A_ (Kd.R_lower aj (G0 (fz)));have lp:=A_ (Kd.S_lower ar (G0 (fz)));have iv:=A_ (Kd.R_lower ef (G0 (fz)));replace fu:=bb_ fu hb;replace gw:=bb_ gw hb;replace eb:=bb_ eb hb;replace HB:=hs_ (fz) hb)|((with_reducible refine gd_ 6 ?_);refine bx_ (N:=6) #[.slice none 0 0, .slice none 0 0, .slice none 0 0] 28 ?_;intro cz hg w66 hbox hb;replace lo:=rb_ lo hb;replace lp:=sb_ lp hb;replace iv:=rb_ iv hb;have gp:=A_ (hbox);have hv9:=A_ ((g8_:w.heap.size<=cz));have ft5:=hv9;replace HB:=hs_ (fz) hb;have xy:=A_ ((g27_:kf≠cz));have bf3:=A_ ((g28_:cz≠kf));replace fu:=bb_ fu hb;have aa6:=A_ ((g48_:kg≠cz));have bp0:=A_ ((g49_:cz≠kg));replace gw:=bb_ gw hb;have ry:=A_ ((g107_:dc≠cz));have rz:=A_ ((g108_:cz≠dc));replace eb:=bb_ eb hb;clear hb hbox hg;obtain⟨m5,m6,kt6⟩:=Kd.R_slice lo.out;subst kt6;have ki8:=bf3.out;have ki9:=xy.out;have fj6:=bp0.out;have fj7:=aa6.out;have fg6:=rz.out;have fg7:=ry.out;obtain⟨kt7,kt8,kt9,ku0,ku1,ku2⟩:=blk3_ gp;obtain⟨ph,pi,ku3⟩:=Kd.S_slice lp.out;subst ku3;obtain⟨r0,r8,ku4⟩:=Kd.R_slice iv.out;subst ku4;have eb2:=ar8.out;have eb3:=ar9.out;obtain⟨fk2,fk3,fk4,fk5,fk6,fk7,fk8,fk9⟩:=blk4_ gw;obtain⟨fr1,fr2,fr3,fr4,fr5,fr6⟩:=blk3_ fu)|((with_reducible refine gc_ 123 ?_);refine gl_ 38 Try.func123 #[.agg #[.slice ae ab.length ac, .slice ag aa.length af], .agg #[.int .i64 aq, .int .i64 ak, .int .i64 am, .int .i64 ap]] ?_;(refine(Fr.calls k _ _ ab _ _ aa aq ak am ap im ji hy3 _ (Kd.C_below bu.out (fz)) cq.out (Kd.C_below bf.out (fz)) cu.out A57.out).mono ?_);rintro e w77 ⟨nb4,nb5,rfl,aj,ar,hb⟩;refine⟨_,rfl,?_⟩;replace iv:=A_ (Kd.R_mono (Kd.R_told (Kd.R_told (Kd.R_old (ra_ iv) hb) (Kd.R_base aj)) (Kd.S_base ar)) (fun _ h_=>h_.1));have bf4:=A_ (Kd.R_lower (Kd.R_new' aj (Kd.R_lt (g152_))) (G0 (fz)));have bf5:=A_ (Kd.S_lower (Kd.S_new' (Kd.S_new' ar (Kd.R_lt (g152_))) (Kd.S_lt (sa_ lp))) (G0 (fz)));replace lo:=A_ (Kd.R_elder' (g152_) (Kd.R_base aj) hb);replace lp:=A_ (Kd.S_mono (Kd.S_told (Kd.S_told (Kd.S_old (sa_ lp) hb) (Kd.R_base aj)) (Kd.S_base ar)) (fun _ h_=>h_.1));replace fu:=A_ (G9 (g:=kf) (o:=.cells #[.slice ae ab.length ac, .slice ag aa.length af, .slice ci ai.length bv] 28 (0,0)) (ba_ fu) hb);replace gw:=A_ (G9 (g:=kg) (o:=.cells #[.int .i64 aq, .int .i64 ak, .int .i64 am, .int .i64 ap] 69 (0,0)) (ba_ gw) hb);replace eb:=A_ (G9 (g:=dc) (o:=.cells #[.slice none 0 0, .slice none 0 0, .slice none 0 0] 28 (0,0)) (ba_ eb) hb);replace gp:=A_ (G9 (g:=cz) (o:=.cells #[.slice m5 fh.length m6, .slice ph fx.length pi, .slice r0 eg.length r8] 28 (0,0)) (ba_ gp) hb);replace HB:=hs_ (fz) hb)|((with_reducible refine gd_ 8 ?_);refine bx_ (N:=8) #[.slice none 0 0, .slice none 0 0] 25 ?_;intro gy hg w78 hbox hb;replace lo:=rb_ lo hb;replace lp:=sb_ lp hb;replace iv:=A_ (Kd.R_below (Kd.R_elderB (uf2_ iv) gy (Nat.le_of_eq hg.symm)) hb);replace bf4:=rb_ bf4 hb;replace bf5:=sb_ bf5 hb;have kj:=A_ (hbox);have nb6:=A_ ((g8_:w.heap.size<=gy));have kq1:=nb6;replace HB:=hs_ (fz) hb;have bp3:=A_ ((g27_:kf≠gy));have eh8:=A_ ((g28_:gy≠kf));replace fu:=bb_ fu hb;have bp4:=A_ ((g48_:kg≠gy));have eh9:=A_ ((g49_:gy≠kg));replace gw:=bb_ gw hb;have bf6:=A_ ((g107_:dc≠gy));have dk2:=A_ ((g108_:gy≠dc));replace eb:=bb_ eb hb;have bf7:=nl_ gp hg;have dk3:=nr_ gp hg;replace gp:=bb_ gp hb;clear hb hbox hg;obtain⟨jm,jj,cc4⟩:=Kd.R_slice bf4.out;subst cc4;have gw9:=eh8.out;have gx0:=bp3.out;have hd5:=eh9.out;have hd6:=bp4.out;have fh0:=dk2.out;have fh1:=bf6.out;have gx1:=dk3.out;have gx2:=bf7.out;obtain⟨ku5,ku6,ku7,ku8⟩:=blk2_ kj;obtain⟨l5,lq,ku9⟩:=Kd.S_slice bf5.out;subst ku9))
  (try simp only[Act.put,List.setIfInBounds_toArray,List.set_cons_zero,List.set_cons_succ])
  go_cut [48] (fun v48 wc=>∃(kq:Nat) (ei0:Bool),v48 = .bool ei0/\Gy (F4.j0 kq ei0 fh fx eg im ji=some (r1,r2,r3,r4))/\Gy (kq<=k)/\Gy (Kd.R (Kd.int .i64) 3 wc w.heap.size (fun k_=>some k_≠((.slice jm im.length jj):Value).ownBlock) (.slice m5 fh.length m6) fh)/\Gy (Kd.S (Kd.slice 3 (Kd.int .i64)) 22 wc w.heap.size (fun k_=>some k_≠((.slice m5 fh.length m6):Value).ownBlock/\some k_≠((.slice jm im.length jj):Value).ownBlock/\some k_≠((.slice l5 ji.length lq):Value).ownBlock) (.slice ph fx.length pi) fx)/\Gy (Kd.R k25 25 wc w.heap.size (fun k_=>some k_≠((.slice m5 fh.length m6):Value).ownBlock/\some k_≠((.slice ph fx.length pi):Value).ownBlock/\some k_≠((.slice jm im.length jj):Value).ownBlock/\some k_≠((.slice l5 ji.length lq):Value).ownBlock/\k_≠gy) (.slice r0 eg.length r8) eg)/\Gy (Kd.R (Kd.int .i64) 3 wc w.heap.size (fun k_=>some k_≠((.slice m5 fh.length m6):Value).ownBlock) (.slice jm im.length jj) im)/\Gy (Kd.S (Kd.slice 3 (Kd.int .i64)) 22 wc w.heap.size (fun k_=>some k_≠((.slice m5 fh.length m6):Value).ownBlock/\some k_≠((.slice ph fx.length pi):Value).ownBlock/\some k_≠((.slice jm im.length jj):Value).ownBlock) (.slice l5 ji.length lq) ji)/\Gy (hc_ wc kf #[(.slice ae ab.length ac),(.slice ag aa.length af),(.slice ci ai.length bv)] 28)/\Gy (hc_ wc kg #[.int .i64 aq, .int .i64 ak, .int .i64 am, .int .i64 ap] 69)/\Gy (hc_ wc dc #[(.slice none 0 0),(.slice none 0 0),(.slice none 0 0)] 28)/\Gy (hc_ wc cz #[(.slice m5 fh.length m6),(.slice ph fx.length pi),(.slice r0 eg.length r8)] 28)/\Gy (hc_ wc gy #[(.slice jm im.length jj),(.slice l5 ji.length lq)] 25)/\Gy (Below w.heap.size w wc))
  case first=>
   have H:=bz9.out
   clear bz9
   by_cases c86:hy3=true
   case neg=>
    replace c86:=Bool.eq_false_iff.mpr c86
    subst c86
    replace H:=ifn_ H
    have H':=A_ H
    clear H
    go_wp2
    go_meet
    case rel=>exact⟨_,(true),(g2_),H',⟨g9_⟩,⟨ra_ lo⟩,⟨sa_ lp⟩,⟨ra_ iv⟩,⟨ra_ bf4⟩,⟨sa_ bf5⟩,⟨ba_ fu⟩,⟨ba_ gw⟩,⟨ba_ eb⟩,⟨ba_ gp⟩,⟨ba_ kj⟩,⟨fz⟩⟩
   subst c86
   replace H:=ifp_ H
   obtain⟨cn3,A87,H⟩:=bind_ H
   have H':=A_ H
   clear H
   have nb7:=eh8.out
   have nb8:=bp3.out
   have nb9:=eh9.out
   have nc0:=bp4.out
   have nc1:=dk2.out
   have nc2:=bf6.out
   have kl0:=dk3.out
   have kl1:=bf7.out
   obtain⟨hd7,hd8,hd9,he0⟩:=blk2_ kj
   have fl0:=cn4.out
   have fl1:=cn5.out
   have ju5:=ak9.out
   have ju6:=al0.out
   have ju7:=xy.out
   have ju8:=bf3.out
   obtain⟨he1,he2,he3,he4,he5,he6⟩:=blk3_ fu
   go_wp2_with (first|(go_at_call 124;(with_reducible refine(Gu.calls k _ _ im _ _ ji _ _ ab _ _ aa cn3 _ ?side1 ?side2 ?side3 ?side4 ?side5 ?side6 ?side7 ?side8 A87.out).mono ?_);(case side1=>refine(Kd.R_reads' (e:=3) (base:=w.heap.size) (ok:=fun k_=>(True/\some k_≠(.slice m5 fh.length m6:Value).ownBlock)) (n:=im.length) (c:=jj) ?_).2.2;exact(ra_ bf4));(case side2=>exact lR_ bf4);(case side3=>refine(Kd.S_reads' (e:=22) (base:=w.heap.size) (ok:=fun k_=>((some k_≠(.slice jm im.length jj:Value).ownBlock/\some k_≠(.slice m5 fh.length m6:Value).ownBlock)/\some k_≠(.slice ph fx.length pi:Value).ownBlock)) (n:=ji.length) (c:=lq) ?_).2.2;exact(sa_ bf5));(case side4=>exact lS_ bf5);(case side5=>exact Kd.C_below bu.out (fz));(case side6=>exact cq.out);(case side7=>exact Kd.C_below bf.out (fz));(case side8=>exact cu.out);rintro e w97 ⟨rfl,hb⟩;replace lo:=A_ (Kd.R_below (ra_ lo) hb);replace lp:=A_ (Kd.S_below (sa_ lp) hb);replace iv:=A_ (Kd.R_below (ra_ iv) hb);replace bf4:=A_ (Kd.R_below (ra_ bf4) hb);replace bf5:=A_ (Kd.S_below (sa_ bf5) hb);replace fu:=A_ (G9 (g:=kf) (o:=.cells #[.slice ae ab.length ac, .slice ag aa.length af, .slice ci ai.length bv] 28 (0,0)) (ba_ fu) hb);replace gw:=A_ (G9 (g:=kg) (o:=.cells #[.int .i64 aq, .int .i64 ak, .int .i64 am, .int .i64 ap] 69 (0,0)) (ba_ gw) hb);replace eb:=A_ (G9 (g:=dc) (o:=.cells #[.slice none 0 0, .slice none 0 0, .slice none 0 0] 28 (0,0)) (ba_ eb) hb);replace gp:=A_ (G9 (g:=cz) (o:=.cells #[.slice m5 fh.length m6, .slice ph fx.length pi, .slice r0 eg.length r8] 28 (0,0)) (ba_ gp) hb);replace kj:=A_ (G9 (g:=gy) (o:=.cells #[.slice jm im.length jj, .slice l5 ji.length lq] 25 (0,0)) (ba_ kj) hb);replace HB:=hs_ (fz) hb))
   go_meet
   case rel=>exact⟨_,(cn3),(g2_),H',⟨g9_⟩,⟨by(with_reducible repeat(first|apply Kd.R_alloc|apply Kd.R_drewN|apply Kd.R_drew));exact Kd.R_mono lo.out (fun _ hk=>hk.2)⟩,⟨by(with_reducible repeat(first|apply Kd.S_alloc|apply Kd.S_drewN|apply Kd.S_drew));exact Kd.S_mono lp.out (fun _ hk=>⟨hk.1.1,⟨hk.1.2,hk.2⟩⟩)⟩,⟨by(with_reducible repeat(first|apply Kd.R_alloc|apply Kd.R_drewN|apply Kd.R_drew));exact Kd.R_mono iv.out (fun _ hk=>⟨hk.1.1.1.1,⟨hk.1.1.1.2,⟨hk.1.1.2,⟨hk.1.2,hk.2⟩⟩⟩⟩)⟩,⟨by(with_reducible repeat(first|apply Kd.R_alloc|apply Kd.R_drewN|apply Kd.R_drew));exact Kd.R_mono bf4.out (fun _ hk=>hk.2)⟩,⟨by(with_reducible repeat(first|apply Kd.S_alloc|apply Kd.S_drewN|apply Kd.S_drew));exact Kd.S_mono bf5.out (fun _ hk=>⟨hk.1.2,⟨hk.2,hk.1.1⟩⟩)⟩,⟨uf0_ fu⟩,⟨uf0_ gw⟩,⟨uf0_ eb⟩,⟨uf0_ gp⟩,⟨uf0_ kj⟩,⟨fz⟩⟩
  clear bz9
  obtain⟨kq,ei0,rfl,HA,HJ57,dk4,dk5,pj,r9,sa,fu,gw,eb,gp,kj,HB⟩:=hcut
  cases kq with
  | zero=>exact absurd HA.out (by simp[F4.j0])
  | succ kj57=>?_
  have H:=HA.out
  clear HA
  simp only[F4.j0] at H
  by_cases c98:ei0=true
  ·subst c98
   replace H:=ifp_ H
   simp only[Option.some.injEq,Prod.mk.injEq] at H
   obtain⟨rfl,rfl,rfl,rfl⟩:=H
   have kv0:=bf3.out
   have kv1:=xy.out
   have hy9:=bp0.out
   have hz1:=aa6.out
   have nc4:=rz.out
   have nc5:=ry.out
   have nc6:=bf7.out
   have nc7:=dk3.out
   obtain⟨nc8,nc9,nd0,nd1,nd2,nd3⟩:=blk3_ gp
   have fh3:=al0.out
   have fh4:=ak9.out
   have fh5:=ar9.out
   have fh6:=ar8.out
   have gy4:=bf6.out
   have gy5:=dk2.out
   obtain⟨gy6,gy7,jl4,gy8,gy9,jl5⟩:=blk3_ eb
   go_wp2
   refine bodyPost_ret (Jn rfl _ _ dc 28 #[.slice m5 fh.length m6, .slice ph fx.length pi, .slice r0 eg.length r8] (0,0) _ rfl (ba_ eb) Try.underlying28 rfl (g1_)) rfl ?_
   exact⟨_,_,_,g4_,ra_ dk4,sa_ dk5,ra_ pj,fz⟩
  replace c98:=Bool.eq_false_iff.mpr c98
  subst c98
  replace H:=ifn_ H
  obtain⟨hz2,H⟩:=pos_ H
  have hz3:=A_ hz2
  clear hz2
  obtain⟨su,hyq⟩:∃y_:List (S25),y_=(eg ++ [(⟨fh,fx⟩:S25)]):=⟨_,rfl⟩
  replace H:(if (su.length:Int) > 8 then(if 1<=(su.length:Int) then((Fq.f kj57 im ji (su.drop (1:Int).toNat)).bind fun bt540=>(some (bt540.1,bt540.2.1,bt540.2.2,true))) else(none)) else((Fq.f kj57 im ji su).bind fun bt549=>(some (bt549.1,bt549.2.1,bt549.2.2,true))))=some (r1,r2,r3,r4):=qh_
  have hz4:=A_ hyq
  clear hyq
  by_cases co1:(su.length:Int) > 8
  ·rw[if_pos co1] at H
   have kv2:=decide_eq_true co1
   have kv3:decide (8 < su.length)=true:=decide_eq_true (by omega)
   clear co1
   obtain⟨ft7,H⟩:=pos_ H
   have nd4:=eq_true ft7
   have nd5:=decide_eq_true ft7
   clear ft7
   obtain⟨cc5,hyq⟩:∃y_:List (S25),y_=(su.drop (1:Int).toNat):=⟨_,rfl⟩
   replace H:((Fq.f kj57 im ji cc5).bind fun bt540=>(some (bt540.1,bt540.2.1,bt540.2.2,true)))=some (r1,r2,r3,r4):=qh_
   have hz5:=A_ hyq
   clear hyq
   replace H:=Option.bind_eq_some_iff.mp H
   obtain⟨⟨cc6,co2,dk6⟩,hz6,H⟩:=H
   try dsimp only at H
   have kv4:=A_ hz6
   clear hz6
   simp only[Option.some.injEq,Prod.mk.injEq] at H
   obtain⟨rfl,rfl,rfl,rfl⟩:=H
   have nd6:=bf3.out
   have nd7:=xy.out
   have jm1:=bp0.out
   have jm2:=aa6.out
   have kv5:=rz.out
   have kv6:=ry.out
   have hf1:=bf7.out
   have hf2:=dk3.out
   obtain⟨nd8,nd9,ne0,ne1,ne2,ne3⟩:=blk3_ gp
   go_wp2_with (first|((with_reducible refine gate_builtin (b:=.append) (xs:=#[.tmp 51, .tmp 54]) rfl ?_);at_builtin;refine Kd.R_append k25 (w0:=w) w.heap.size rfl (.tmp 51) (.tmp 54) 26 25 (.agg #[(.slice none 0 0),(.slice none 0 0)]) 48 rfl Try.underlying26 info25 rfl (by decide) (by omega) (.slice r0 eg.length r8) eg (⟨fh,fx⟩:S25) [.slice m5 fh.length m6, .slice ph fx.length pi] (fun k_=>some k_≠(.slice jm im.length jj:Value).ownBlock/\some k_≠(.slice l5 ji.length lq:Value).ownBlock/\k_≠gy) (fun k_=>((fun k_=>some k_≠(.slice jm im.length jj:Value).ownBlock/\some k_≠(.slice l5 ji.length lq:Value).ownBlock/\k_≠gy)) k_/\some k_≠(.slice r0 eg.length r8:Value).ownBlock) rfl rfl ?aP (fun _ hk=>hk) ?aF ?aO ?aB ?aS ?aL ?_;(case aP=>exact k25_mkM _ _ _ (⟨fh,fx⟩:S25) (Kd.R_mono (Kd.R_types (Kd.R_apart' (Kd.R_apart' (dk4.out) (Kd.S_typed sa.out) (by decide)) (Kd.R_typed pj.out) (by decide)) kj.out (by decide)) (fun k_ hk=>⟨⟨hk.1.1.1,⟨hk.1.1.2,hk.2⟩⟩,hk.1.2⟩)) (Kd.R_mono (Kd.R_types (Kd.R_apart' ((Kd.S_R dk5.out)) (Kd.R_typed pj.out) (by decide)) kj.out (by decide)) (fun k_ hk=>⟨⟨hk.1.1.2.1,⟨hk.1.1.2.2,hk.2⟩⟩,hk.1.2⟩)));(case aB=>exact(fz));(case aF=>exact(fun k_ hk=>⟨Kd.fresh' (Kd.R_lt (uf2_ r9)) k_ hk,Kd.fresh' (Kd.S_lt (uf3_ sa)) k_ hk,Kd.freshB (g:=gy) (o:=.cells #[.slice jm im.length jj, .slice l5 ji.length lq] 25 (0,0)) (uf0_ kj) k_ hk⟩));(case aO=>exact(by(with_reducible repeat(first|apply Kd.R_alloc|apply Kd.R_drewN|apply Kd.R_drew));exact Kd.R_mono pj.out (fun _ hk=>⟨hk.2.2.1,⟨hk.2.2.2.1,hk.2.2.2.2⟩⟩)));(case aS=>exact(G0 (fz)));(case aL=>have:=hz3.out;omega);intro kv7 gz4 ho hb hg hat;rw[<- hz4.out] at ho;replace r9:=A_ (Kd.R_over' (uf2_ r9) (Kd.R_typed (uf2_ pj)) (by decide) hg);replace sa:=A_ (Kd.S_over' (uf3_ sa) (Kd.R_typed (uf2_ pj)) (by decide) hg);replace fu:=(bg_ fu hg (Kd.R_ne pj.out fu.out (by decide)));replace gw:=(bg_ gw hg (Kd.R_ne pj.out gw.out (by decide)));replace eb:=(bg_ eb hg (Kd.R_ne pj.out eb.out (by decide)));replace gp:=(bg_ gp hg (Kd.R_ne pj.out gp.out (by decide)));replace kj:=(bg_ kj hg (Kd.R_away pj.out (fun _ hk=>hk.2.2.2.2)));replace HB:=A_ (hb);have ax1:=A_ (ho);clear pj dk4 dk5;clear ho hb hg hat;obtain⟨dk7,ei1,kv8⟩:=Kd.R_slice ax1.out;subst kv8;have ft8:(1:Int)<=((su.length:Int):Int):=od_;obtain⟨i0119,hz7,_,hsz119,_⟩:=info_parts info25;have hcut119:=cut_from (P:=Try.prog) 26 25 .i64 Try.underlying26 hz7 2 hsz119 dk7 su.length ei1 1 (by omega) ft8;have dk8:=Kd.Q_drop (k:=(1:Int).toNat) (Kd.Q_of_R ax1.out) (by omega);obtain⟨ft9,hA119⟩:∃A1,A1=(if ei1=(1:Int).toNat then dk7 else(dk7:Option Addr).map (·.add ((1:Int).toNat * 2))):=⟨_,rfl⟩;obtain⟨fu0,fu1⟩:∃c1,c1=ei1 - (1:Int).toNat:=⟨_,rfl⟩;have hy119:cc5.length=su.length - (1:Int).toNat:=(by rw[hz5.out,List.length_drop]);rw[<- hz5.out] at dk8;rw[<- hy119, <- hA119, <- fu1] at hcut119;replace dk8:Kd.Q k25 25 gz4 w.heap.size (fun k_=>some k_≠(.slice jm im.length jj:Value).ownBlock/\some k_≠(.slice l5 ji.length lq:Value).ownBlock/\k_≠gy) (.slice ft9 cc5.length fu0) cc5:=(by rw[hA119,fu1,hy119];exact dk8);have HE119:Gy ((Value.slice ft9 cc5.length fu0).ownBlock=(.slice dk7 su.length ei1:Value).ownBlock):=⟨by rw[hA119];split <;> (cases(dk7:Option Addr) <;> rfl)⟩;clear hy119 hz7 hsz119 ax1 hA119 fu1;have dk9:=A_ dk8;clear dk8;replace ft8:=eq_true ft8;have ne4:=eh8.out;have ne5:=bp3.out;have kn7:=eh9.out;have kn8:=bp4.out;have ne6:=dk2.out;have ne7:=bf6.out;obtain⟨ne8,ne9,nf0,nf1⟩:=blk2_ kj)|((with_reducible refine gc_ 104 ?_);refine gl_ 64 Try.func104 #[.agg #[.slice jm im.length jj, .slice l5 ji.length lq, .slice ft9 cc5.length fu0]] ?_;(refine(Fq.calls kj57 _ _ im _ _ ji _ _ cc5 cc6 co2 dk6 _ (cR_ r9) (lR_ r9) (cS_ sa) (lS_ sa) (cQ_ dk9) (lQ_ dk9) kv4.out).mono ?_);rintro e kn9 ⟨nf2,nf3,nf4,rfl,aj,ar,ef,hb⟩;refine⟨_,rfl,?_⟩;have hz8:=A_ (Kd.R_lower (Kd.R_new' aj (Kd.R_lt (uf2_ r9))) (G0 (fz)));have hz9:=A_ (Kd.S_lower (Kd.S_new' (Kd.S_new' ar (Kd.R_lt (uf2_ r9))) (Kd.S_lt (uf3_ sa))) (G0 (fz)));have ia0:=A_ (Kd.R_lower (Kd.R_newB (Kd.R_new' (Kd.R_new' (Kd.R_new' ef (Kd.R_lt (uf2_ r9))) (Kd.S_lt (uf3_ sa))) (Kd.Q_lt (uf6_ dk9))) (g:=gy) (o:=.cells #[.slice jm im.length jj, .slice l5 ji.length lq] 25 (0,0)) (uf0_ kj)) (G0 (fz)));replace r9:=A_ (Kd.R_elder' (uf2_ r9) (Kd.R_base aj) hb);replace sa:=A_ (Kd.S_mono (Kd.S_told (Kd.S_told (Kd.S_old (uf3_ sa) hb) (Kd.R_base aj)) (Kd.S_base ar)) (fun _ h_=>h_.1));replace dk9:=A_ (Kd.Q_mono (Kd.Q_told (Kd.Q_told (Kd.Q_told (Kd.Q_old (uf6_ dk9) hb) (Kd.R_base aj)) (Kd.S_base ar)) (Kd.R_base ef)) (fun _ h_=>h_.1));replace fu:=bb_ fu hb;replace gw:=bb_ gw hb;replace eb:=bb_ eb hb;replace gp:=bb_ gp hb;replace kj:=bb_ kj hb;replace HB:=hs_ (fz) hb;obtain⟨af7,af8,fs4⟩:=Kd.R_slice hz8.out;subst fs4;have fi1:=al0.out;have fi2:=ak9.out;have ko5:=ar9.out;have ko6:=ar8.out;obtain⟨nf5,nf6,nf7,nf8,nf9,ng0⟩:=blk3_ eb;obtain⟨dl0,dl1,kv9⟩:=Kd.S_slice hz9.out;subst kv9;obtain⟨aw9,ax0,fs5⟩:=Kd.R_slice ia0.out;subst fs5))
   refine bodyPost_ret (Jn rfl _ _ dc 28 #[.slice af7 cc6.length af8, .slice dl0 co2.length dl1, .slice aw9 dk6.length ax0] (0,0) _ rfl (ba_ eb) Try.underlying28 rfl (g1_)) rfl ?_
   exact⟨_,_,_,g4_,ra_ hz8,sa_ hz9,ra_ ia0,fz⟩
  rw[if_neg co1] at H
  have kv2:=decide_eq_false co1
  have kv3:decide (8 < su.length)=false:=decide_eq_false (by omega)
  clear co1
  replace H:=Option.bind_eq_some_iff.mp H
  obtain⟨⟨cc7,co3,dl2⟩,ia1,H⟩:=H
  try dsimp only at H
  have kw0:=A_ ia1
  clear ia1
  simp only[Option.some.injEq,Prod.mk.injEq] at H
  obtain⟨rfl,rfl,rfl,rfl⟩:=H
  have ko7:=bf3.out
  have ko8:=xy.out
  have fi3:=bp0.out
  have fi4:=aa6.out
  have kw1:=rz.out
  have kw2:=ry.out
  have ko9:=bf7.out
  have kp0:=dk3.out
  obtain⟨kp1,kp2,ng1,kp3,kp4,ng2⟩:=blk3_ gp
  go_wp2_with (first|((with_reducible refine gate_builtin (b:=.append) (xs:=#[.tmp 51, .tmp 54]) rfl ?_);at_builtin;refine Kd.R_append k25 (w0:=w) w.heap.size rfl (.tmp 51) (.tmp 54) 26 25 (.agg #[(.slice none 0 0),(.slice none 0 0)]) 48 rfl Try.underlying26 info25 rfl (by decide) (by omega) (.slice r0 eg.length r8) eg (⟨fh,fx⟩:S25) [.slice m5 fh.length m6, .slice ph fx.length pi] (fun k_=>some k_≠(.slice jm im.length jj:Value).ownBlock/\some k_≠(.slice l5 ji.length lq:Value).ownBlock/\k_≠gy) (fun k_=>((fun k_=>some k_≠(.slice jm im.length jj:Value).ownBlock/\some k_≠(.slice l5 ji.length lq:Value).ownBlock/\k_≠gy)) k_/\some k_≠(.slice r0 eg.length r8:Value).ownBlock) rfl rfl ?aP (fun _ hk=>hk) ?aF ?aO ?aB ?aS ?aL ?_;(case aP=>exact k25_mkM _ _ _ (⟨fh,fx⟩:S25) (Kd.R_mono (Kd.R_types (Kd.R_apart' (Kd.R_apart' (dk4.out) (Kd.S_typed sa.out) (by decide)) (Kd.R_typed pj.out) (by decide)) kj.out (by decide)) (fun k_ hk=>⟨⟨hk.1.1.1,⟨hk.1.1.2,hk.2⟩⟩,hk.1.2⟩)) (Kd.R_mono (Kd.R_types (Kd.R_apart' ((Kd.S_R dk5.out)) (Kd.R_typed pj.out) (by decide)) kj.out (by decide)) (fun k_ hk=>⟨⟨hk.1.1.2.1,⟨hk.1.1.2.2,hk.2⟩⟩,hk.1.2⟩)));(case aB=>exact(fz));(case aF=>exact(fun k_ hk=>⟨Kd.fresh' (Kd.R_lt (uf2_ r9)) k_ hk,Kd.fresh' (Kd.S_lt (uf3_ sa)) k_ hk,Kd.freshB (g:=gy) (o:=.cells #[.slice jm im.length jj, .slice l5 ji.length lq] 25 (0,0)) (uf0_ kj) k_ hk⟩));(case aO=>exact(by(with_reducible repeat(first|apply Kd.R_alloc|apply Kd.R_drewN|apply Kd.R_drew));exact Kd.R_mono pj.out (fun _ hk=>⟨hk.2.2.1,⟨hk.2.2.2.1,hk.2.2.2.2⟩⟩)));(case aS=>exact(G0 (fz)));(case aL=>have:=hz3.out;omega);intro kv7 jp4 ho hb hg hat;rw[<- hz4.out] at ho;replace r9:=A_ (Kd.R_over' (uf2_ r9) (Kd.R_typed (uf2_ pj)) (by decide) hg);replace sa:=A_ (Kd.S_over' (uf3_ sa) (Kd.R_typed (uf2_ pj)) (by decide) hg);replace fu:=(bg_ fu hg (Kd.R_ne pj.out fu.out (by decide)));replace gw:=(bg_ gw hg (Kd.R_ne pj.out gw.out (by decide)));replace eb:=(bg_ eb hg (Kd.R_ne pj.out eb.out (by decide)));replace gp:=(bg_ gp hg (Kd.R_ne pj.out gp.out (by decide)));replace kj:=(bg_ kj hg (Kd.R_away pj.out (fun _ hk=>hk.2.2.2.2)));replace HB:=A_ (hb);have ax1:=A_ (ho);clear pj dk4 dk5;clear ho hb hg hat;obtain⟨kw3,kw4,kw5⟩:=Kd.R_slice ax1.out;subst kw5;have kw6:=eh8.out;have kw7:=bp3.out;have kw8:=eh9.out;have kw9:=bp4.out;have gz6:=dk2.out;have gz7:=bf6.out;obtain⟨ng3,ng4,ng5,ng6⟩:=blk2_ kj)|((with_reducible refine gc_ 104 ?_);refine gl_ 64 Try.func104 #[.agg #[.slice jm im.length jj, .slice l5 ji.length lq, .slice kw3 su.length kw4]] ?_;(refine(Fq.calls kj57 _ _ im _ _ ji _ _ su cc7 co3 dl2 _ (cR_ r9) (lR_ r9) (cS_ sa) (lS_ sa) (cR_ ax1) (lR_ ax1) kw0.out).mono ?_);rintro e ng7 ⟨ng8,ng9,nh0,rfl,aj,ar,ef,hb⟩;refine⟨_,rfl,?_⟩;have ia2:=A_ (Kd.R_lower (Kd.R_new' aj (Kd.R_lt (uf2_ r9))) (G0 (fz)));have ia3:=A_ (Kd.S_lower (Kd.S_new' (Kd.S_new' ar (Kd.R_lt (uf2_ r9))) (Kd.S_lt (uf3_ sa))) (G0 (fz)));have ia4:=A_ (Kd.R_lower (Kd.R_newB (Kd.R_new' (Kd.R_new' (Kd.R_new' ef (Kd.R_lt (uf2_ r9))) (Kd.S_lt (uf3_ sa))) (Kd.R_lt (uf2_ ax1))) (g:=gy) (o:=.cells #[.slice jm im.length jj, .slice l5 ji.length lq] 25 (0,0)) (uf0_ kj)) (G0 (fz)));replace r9:=A_ (Kd.R_elder' (uf2_ r9) (Kd.R_base aj) hb);replace sa:=A_ (Kd.S_mono (Kd.S_told (Kd.S_told (Kd.S_old (uf3_ sa) hb) (Kd.R_base aj)) (Kd.S_base ar)) (fun _ h_=>h_.1));replace ax1:=A_ (Kd.R_mono (Kd.R_told (Kd.R_told (Kd.R_told (Kd.R_old (uf2_ ax1) hb) (Kd.R_base aj)) (Kd.S_base ar)) (Kd.R_base ef)) (fun _ h_=>h_.1));replace fu:=bb_ fu hb;replace gw:=bb_ gw hb;replace eb:=bb_ eb hb;replace gp:=bb_ gp hb;replace kj:=bb_ kj hb;replace HB:=hs_ (fz) hb;obtain⟨co4,co5,kx0⟩:=Kd.R_slice ia2.out;subst kx0;have gz8:=al0.out;have gz9:=ak9.out;have ha0:=ar9.out;have ha1:=ar8.out;obtain⟨jp7,jp8,nh1,jp9,jq0,nh2⟩:=blk3_ eb;obtain⟨dl3,dl4,kx1⟩:=Kd.S_slice ia3.out;subst kx1;obtain⟨ei2,ei3,kx2⟩:=Kd.R_slice ia4.out;subst kx2))
  refine bodyPost_ret (Jn rfl _ _ dc 28 #[.slice co4 cc7.length co5, .slice dl3 co3.length dl4, .slice ei2 dl2.length ei3] (0,0) _ rfl (ba_ eb) Try.underlying28 rfl (g1_)) rfl ?_
  exact⟨_,_,_,g4_,ra_ ia2,sa_ ia3,ra_ ia4,fz⟩
 rw[if_pos c4] at H
 have mv:(aq == 4 && (ak == 0 && (am == 0 && (ap == 0))))=true:=c4
 (try(have hv1:decide (aq=4 && (ak == 0 && (am == 0 && (ap == 0))))=true:=by simpa using c4))
 (try(have hv2:(aq == 4 && (ak == 0 && (am == 0 && (ap == 0))))=true:=by simpa using c4))
 clear c4
 by_cases c5:(wrap64 ((eg.length:Int) - 1)) < 0
 ·rw[if_pos c5] at H
  have ij:=decide_eq_true c5
  clear c5
  simp only[Option.some.injEq,Prod.mk.injEq] at H
  obtain⟨rfl,rfl,rfl,rfl⟩:=H
  go_enter Try.func102,Try.ntmps102
  go_wp2_with (first|((with_reducible refine gd_ 2 ?_);refine bx_ (N:=2) #[.slice ae ab.length ac, .slice ag aa.length af, .slice ci ai.length bv] 28 ?_;intro kf hg w6 hbox hb;have fu:=A_ (hbox);have hv3:=A_ ((g8_:w.heap.size<=kf));have ft2:=hv3;replace HB:=hs_ (fz) hb;clear hb hbox hg)|((with_reducible refine gd_ 3 ?_);refine bx_ (N:=3) #[.int .i64 aq, .int .i64 ak, .int .i64 am, .int .i64 ap] 69 ?_;intro kg hg w7 hbox hb;have gw:=A_ (hbox);have hv4:=A_ ((g8_:w.heap.size<=kg));have ft3:=hv4;replace HB:=hs_ (fz) hb;have cn4:=A_ ((g27_:kf≠kg));have cn5:=A_ ((g28_:kg≠kf));replace fu:=bb_ fu hb;clear hb hbox hg)|((with_reducible refine gd_ 4 ?_);refine bx_ (N:=4) #[.slice none 0 0, .slice none 0 0, .slice none 0 0] 28 ?_;intro dc hg w8 hbox hb;have eb:=A_ (hbox);have hv5:=A_ ((g8_:w.heap.size<=dc));have ft4:=hv5;replace HB:=hs_ (fz) hb;have ak9:=A_ ((g27_:kf≠dc));have al0:=A_ ((g28_:dc≠kf));replace fu:=bb_ fu hb;have ar8:=A_ ((g48_:kg≠dc));have ar9:=A_ ((g49_:dc≠kg));replace gw:=bb_ gw hb;clear hb hbox hg;have fd8:=cn4.out;have fd9:=cn5.out;have bn8:=ak9.out;have bn9:=al0.out;obtain⟨yu,yv,es4,yw,yx,es5⟩:=blk3_ fu)|((with_reducible refine gc_ 104 ?_);refine gl_ 12 Try.func104 #[.agg #[.slice ae ab.length ac, .slice ag aa.length af, .slice ci ai.length bv]] ?_;(refine(Fq.calls k _ _ ab _ _ aa _ _ ai fh fx eg _ (uf1_ bu) cq.out (uf1_ bf) cu.out (uf1_ l9) rf.out A3.out).mono ?_);rintro e ws ⟨hv6,hv7,hv8,rfl,aj,ar,ef,hb⟩;refine⟨_,rfl,?_⟩;have lo:=A_ (Kd.R_lower aj (G0 (fz)));have lp:=A_ (Kd.S_lower ar (G0 (fz)));have iv:=A_ (Kd.R_lower ef (G0 (fz)));replace fu:=bb_ fu hb;replace gw:=bb_ gw hb;replace eb:=bb_ eb hb;replace HB:=hs_ (fz) hb)|((with_reducible refine gd_ 6 ?_);refine bx_ (N:=6) #[.slice none 0 0, .slice none 0 0, .slice none 0 0] 28 ?_;intro cz hg w13 hbox hb;replace lo:=rb_ lo hb;replace lp:=sb_ lp hb;replace iv:=rb_ iv hb;have gp:=A_ (hbox);have hv9:=A_ ((g8_:w.heap.size<=cz));have ft5:=hv9;replace HB:=hs_ (fz) hb;have xy:=A_ ((g27_:kf≠cz));have bf3:=A_ ((g28_:cz≠kf));replace fu:=bb_ fu hb;have aa6:=A_ ((g48_:kg≠cz));have bp0:=A_ ((g49_:cz≠kg));replace gw:=bb_ gw hb;have ry:=A_ ((g107_:dc≠cz));have rz:=A_ ((g108_:cz≠dc));replace eb:=bb_ eb hb;clear hb hbox hg;obtain⟨es,dr,ag7⟩:=Kd.R_slice lo.out;subst ag7;have dt6:=bf3.out;have dt7:=xy.out;have dz8:=bp0.out;have dz9:=aa6.out;have hn6:=rz.out;have hn7:=ry.out;obtain⟨az4,az5,dj0,az6,az7,dj1⟩:=blk3_ gp;obtain⟨g3,gf,sn⟩:=Kd.S_slice lp.out;subst sn;obtain⟨jc,gv,ux⟩:=Kd.R_slice iv.out;subst ux;have gt1:=ar8.out;have gt2:=ar9.out;obtain⟨an3,an4,gg5,kq2,an5,an6,gg6,kq3⟩:=blk4_ gw;obtain⟨fn4,fn5,kq4,fn6,fn7,kq5⟩:=blk3_ eb))
  refine bodyPost_ret (Jn rfl _ _ dc 28 #[.slice es fh.length dr, .slice g3 fx.length gf, .slice jc eg.length gv] (0,0) _ rfl (ba_ eb) Try.underlying28 rfl (g1_)) rfl ?_
  exact⟨_,_,_,g4_,ra_ lo,sa_ lp,ra_ iv,fz⟩
 rw[if_neg c5] at H
 have ij:=decide_eq_false c5
 clear c5
 obtain⟨ji24,hji24⟩:∃j_:Int,(wrap64 ((eg.length:Int) - 1))=j_:=⟨_,rfl⟩
 first|rw[hji24] at H|simp only[hji24] at H
 (try rw[hji24] at ij)
 (try rw[hji24] at A3)
 have hji24w:(IntKind.i64.wrap ((eg.length:Int) - 1))=ji24:=(i64_w _).trans hji24
 obtain⟨bh9,H⟩:=pd_ H
 obtain⟨ch1,H⟩:=pd_ H
 have bt2:=eq_true (od_:0<=(ji24))
 obtain⟨lr,H⟩:=pos_ H
 have bt3:=eq_true lr
 have kq6:=decide_eq_true lr
 clear lr
 obtain⟨dj7,hyq⟩:∃y_:List (S25),y_=(eg.take ((ji24):Int).toNat):=⟨_,rfl⟩
 replace H:((Fq.f k ((Jd eg (ji24)).f0) ((Jd eg (ji24)).f1) dj7).bind fun bt516=>(some (bt516.1,bt516.2.1,bt516.2.2,true)))=some (r1,r2,r3,r4):=qh_
 have hw2:=A_ hyq
 clear hyq
 replace H:=Option.bind_eq_some_iff.mp H
 obtain⟨⟨cc2,cn6,dj8⟩,hw3,H⟩:=H
 try dsimp only at H
 have A29:=A_ hw3
 clear hw3
 simp only[Option.some.injEq,Prod.mk.injEq] at H
 obtain⟨rfl,rfl,rfl,rfl⟩:=H
 go_enter Try.func102,Try.ntmps102
 try go_wp2_with (first|((with_reducible refine gd_ 2 ?_);refine bx_ (N:=2) #[.slice ae ab.length ac, .slice ag aa.length af, .slice ci ai.length bv] 28 ?_;intro kf hg w30 hbox hb;have fu:=A_ (hbox);have hv3:=A_ ((g8_:w.heap.size<=kf));have ft2:=hv3;replace HB:=hs_ (fz) hb;clear hb hbox hg)|((with_reducible refine gd_ 3 ?_);refine bx_ (N:=3) #[.int .i64 aq, .int .i64 ak, .int .i64 am, .int .i64 ap] 69 ?_;intro kg hg w31 hbox hb;have gw:=A_ (hbox);have hv4:=A_ ((g8_:w.heap.size<=kg));have ft3:=hv4;replace HB:=hs_ (fz) hb;have cn4:=A_ ((g27_:kf≠kg));have cn5:=A_ ((g28_:kg≠kf));replace fu:=bb_ fu hb;clear hb hbox hg)|((with_reducible refine gd_ 4 ?_);refine bx_ (N:=4) #[.slice none 0 0, .slice none 0 0, .slice none 0 0] 28 ?_;intro dc hg w32 hbox hb;have eb:=A_ (hbox);have hv5:=A_ ((g8_:w.heap.size<=dc));have ft4:=hv5;replace HB:=hs_ (fz) hb;have ak9:=A_ ((g27_:kf≠dc));have al0:=A_ ((g28_:dc≠kf));replace fu:=bb_ fu hb;have ar8:=A_ ((g48_:kg≠dc));have ar9:=A_ ((g49_:dc≠kg));replace gw:=bb_ gw hb;clear hb hbox hg;have bk0:=cn4.out;have bk1:=cn5.out;have dg5:=ak9.out;have dg6:=al0.out;obtain⟨ba8,ba9,bn0,bb0,bb1,bn1⟩:=blk3_ fu)|((with_reducible refine gc_ 104 ?_);refine gl_ 12 Try.func104 #[.agg #[.slice ae ab.length ac, .slice ag aa.length af, .slice ci ai.length bv]] ?_;(refine(Fq.calls k _ _ ab _ _ aa _ _ ai fh fx eg _ (uf1_ bu) cq.out (uf1_ bf) cu.out (uf1_ l9) rf.out A3.out).mono ?_);rintro e jq ⟨hv6,hv7,hv8,rfl,aj,ar,ef,hb⟩;refine⟨_,rfl,?_⟩;have lo:=A_ (Kd.R_lower aj (G0 (fz)));have lp:=A_ (Kd.S_lower ar (G0 (fz)));have iv:=A_ (Kd.R_lower ef (G0 (fz)));replace fu:=bb_ fu hb;replace gw:=bb_ gw hb;replace eb:=bb_ eb hb;replace HB:=hs_ (fz) hb)|((with_reducible refine gd_ 6 ?_);refine bx_ (N:=6) #[.slice none 0 0, .slice none 0 0, .slice none 0 0] 28 ?_;intro cz hg rj hbox hb;replace lo:=rb_ lo hb;replace lp:=sb_ lp hb;replace iv:=rb_ iv hb;have gp:=A_ (hbox);have hv9:=A_ ((g8_:w.heap.size<=cz));have ft5:=hv9;replace HB:=hs_ (fz) hb;have xy:=A_ ((g27_:kf≠cz));have bf3:=A_ ((g28_:cz≠kf));replace fu:=bb_ fu hb;have aa6:=A_ ((g48_:kg≠cz));have bp0:=A_ ((g49_:cz≠kg));replace gw:=bb_ gw hb;have ry:=A_ ((g107_:dc≠cz));have rz:=A_ ((g108_:cz≠dc));replace eb:=bb_ eb hb;clear hb hbox hg;obtain⟨lv,j8,au1⟩:=Kd.R_slice lo.out;subst au1;have kq7:=bf3.out;have kq8:=xy.out;have mz8:=bp0.out;have mz9:=aa6.out;have kq9:=rz.out;have kr0:=ry.out;obtain⟨kr1,kr2,kr3,kr4,kr5,kr6⟩:=blk3_ gp;obtain⟨qt,p0,by6⟩:=Kd.S_slice lp.out;subst by6;obtain⟨aa7,sv,kr7⟩:=Kd.R_slice iv.out;subst kr7;have da7:=ar8.out;have da8:=ar9.out;obtain⟨fc8,fc9,kr8,kr9,fd0,fd1,ks0,ks1⟩:=blk4_ gw))
 generalize hw_:(((rj.setCell ⟨cz,0,none⟩ (.slice lv fh.length j8)).setCell ⟨cz,1,none⟩ (.slice qt fx.length p0)).setCell ⟨cz,2,none⟩ (.slice aa7 eg.length sv))=w47
 have n0_:Gy (Kd.R (Kd.int .i64) 3 w47 w.heap.size (fun _=>True) (.slice lv fh.length j8) fh):=A_ (by rw[<- hw_];exact ra_ lo)
 have n1_:Gy (Kd.S (Kd.slice 3 (Kd.int .i64)) 22 w47 w.heap.size (fun k_=>some k_≠(.slice lv fh.length j8:Value).ownBlock) (.slice qt fx.length p0) fx):=A_ (by rw[<- hw_];exact sa_ lp)
 have n2_:Gy (Kd.R k25 25 w47 w.heap.size (fun k_=>some k_≠(.slice lv fh.length j8:Value).ownBlock/\some k_≠(.slice qt fx.length p0:Value).ownBlock) (.slice aa7 eg.length sv) eg):=A_ (by rw[<- hw_];exact ra_ iv)
 have n3_:Gy (hc_ w47 kf #[.slice ae ab.length ac, .slice ag aa.length af, .slice ci ai.length bv] 28):=A_ (by rw[<- hw_];exact ba_ fu)
 have n4_:Gy (hc_ w47 kg #[.int .i64 aq, .int .i64 ak, .int .i64 am, .int .i64 ap] 69):=A_ (by rw[<- hw_];exact ba_ gw)
 have n5_:Gy (hc_ w47 dc #[.slice none 0 0, .slice none 0 0, .slice none 0 0] 28):=A_ (by rw[<- hw_];exact ba_ eb)
 have n6_:Gy (hc_ w47 cz #[.slice lv fh.length j8, .slice qt fx.length p0, .slice aa7 eg.length sv] 28):=A_ (by rw[<- hw_];exact ba_ gp)
 have n7_:Gy (Below w.heap.size w w47):=A_ (by rw[<- hw_];exact fz)
 clear hw_
 have lo:=n0_
 have lp:=n1_
 have iv:=n2_
 have fu:=n3_
 have gw:=n4_
 have eb:=n5_
 have gp:=n6_
 have HB:=n7_
 clear n0_ n1_ n2_ n3_ n4_ n5_ n6_ n7_
 replace lo:=rd_ lo
 replace lp:=sd_ lp
 replace iv:=rd_ iv
 replace fu:=bd_ fu
 replace gw:=bd_ gw
 replace eb:=bd_ eb
 replace gp:=bd_ gp
 replace HB:=A_ (G2 HB.out)
 have dj9:0<=((ji24):Int):=od_
 have dk0:(ji24) < (eg.length:Int):=od_
 obtain⟨cc3,hw4,hw5,hw6,hw7,ks2,eh5,eh6,hw8,hw9,hx7,hx8⟩:=at_T25 (Kd.R_reads' iv.out).2.2 (ji24) dj9 dk0
 cases ks2
 obtain⟨ce511,hce511,hMe511,hcc511⟩:=Kd.R_get iv.out z25 (ji24) dj9 (by first|exact dk0|exact od_|(have e_:=(Kd.R_reads' iv.out).1;omega))
 obtain⟨ve511_0,ve511_1,rfl,ge511_0,ge511_1⟩:=k25_openM hMe511
 have hv511_0:=hcc511 0 _ rfl
 rw[Nat.add_zero] at hv511_0
 replace hv511_0:=Option.some.inj (hv511_0.symm.trans eh5)
 rw[hv511_0] at ge511_0
 have cn7:=A_ (show Kd.R (Kd.int .i64) 3 _ _ _ _ ((Jd eg (ji24)).f0) from ge511_0)
 clear hv511_0 ge511_0
 have hv511_1:=hcc511 1 _ rfl
 rw[add_field _ _ 1 (by omega)] at hv511_1
 replace hv511_1:=Option.some.inj (hv511_1.symm.trans eh6)
 rw[hv511_1] at ge511_1
 have dk1:=A_ (show Kd.R (Kd.slice 3 (Kd.int .i64)) 22 _ _ _ _ ((Jd eg (ji24)).f1) from ge511_1)
 clear hv511_1 ge511_1
 clear hcc511 hce511
 have cn8:=A_ hw9
 have ks3:=A_ hw8
 clear hw9 hw8
 have cn9:=A_ hx8
 have ks4:=A_ hx7
 clear hx8 hx7
 replace dj9:=eq_true dj9
 replace dk0:=eq_true dk0
 have q49:((ji24):Int)<=((eg.length:Int):Int):=od_
 obtain⟨i049,hx9,_,hsz49,_⟩:=info_parts info25
 have hroom49:eg.length<=sv:=(Kd.R_reads' iv.out).2.1
 have hC49:Kd.C k25 _ (some cc3) eg.length eg:=(Kd.R_reads' iv.out).2.2
 have hcut49:=cut_to (P:=Try.prog) 26 25 .i64 Try.underlying26 hx9 (some cc3) eg.length sv (ji24) (od_) q49 hroom49
 have ft6:=Kd.C_take (m:=((ji24):Int).toNat) hC49 (by omega)
 have hy49:dj7.length=((ji24):Int).toNat:=(by rw[hw2.out,List.length_take];omega)
 rw[<- hw2.out] at ft6
 rw[<- hy49] at hcut49
 have co0:=A_ ft6
 have ks5:=A_ (show dj7.length<=sv from by omega)
 clear ft6 hC49 hroom49 hx9 hsz49
 have KY49:=A_ hy49
 clear hy49
 have KL49:=A_ (show((ji24):Int).toNat<=eg.length from by omega)
 replace q49:=eq_true q49
 refine start_ (n:=13) (S:=fun w'=>w'.cell? ⟨cz,0,none⟩=some (.slice lv fh.length j8)/\w'.cell? ⟨cz,1,none⟩=some (.slice qt fx.length p0)/\w'.cell? ⟨cz,2,none⟩=some (.slice (some cc3) eg.length sv)/\w'.cell? (cc3.add (((ji24)).toNat * 2))=some (.slice hw4 ((Jd eg (ji24)).f0).length hw5)/\w'.cell? ⟨(cc3.add (((ji24)).toNat * 2)).block,(cc3.add (((ji24)).toNat * 2)).off + 1,none⟩=some (.slice hw6 ((Jd eg (ji24)).f1).length hw7)) (ds:=[]) (tl_ 13 0) (g1_) rfl (g1_) ⟨(Gz gp.out 0).trans rfl,(Gz gp.out 1).trans rfl,(Gz gp.out 2).trans rfl,eh5,eh6⟩ (fun hHeld=>?_);refine Jm F4.tab6 F4.bits6 (fun HT_ HW_=>?_)
 generalize w47.drew=w48 at lo lp iv fu gw eb gp HB cn7 dk1 cn8 cn9 co0 eh5 eh6 hHeld |-
 refine pw_ 0 23 (tl_ 13 1) ?_
 refine pw_ 2 25 (tl_ 13 5) ?_
 refine pw_ 5 28 (tl_ 13 37) ?_
 refine pw_ 7 30 (tl_ 13 165) ?_
 refine tk5_ 1 24 (tl_ 13 167) hHeld ?_
 refine pw_ 3 26 (tl_ 13 175) ?_
 refine tk5_ 4 27 (tl_ 13 191) hHeld ?_
 refine tk5_ 6 29 (tl_ 13 255) hHeld ?_
 refine pw_ 8 31 (tl_ 13 511) ?_
 refine pw_ 9 32 (tl_ 13 1023) ?_
 refine one_ (i:=10) (N:=some 33) (tl_ 13 2047) rfl rfl (Jo HT_.out (g1_)) (by decide) (fun K hK=>?_)
 refine goes_ Try.func104 (g1_) rfl #[.agg #[.slice hw4 ((Jd eg (ji24)).f0).length hw5, .slice hw6 ((Jd eg (ji24)).f1).length hw7, .slice (some cc3) dj7.length sv]] (by rfl) rfl rfl (by(try simp only[List.map_toArray,List.map_cons,List.map_nil]);first|done|(simp only[hji24];rfl)|rfl|(simp only[List.length_drop,List.length_take];rfl)) ?_
 with_reducible refine(Fq.calls k _ _ ((Jd eg (ji24)).f0) _ _ ((Jd eg (ji24)).f1) _ _ dj7 cc2 cn6 dj8 _ ?side1 ?side2 ?side3 ?side4 ?side5 ?side6 A29.out).mono ?_
 (case side1=>repeat(first|exact(by repeat(first|(with_reducible exact cn8.out)|(with_reducible refine Kd.C_alloc ?_ _)|(with_reducible refine Kd.C_drewN ?_ _)|(with_reducible refine Kd.C_drew ?_)|exact cn8.out))|(with_reducible refine Kd.C_alloc ?_ _)|(with_reducible refine Kd.C_drewN ?_ _)|(with_reducible refine Kd.C_drew ?_)))
 (case side2=>exact ks3.out)
 (case side3=>repeat(first|exact(by repeat(first|(with_reducible exact cn9.out)|(with_reducible refine Kd.C_alloc ?_ _)|(with_reducible refine Kd.C_drewN ?_ _)|(with_reducible refine Kd.C_drew ?_)|exact cn9.out))|(with_reducible refine Kd.C_alloc ?_ _)|(with_reducible refine Kd.C_drewN ?_ _)|(with_reducible refine Kd.C_drew ?_)))
 (case side4=>exact ks4.out)
 (case side5=>repeat(first|exact(by repeat(first|(with_reducible exact co0.out)|(with_reducible refine Kd.C_alloc ?_ _)|(with_reducible refine Kd.C_drewN ?_ _)|(with_reducible refine Kd.C_drew ?_)|exact co0.out))|(with_reducible refine Kd.C_alloc ?_ _)|(with_reducible refine Kd.C_drewN ?_ _)|(with_reducible refine Kd.C_drew ?_)))
 (case side6=>exact ks5.out)
 rintro e w50 ⟨na0,na1,na2,rfl,aj,ar,ef,hb⟩
 have HS3_:=(hb.cell (World.block_lt_of_cell? _ _ (hHeld.2.2.2.1))).trans (hHeld.2.2.2.1)
 have HS4_:=(hb.cell (World.block_lt_of_cell? _ _ (hHeld.2.2.2.2))).trans (hHeld.2.2.2.2)
 refine⟨_,rfl,?_⟩
 have hy0:=A_ (Kd.R_lower (Kd.R_new' (Kd.R_new' aj (Kd.R_lt (uf2_ lo))) (Kd.R_lt (uf2_ cn7))) (G0 (fz)))
 have hy1:=A_ (Kd.S_lower (Kd.S_new' (Kd.S_new' (Kd.S_new' (Kd.S_new' ar (Kd.R_lt (uf2_ lo))) (Kd.S_lt (uf3_ lp))) (Kd.R_lt (uf2_ cn7))) (Kd.R_lt (uf2_ dk1))) (G0 (fz)))
 have hy2:=A_ (Kd.R_lower (Kd.R_new' (Kd.R_new' (Kd.R_new' (Kd.R_new' (Kd.R_new' ef (Kd.R_lt (uf2_ lo))) (Kd.S_lt (uf3_ lp))) (Kd.R_lt (uf2_ iv))) (Kd.R_lt (uf2_ cn7))) (Kd.R_lt (uf2_ dk1))) (G0 (fz)))
 replace lo:=A_ (Kd.R_elder' (uf2_ lo) (Kd.R_base aj) hb)
 replace lp:=A_ (Kd.S_mono (Kd.S_told (Kd.S_told (Kd.S_old (uf3_ lp) hb) (Kd.R_base aj)) (Kd.S_base ar)) (fun _ h_=>h_.1))
 replace iv:=A_ (Kd.R_mono (Kd.R_told (Kd.R_told (Kd.R_told (Kd.R_old (uf2_ iv) hb) (Kd.R_base aj)) (Kd.S_base ar)) (Kd.R_base ef)) (fun _ h_=>h_.1))
 replace cn7:=A_ (Kd.R_elder' (uf2_ cn7) (Kd.R_base aj) hb)
 replace dk1:=A_ (Kd.R_mono (Kd.R_told (Kd.R_told (Kd.R_old (uf2_ dk1) hb) (Kd.R_base aj)) (Kd.S_base ar)) (fun _ h_=>h_.1))
 replace fu:=bb_ fu hb
 replace gw:=bb_ gw hb
 replace eb:=bb_ eb hb
 replace gp:=bb_ gp hb
 replace cn8:=A_ (Kd.C_below (by repeat(first|(with_reducible exact cn8.out)|(with_reducible refine Kd.C_alloc ?_ _)|(with_reducible refine Kd.C_drewN ?_ _)|(with_reducible refine Kd.C_drew ?_)|exact cn8.out)) hb)
 replace cn9:=A_ (Kd.C_below (by repeat(first|(with_reducible exact cn9.out)|(with_reducible refine Kd.C_alloc ?_ _)|(with_reducible refine Kd.C_drewN ?_ _)|(with_reducible refine Kd.C_drew ?_)|exact cn9.out)) hb)
 replace co0:=A_ (Kd.C_below (by repeat(first|(with_reducible exact co0.out)|(with_reducible refine Kd.C_alloc ?_ _)|(with_reducible refine Kd.C_drewN ?_ _)|(with_reducible refine Kd.C_drew ?_)|exact co0.out)) hb)
 replace HB:=hs_ (fz) hb
 obtain⟨i4,i5,ca2⟩:=Kd.R_slice hy0.out
 (first|subst ca2|(injection ca2 with f1_ f2_ f3_;have f4_:=f1_.symm;have f5_:=f3_.symm;clear f1_ f2_ f3_;subst f4_;subst f5_))
 obtain⟨bp1,bp2,eh7⟩:=Kd.S_slice hy1.out
 (first|subst eh7|(injection eh7 with f1_ f2_ f3_;have f4_:=f1_.symm;have f5_:=f3_.symm;clear f1_ f2_ f3_;subst f4_;subst f5_))
 obtain⟨ah8,ah9,dc5⟩:=Kd.R_slice hy2.out
 (first|subst dc5|(injection dc5 with f1_ f2_ f3_;have f4_:=f1_.symm;have f5_:=f3_.symm;clear f1_ f2_ f3_;subst f4_;subst f5_))
 refine hK.out _ _ ⟨(Gz gp.out 0).trans rfl,(Gz gp.out 1).trans rfl,(Gz gp.out 2).trans rfl,HS3_,HS4_⟩ (fun hHeld=>?_)
 clear hK K
 refine nm_ ?_
 refine one_ (i:=11) (N:=none) (tl_ 13 4095) rfl rfl (Jo HT_.out (g1_)) (by decide) (fun K hK=>?_)
 have ks6:w50.cell? ⟨dc,0,none⟩=some (.slice none 0 0):=(Gz eb.out 0).trans rfl
 have ks7:=G8 eb.out 0
 have ks8:=ak9.out
 have ks9:=ar8.out
 have na3:=rz.out
 have kt0:=al0.out
 have kt1:=ar9.out
 have na4:=ry.out
 have na5:w50.cell? ⟨dc,1,none⟩=some (.slice none 0 0):=(Gz eb.out 1).trans rfl
 have na6:=G8 eb.out 1
 have jf4:w50.cell? ⟨dc,2,none⟩=some (.slice none 0 0):=(Gz eb.out 2).trans rfl
 have jf5:=G8 eb.out 2
 refine skip_ (w1:=?_) (by rfl) rfl ?_ ?_
 rotate_left
 ·go_simp
  rfl
 refine hK.out _ _ ⟨(cf_ rz ((cf_ rz ((cf_ rz (hHeld.1)))))),(cf_ rz ((cf_ rz ((cf_ rz (hHeld.2.1)))))),(cf_ rz ((cf_ rz ((cf_ rz (hHeld.2.2.1)))))),((cell_far (p:=⟨dc,_,none⟩) (g73_) _).trans (((cell_far (p:=⟨dc,_,none⟩) (g73_) _).trans (((cell_far (p:=⟨dc,_,none⟩) (g73_) _).trans (hHeld.2.2.2.1)))))),((cell_far (p:=⟨dc,_,none⟩) (g73_) _).trans (((cell_far (p:=⟨dc,_,none⟩) (g73_) _).trans (((cell_far (p:=⟨dc,_,none⟩) (g73_) _).trans (hHeld.2.2.2.2))))))⟩ (fun hHeld=>?_)
 clear hK K
 refine pw_ 12 5 (tl_ 13 8191) ?_
 refine done_ (done_of HT_.out (g1_)) ?_
 try go_wp2
 refine bodyPost_ret (Jn rfl _ _ dc 28 #[.slice i4 cc2.length i5, .slice bp1 cn6.length bp2, .slice ah8 dj8.length ah9] (0,0) _ rfl (ba_ eb) Try.underlying28 rfl (g1_)) rfl ?_
 exact⟨_,_,_,by first|rfl|(simp[errW_none,errW_some] <;> rfl)|(simp only[<- hji24];first|rfl|(simp[errW_none,errW_some] <;> rfl))|(simp[*,errW_none,errW_some] <;> rfl),ra_ hy0,sa_ hy1,ra_ hy2,fz⟩
def Gv.f (k:Nat) (ab:List Int) (aa:List (List Int)) (ai:List (S25)) (aq:Int) (ak:Int) (am:Int) (ap:Int):Option (List Int × (List (List Int)) × (List (S25)) × Bool):=(F2.f k ab aa ai).bind fun dl5=>(if dl5=true then((F4.f k ab aa ai aq ak am ap).bind fun bt562=>(some (bt562.1,bt562.2.1,bt562.2.2.1,bt562.2.2.2))) else(some (([]:List Int),([]:List (List Int)),([]:List (S25)),false)))
theorem ym {p:Prop} (h:p:=by repeat(first|(with_reducible first|exact HB.out|apply G4|apply G3|apply G2|refine G1 ?_ ia5.out|refine G1 ?_ ia6.out|refine G1 ?_ ia7.out)|exact HB.out)):p:=h
set_option maxHeartbeats 8000000 in
set_option maxRecDepth 100000 in
theorem Gv.calls (k:Nat) (ae:Option Addr) (ac:Nat) (ab:List Int) (ag:Option Addr) (af:Nat) (aa:List (List Int)) (ci:Option Addr) (bv:Nat) (ai:List (S25)) (aq:Int) (ak:Int) (am:Int) (ap:Int) (r1:List Int) (r2:List (List Int)) (r3:List (S25)) (r4:Bool) (w:World) (ca:Kd.C (Kd.int .i64) w ae ab.length ab) (ce:ab.length<=ac) (cb:Kd.C (Kd.slice 3 (Kd.int .i64)) w ag aa.length aa) (cg:aa.length<=af) (k0:Kd.C k25 w ci ai.length ai) (k5:ai.length<=bv) (h:Gv.f k ab aa ai aq ak am ap=some (r1,r2,r3,r4)) :
  Calls Try.prog 56 #[.agg #[.slice ae ab.length ac, .slice ag aa.length af, .slice ci ai.length bv], .agg #[.int .i64 aq, .int .i64 ak, .int .i64 am, .int .i64 ap]] w fun e w'=>∃v0_ v1_ v2_:Value,e = .returned (.tuple #[.agg #[v0_,v1_,v2_], .bool r4])/\Kd.R (Kd.int .i64) 3 w' w.heap.size (fun _=>True) v0_ r1/\Kd.S (Kd.slice 3 (Kd.int .i64)) 22 w' w.heap.size (fun k_=>some k_≠(v0_:Value).ownBlock) v1_ r2/\Kd.R k25 25 w' w.heap.size (fun k_=>some k_≠(v0_:Value).ownBlock/\some k_≠(v1_:Value).ownBlock) v2_ r3/\Below w.heap.size w w':=by
 have hu28:=Try.underlying28
 have hu69:=Try.underlying69
 have bu:=A_ ca
 have cq:=A_ ce
 clear ca ce
 have bf:=A_ cb
 have cu:=A_ cg
 clear cb cg
 have l9:=A_ k0
 have rf:=A_ k5
 clear k0 k5
 have HB:=A_ (Below.refl w.heap.size w)
 have H:=h
 unfold Gv.f at H
 clear h
 obtain⟨dl5,A3,H⟩:=bind_ H
 by_cases c4:dl5=true
 ·subst c4
  replace H:=ifp_ H
  replace H:=Option.bind_eq_some_iff.mp H
  obtain⟨⟨cc8,co6,dl6,kx3⟩,A50,H⟩:=H
  try dsimp only at H
  have A5:=A_ A50
  clear A50
  simp only[Option.some.injEq,Prod.mk.injEq] at H
  obtain⟨rfl,rfl,rfl,rfl⟩:=H
  go_enter Try.func56,Try.ntmps56
  go_wp2_with (first|((with_reducible refine gd_ 2 ?_);refine bx_ (N:=2) #[.slice ae ab.length ac, .slice ag aa.length af, .slice ci ai.length bv] 28 ?_;intro xz hg w6 hbox hb;have sb:=A_ (hbox);have kx4:=A_ ((g22_:w.heap.size<=xz));have ia5:=kx4;replace HB:=hs_ (ym) hb;clear hb hbox hg)|((with_reducible refine gd_ 3 ?_);refine bx_ (N:=3) #[.int .i64 aq, .int .i64 ak, .int .i64 am, .int .i64 ap] 69 ?_;intro uy hg w7 hbox hb;have wl:=A_ (hbox);have kx5:=A_ ((g22_:w.heap.size<=uy));have ia6:=kx5;replace HB:=hs_ (ym) hb;have fu2:=A_ ((g109_:xz≠uy));have fu3:=A_ ((g110_:uy≠xz));replace sb:=bb_ sb hb;clear hb hbox hg)|((with_reducible refine gd_ 4 ?_);refine bx_ (N:=4) #[.slice none 0 0, .slice none 0 0, .slice none 0 0] 28 ?_;intro o7 hg w8 hbox hb;have aa8:=A_ (hbox);have kx6:=A_ ((g22_:w.heap.size<=o7));have ia7:=kx6;replace HB:=hs_ (ym) hb;have fu4:=A_ ((g109_:xz≠o7));have fu5:=A_ ((g110_:o7≠xz));replace sb:=bb_ sb hb;have fu6:=nl_ wl hg;have fu7:=nr_ wl hg;replace wl:=bb_ wl hb;clear hb hbox hg;have fd8:=fu2.out;have fd9:=fu3.out;have bn8:=fu4.out;have bn9:=fu5.out;obtain⟨yu,yv,es4,yw,yx,es5⟩:=blk3_ sb)|((with_reducible refine gc_ 72 ?_);refine gl_ 7 Try.func72 #[.agg #[.slice ae ab.length ac, .slice ag aa.length af, .slice ci ai.length bv]] ?_;(refine(F2.calls k _ _ ab _ _ aa _ _ ai true _ (uf1_ bu) cq.out (uf1_ bf) cu.out (uf1_ l9) rf.out A3.out).mono ?_);rintro e ws ⟨rfl,hb⟩;refine⟨_,rfl,?_⟩;replace sb:=bb_ sb hb;replace wl:=bb_ wl hb;replace aa8:=bb_ aa8 hb;replace HB:=hs_ (ym) hb;obtain⟨tc,td,cz0,te,tf,cz1⟩:=blk3_ sb;have cr3:=fu6.out;have cr4:=fu7.out;obtain⟨am8,am9,el9,ia8,an0,an1,em0,ia9⟩:=blk4_ wl)|((with_reducible refine gc_ 102 ?_);refine gl_ 12 Try.func102 #[.agg #[.slice ae ab.length ac, .slice ag aa.length af, .slice ci ai.length bv], .agg #[.int .i64 aq, .int .i64 ak, .int .i64 am, .int .i64 ap]] ?_;(refine(F4.calls k _ _ ab _ _ aa _ _ ai aq ak am ap cc8 co6 dl6 kx3 _ (uf1_ bu) cq.out (uf1_ bf) cu.out (uf1_ l9) rf.out A5.out).mono ?_);rintro e jp ⟨nh3,nh4,nh5,rfl,aj,ar,ef,hb⟩;refine⟨_,rfl,?_⟩;have ib0:=A_ (Kd.R_lower aj (G0 (ym)));have ib1:=A_ (Kd.S_lower ar (G0 (ym)));have ib2:=A_ (Kd.R_lower ef (G0 (ym)));replace sb:=bb_ sb hb;replace wl:=bb_ wl hb;replace aa8:=bb_ aa8 hb;replace HB:=hs_ (ym) hb;obtain⟨fd,ey,vn⟩:=Kd.R_slice ib0.out;subst vn;obtain⟨az4,az5,dj0,az6,az7,dj1⟩:=blk3_ aa8;obtain⟨g3,gf,sn⟩:=Kd.S_slice ib1.out;subst sn;obtain⟨jc,gv,ux⟩:=Kd.R_slice ib2.out;subst ux))
  refine bodyPost_ret (Jn rfl _ _ o7 28 #[.slice fd cc8.length ey, .slice g3 co6.length gf, .slice jc dl6.length gv] (0,0) _ rfl (ba_ aa8) Try.underlying28 rfl (g1_)) rfl ?_
  exact⟨_,_,_,g4_,ra_ ib0,sa_ ib1,ra_ ib2,ym⟩
 replace c4:=Bool.eq_false_iff.mpr c4
 subst c4
 replace H:=ifn_ H
 simp only[Option.some.injEq,Prod.mk.injEq] at H
 obtain⟨rfl,rfl,rfl,rfl⟩:=H
 go_enter Try.func56,Try.ntmps56
 go_wp2_with (first|((with_reducible refine gd_ 2 ?_);refine bx_ (N:=2) #[.slice ae ab.length ac, .slice ag aa.length af, .slice ci ai.length bv] 28 ?_;intro xz hg j5 hbox hb;have sb:=A_ (hbox);have kx4:=A_ ((g22_:w.heap.size<=xz));have ia5:=kx4;replace HB:=hs_ (ym) hb;clear hb hbox hg)|((with_reducible refine gd_ 3 ?_);refine bx_ (N:=3) #[.int .i64 aq, .int .i64 ak, .int .i64 am, .int .i64 ap] 69 ?_;intro uy hg ug hbox hb;have wl:=A_ (hbox);have kx5:=A_ ((g22_:w.heap.size<=uy));have ia6:=kx5;replace HB:=hs_ (ym) hb;have fu2:=A_ ((g109_:xz≠uy));have fu3:=A_ ((g110_:uy≠xz));replace sb:=bb_ sb hb;clear hb hbox hg)|((with_reducible refine gd_ 4 ?_);refine bx_ (N:=4) #[.slice none 0 0, .slice none 0 0, .slice none 0 0] 28 ?_;intro o7 hg w23 hbox hb;have aa8:=A_ (hbox);have kx6:=A_ ((g22_:w.heap.size<=o7));have ia7:=kx6;replace HB:=hs_ (ym) hb;have fu4:=A_ ((g109_:xz≠o7));have fu5:=A_ ((g110_:o7≠xz));replace sb:=bb_ sb hb;have fu6:=nl_ wl hg;have fu7:=nr_ wl hg;replace wl:=bb_ wl hb;clear hb hbox hg;have gu5:=fu2.out;have gu6:=fu3.out;have ff8:=fu4.out;have ff9:=fu5.out;obtain⟨nh6,nh7,nh8,nh9,ni0,ni1⟩:=blk3_ sb)|((with_reducible refine gc_ 72 ?_);refine gl_ 7 Try.func72 #[.agg #[.slice ae ab.length ac, .slice ag aa.length af, .slice ci ai.length bv]] ?_;(refine(F2.calls k _ _ ab _ _ aa _ _ ai false _ (uf1_ bu) cq.out (uf1_ bf) cu.out (uf1_ l9) rf.out A3.out).mono ?_);rintro e w27 ⟨rfl,hb⟩;refine⟨_,rfl,?_⟩;replace sb:=bb_ sb hb;replace wl:=bb_ wl hb;replace aa8:=bb_ aa8 hb;replace HB:=hs_ (ym) hb;have bw1:=fu7.out;have bw2:=fu6.out;obtain⟨cx3,cx4,hq7,cx5,cx6,hq8⟩:=blk3_ aa8))
 refine bodyPost_ret (Jn rfl _ _ o7 28 #[.slice none 0 0, .slice none 0 0, .slice none 0 0] (0,0) _ rfl (ba_ aa8) Try.underlying28 rfl (g1_)) rfl ?_
 exact⟨_,_,_,g4_,g18_,g24_,g18_,ym⟩
def Jp (w0 W:World) (g:Nat) (f0:List Int) (f1:Int):Prop:=∃A0 c0,W.heap[g]? = some (.cells #[.slice A0 f0.length c0, .int .i64 f1] 112 (0,0))/\w0.heap.size<=g/\Kd.C (Kd.int .u8) w0 A0 f0.length f0
theorem Jp.grown {w0 W:World} {g:Nat} {f0:List Int} {f1:Int} {W1:World} {row:Option Nat} (h:Jp w0 W g f0 f1) (hw:W.grownBy W1 row) (hne:some g≠row):Jp w0 W1 g f0 f1:=by
 obtain⟨A0,c0,hb,hg,fc⟩:=h
 exact⟨A0,c0,Je hb hw hne,hg,fc⟩
theorem Jp.below {w0 W:World} {g:Nat} {f0:List Int} {f1:Int} {W1:World} (h:Jp w0 W g f0 f1) (hw:Below W.heap.size W W1):Jp w0 W1 g f0 f1:=h.grown (grown_of_below hw none) (by simp)
theorem Jp.drewN {w0 W:World} {g:Nat} {f0:List Int} {f1:Int} (h:Jp w0 W g f0 f1) (m:Nat):Jp w0 (W.drewN m) g f0 f1:=h
theorem Jp.drew {w0 W:World} {g:Nat} {f0:List Int} {f1:Int} (h:Jp w0 W g f0 f1):Jp w0 W.drew g f0 f1:=h
theorem Jp.apart {w0 W:World} {g:Nat} {f0:List Int} {f1:Int} {α:Type} {d:Kd α} {e:Nat} {base:Nat} {ok:Nat->Prop} {v:Value} {xs:List α} (h:Jp w0 W g f0 f1) (ho:d.R e W base ok v xs) (ht:∀q,q ∈ e :: d.E->q≠112):d.R e W base (fun k=>ok k/\k≠g) v xs:=by
 obtain⟨A0,c0,hb,hg,fc⟩:=h
 exact Kd.R_types ho hb ht
theorem Jp.own_ne {w0 W:World} {g:Nat} {f0:List Int} {f1:Int} {α:Type} {d:Kd α} {e:Nat} {base:Nat} {ok:Nat->Prop} {v:Value} {xs:List α} (h:Jp w0 W g f0 f1) (ho:d.R e W base ok v xs) (ht:e≠112):some g≠v.ownBlock:=by
 obtain⟨A0,c0,hb,hg,fc⟩:=h
 exact Kd.R_ne ho hb ht
theorem Jp.apartQ {w0 W:World} {g:Nat} {f0:List Int} {f1:Int} {α:Type} {d:Kd α} {e:Nat} {base:Nat} {ok:Nat->Prop} {v:Value} {xs:List α} (h:Jp w0 W g f0 f1) (ho:d.Q e W base ok v xs) (ht:∀q,q ∈ e :: d.E->q≠112):d.Q e W base (fun k=>ok k/\k≠g) v xs:=by
 obtain⟨A0,c0,hb,hg,fc⟩:=h
 exact Kd.Q_types ho hb ht
theorem Jp.own_neQ {w0 W:World} {g:Nat} {f0:List Int} {f1:Int} {α:Type} {d:Kd α} {e:Nat} {base:Nat} {ok:Nat->Prop} {v:Value} {xs:List α} (h:Jp w0 W g f0 f1) (ho:d.Q e W base ok v xs) (ht:e≠112):some g≠v.ownBlock:=by
 obtain⟨A0,c0,hb,hg,fc⟩:=h
 exact Kd.Q_ne ho hb ht
theorem Jp.apartS {w0 W:World} {g:Nat} {f0:List Int} {f1:Int} {α:Type} {d:Kd α} {e:Nat} {base:Nat} {ok:Nat->Prop} {v:Value} {xs:List α} (h:Jp w0 W g f0 f1) (ho:d.S e W base ok v xs) (ht:∀q,q ∈ e :: d.E->q≠112):d.S e W base (fun k=>ok k/\k≠g) v xs:=by
 obtain⟨A0,c0,hb,hg,fc⟩:=h
 exact Kd.S_types ho hb ht
theorem Jp.own_neS {w0 W:World} {g:Nat} {f0:List Int} {f1:Int} {α:Type} {d:Kd α} {e:Nat} {base:Nat} {ok:Nat->Prop} {v:Value} {xs:List α} (h:Jp w0 W g f0 f1) (ho:d.S e W base ok v xs) (ht:e≠112):some g≠v.ownBlock:=by
 obtain⟨A0,c0,hb,hg,fc⟩:=h
 exact Kd.S_ne ho hb ht
theorem Jp.lt {w0 W:World} {g:Nat} {f0:List Int} {f1:Int} (h:Jp w0 W g f0 f1):g < W.heap.size:=by
 obtain⟨A0,c0,hb,hg,fc⟩:=h
 exact blk_lt hb
theorem Jp.ge {w0 W:World} {g:Nat} {f0:List Int} {f1:Int} (h:Jp w0 W g f0 f1):w0.heap.size<=g:=by
 obtain⟨A0,c0,hb,hg,fc⟩:=h
 exact hg
theorem Jp.ne_blk {w0 W:World} {g:Nat} {f0:List Int} {f1:Int} {a:Nat} {cs:Array Value} {t:TypeId} {fr:Nat × Nat} (h:Jp w0 W g f0 f1) (hb2:W.heap[a]? = some (.cells cs t fr)) (ht:t≠112):g≠a:=by
 obtain⟨A0,c0,hb,hg,fc⟩:=h
 rintro rfl
 rw[hb] at hb2
 injection hb2 with hb2
 injection hb2 with _ ht2
 exact ht ht2.symm
theorem Jp.far {w0 W:World} {g:Nat} {f0:List Int} {f1:Int} {p:Addr} (h:Jp w0 W g f0 f1) (hne:g≠p.block) (u:Value):Jp w0 (W.setCell p u) g f0 f1:=by
 obtain⟨A0,c0,hb,hg,fc⟩:=h
 exact⟨A0,c0,Jf hb hne u,hg,fc⟩
theorem cellS112_0 {W:World} {g:Nat} {A0:Option Addr} {c0:Nat} {f0:List Int} {f1:Int} (h:W.heap[g]? = some (.cells #[.slice A0 f0.length c0, .int .i64 f1] 112 (0,0))):W.cell? ⟨g,0,none⟩=some (.slice A0 f0.length c0):=(Gz h 0).trans rfl
theorem cellS112_1 {W:World} {g:Nat} {A0:Option Addr} {c0:Nat} {f0:List Int} {f1:Int} (h:W.heap[g]? = some (.cells #[.slice A0 f0.length c0, .int .i64 f1] 112 (0,0))):W.cell? ⟨g,1,none⟩=some (.int .i64 f1):=(Gz h 1).trans rfl
theorem Jp.set_1 {w0 W:World} {g:Nat} {f0:List Int} {f1:Int} (h:Jp w0 W g f0 f1) (x:Int):Jp w0 (W.setCell ⟨g,1,none⟩ (.int .i64 x)) g f0 x:=by
 obtain⟨A0,c0,hb,hg,fc⟩:=h
 exact⟨A0,c0,by simpa using blk_set hb 1 (.int .i64 x),hg,fc⟩
def Gx.f (l0:List Int):Option (List Int × Int):=if (l0.length:Int) > 2000 then(if 2000<=(l0.length:Int) then(some (l0.take 2000,0)) else(none)) else(some (l0,0))
theorem el2 {p:Prop} (h:p:=by repeat(first|(with_reducible first|exact HB.out|apply G4|apply G3|apply G2|refine G1 ?_ ib3.out|refine G1 ?_ ib4.out)|exact HB.out)):p:=h
theorem fz9 {p:Prop} (h:p:=by repeat(first|(with_reducible first|exact HBW.out|apply G4|apply G3|apply G2|refine G1 ?_ kx9.out|refine G1 ?_ ky0.out)|exact HBW.out)):p:=h
set_option maxHeartbeats 8000000 in
set_option maxRecDepth 100000 in
theorem Gx.calls (A0:Option Addr) (c0:Nat) (l0:List Int) (r1:List Int) (r2:Int) (w0 w:World) (hB:Below w0.heap.size w0 w) (fc:Kd.C (Kd.int .u8) w0 A0 l0.length l0) (gc:l0.length<=c0) (h:Gx.f l0=some (r1,r2)) :
  Calls Try.prog 69 #[.slice A0 l0.length c0] w fun e w'=>∃g_:Nat,e = .returned (.pointer (some ⟨g_,0,none⟩))/\Jp w0 w' g_ r1 r2/\Below w0.heap.size w0 w'/\Below w.heap.size w w':=by
 have hu112:=Try.underlying112
 have i3:=A_ fc
 have qn:=A_ gc
 clear fc gc
 have HBW:=A_ (Below.refl w.heap.size w)
 have HW0:=A_ hB.size
 have HB:=A_ hB
 clear hB
 have H:=h
 unfold Gx.f at H
 clear h
 by_cases c2:(l0.length:Int) > 2000
 case neg=>
  rw[if_neg c2] at H
  have yt:=decide_eq_false c2
  have at3:decide (2000 < l0.length)=false:=decide_eq_false (by omega)
  clear c2
  simp only[Option.some.injEq,Prod.mk.injEq] at H
  obtain⟨rfl,rfl⟩:=H
  go_enter Try.func69,Try.ntmps69
  go_wp2_with (first|((with_reducible refine gd_ 10 ?_);refine bx_ (N:=10) #[.slice A0 l0.length c0, .int .i64 0] 112 ?_;intro ei5 hg w6 hbox hb;replace HB:=hs_ (el2) hb;have ky3:=A_ (hbox);have ky0:=A_ ((g111_:w.heap.size<=ei5));have ib4:=A_ (Nat.le_trans HW0.out ky0.out);replace HBW:=A_ (Jh HBW.out hb);clear hb hbox hg))
  go_ret
  exact⟨_,rfl,(show Jp w0 _ ei5 l0 0 from⟨_,_,uf0_ ky3,ib4.out,i3.out⟩),el2,fz9⟩
 rw[if_pos c2] at H
 have yt:=decide_eq_true c2
 have at3:decide (2000 < l0.length)=true:=decide_eq_true (by omega)
 clear c2
 obtain⟨c3,H⟩:=pos_ H
 have jd:=eq_true c3
 have n7:=decide_eq_true c3
 clear c3
 simp only[Option.some.injEq,Prod.mk.injEq] at H
 obtain⟨rfl,rfl⟩:=H
 obtain⟨i04,ib5,_,hsz4,_⟩:=info_parts info5
 obtain⟨hcut4,hA4,hC4⟩:=print_take_of (P:=Try.prog) (Value.int .u8) 0 33 5 .i64 Try.underlying33 ib5 hsz4 A0 c0 l0 2000 (by omega) (od_) qn.out
 have ky1:=A_ (Kd.C_of_reads (h1:=fun _=>rfl) (hA4 _ (Kd.reads_of_C i3.out)))
 have ni2:=A_ hC4
 clear hA4 hC4 ib5 hsz4
 go_enter Try.func69,Try.ntmps69
 go_wp2_with (first|((with_reducible refine gd_ 10 ?_);refine bx_ (N:=10) #[.slice A0 (l0.take 2000).length c0, .int .i64 0] 112 ?_;intro ei4 hg w5 hbox hb;replace HB:=hs_ (el2) hb;have ky2:=A_ (hbox);have kx9:=A_ ((g111_:w.heap.size<=ei4));have ib3:=A_ (Nat.le_trans HW0.out kx9.out);replace HBW:=A_ (Jh HBW.out hb);clear hb hbox hg))
 go_ret
 exact⟨_,rfl,(show Jp w0 _ ei4 (l0.take 2000) 0 from⟨_,_,uf0_ ky2,ib3.out,ky1.out⟩),el2,fz9⟩
def Fa.j0:Nat->Int->Bool->List Int->Int->Option (Int × Int)
 | 0,_,_,_,_=>none
 | k + 1,x1,x24,io,ld=>if x24=true then(some (0,ld)) else(if (wrap64 (ld - 1)) < (io.length:Int) then(if 0<=(wrap64 (ld - 1)) then(if x1=0 then(none) else(some (Int.tmod (wrap64 (rd io (wrap64 (ld - 1)))) x1,ld))) else(none)) else(if (io.length:Int)=0 then(none) else(if 0<=(Int.tmod (wrap64 (ld - 1)) (io.length:Int)) then(if (Int.tmod (wrap64 (ld - 1)) (io.length:Int)) < (io.length:Int) then(if 0<=(Int.tmod (wrap64 ((wrap64 ((wrap64 (ld - 1)) * 7)) + 3)) (io.length:Int)) then(if (Int.tmod (wrap64 ((wrap64 ((wrap64 (ld - 1)) * 7)) + 3)) (io.length:Int)) < (io.length:Int) then(if x1=0 then(none) else(some (Int.tmod (Go.bits .xor .i64 (wrap64 ((wrap64 ((wrap64 ((wrap64 ((wrap64 (rd io (Int.tmod (wrap64 (ld - 1)) (io.length:Int)))) * 131)) + (wrap64 ((wrap64 (rd io (Int.tmod (wrap64 ((wrap64 ((wrap64 (ld - 1)) * 7)) + 3)) (io.length:Int)))) * 1117)))) + (wrap64 ((wrap64 (ld - 1)) * 29)))) + (wrap64 ((wrap64 (Int.tdiv (wrap64 (ld - 1)) (io.length:Int))) * 53)))) (wrap64 (Int.tdiv (wrap64 ((wrap64 ((wrap64 ((wrap64 ((wrap64 (rd io (Int.tmod (wrap64 (ld - 1)) (io.length:Int)))) * 131)) + (wrap64 ((wrap64 (rd io (Int.tmod (wrap64 ((wrap64 ((wrap64 (ld - 1)) * 7)) + 3)) (io.length:Int)))) * 1117)))) + (wrap64 ((wrap64 (ld - 1)) * 29)))) + (wrap64 ((wrap64 (Int.tdiv (wrap64 (ld - 1)) (io.length:Int))) * 53)))) 64))) x1,ld))) else(none)) else(none)) else(none)) else(none))))
def Fa.f (k:Nat) (ah:List Int) (dp:Int) (a1:Int):Option (Int × Int):=if a1 < 1 then(Fa.j0 k a1 true ah (wrap64 (dp + 1))) else(Fa.j0 k a1 ((ah.length:Int) == 0) ah (wrap64 (dp + 1)))
theorem dp0 {p:Prop} (h:p:=by repeat(first|(with_reducible first|exact HI0.out|apply Jp.alloc|apply Jp.drewN|apply Jp.drew|apply Jp.set_1)|exact HI0.out)):p:=h
theorem dp1 {p:Prop} (h:p:=by repeat(first|(with_reducible first|exact HK.out|apply Jb.set_|apply Jj|apply Jk|apply keep_alloc)|exact HK.out)):p:=h
theorem dp2 {p:Prop} (h:p:=by repeat(first|(with_reducible first|exact HB.out|apply G4|apply G3|apply G2|refine G1 ?_ (Jp.ge HI0.out))|exact HB.out)):p:=h
set_option maxHeartbeats 8000000 in
set_option maxRecDepth 100000 in
theorem Fa.calls (k:Nat) (g:Nat) (ah:List Int) (dp:Int) (a1:Int) (r1:Int) (r2:Int) (w0 w:World) (hI:Jp w0 w g ah dp) (hB:Below w0.heap.size w0 w) (h:Fa.f k ah dp a1=some (r1,r2)) :
  Calls Try.prog 70 #[.pointer (some ⟨g,0,none⟩), .int .i64 a1] w fun e w'=>e = .returned (.int .i64 r1)/\Jp w0 w' g ah r2/\Below w0.heap.size w0 w'/\Jb w w' g none:=by
 have HI0:=A_ hI
 have HK:=A_ (Jb.refl w g none)
 have HL:=A_ hB.size
 clear hI
 have HW0:=A_ hB.size
 have HB:=A_ hB
 clear hB
 have H:=h
 unfold Fa.f at H
 clear h
 have HC3:=A_ H
 clear H
 obtain⟨ASz4_0,cSz4_0,HGz4,hgz4,HSz4_0⟩:=HI0.out
 have at0:=cellS112_0 HGz4
 have at1:=cellS112_1 HGz4
 have bh7:=G8 HGz4 1
 clear HGz4 hgz4
 go_enter Try.func70,Try.ntmps70
 go_upto_region 2 with(fail)
 repeat(go_quiet (fail);go_upto_region 2 with(fail))
 go_cut [24] (fun v24 wc=>∃(kq:Nat) (ei6:Bool),v24 = .bool ei6/\Gy (Fa.j0 kq a1 ei6 ah (wrap64 (dp + 1))=some (r1,r2))/\Gy (kq<=k)/\Gy (Jp w0 wc g ah (wrap64 (dp + 1)))/\Gy (Jb w wc g none)/\Gy (Below w0.heap.size w0 wc))
 case first=>
  have H:=HC3.out
  clear HC3
  by_cases c5:a1 < 1
  ·rw[if_pos c5] at H
   have ij:=decide_eq_true c5
   clear c5
   (first|rw[ij]|(simp only[i64_w,i32_w];rw[ij])|skip)
   have H':=A_ H
   clear H
   go_wp2
   repeat(go_quiet (fail);try go_wp2)
   go_meet
   case rel=>exact⟨_,(true),(g2_),H',⟨g9_⟩,⟨dp0⟩,⟨dp1⟩,⟨dp2⟩⟩
  rw[if_neg c5] at H
  have ij:=decide_eq_false c5
  clear c5
  (first|rw[ij]|(simp only[i64_w,i32_w];rw[ij])|skip)
  have H':=A_ H
  clear H
  obtain⟨ASz6_0,cSz6_0,HGz6,hgz6,HSz6_0⟩:=HI0.out
  have za:=cellS112_0 HGz6
  have zb:=cellS112_1 HGz6
  have zc:=G8 HGz6 1
  clear HGz6 hgz6
  go_wp2
  repeat(go_quiet (fail);try go_wp2)
  go_meet
  case rel=>exact⟨_,(((ah.length:Int) == 0)),(g2_),H',⟨g9_⟩,⟨dp0⟩,⟨dp1⟩,⟨dp2⟩⟩
 clear HC3
 obtain⟨kq,ei6,rfl,HA,HJ2,HI0,HK,HB⟩:=hcut
 cases kq with
 | zero=>exact absurd HA.out (by simp[Fa.j0])
 | succ kj2=>?_
 have H:=HA.out
 clear HA
 simp only[Fa.j0] at H
 by_cases c7:ei6=true
 ·subst c7
  replace H:=ifp_ H
  simp only[Option.some.injEq,Prod.mk.injEq] at H
  obtain⟨rfl,rfl⟩:=H
  go_wp2
  repeat(go_quiet (fail);try go_wp2)
  go_ret
  exact⟨g4_,dp0,dp2,dp1⟩
 replace c7:=Bool.eq_false_iff.mpr c7
 subst c7
 replace H:=ifn_ H
 by_cases c8:(wrap64 ((wrap64 (dp + 1)) - 1)) < (ah.length:Int)
 ·rw[if_pos c8] at H
  have ad6:=decide_eq_true c8
  clear c8
  obtain⟨ji9,hji9⟩:∃j_:Int,(wrap64 ((wrap64 (dp + 1)) - 1))=j_:=⟨_,rfl⟩
  first|rw[hji9] at H|simp only[hji9] at H
  (try rw[hji9] at ad6)
  have hji9w:(IntKind.i64.wrap ((wrap64 (dp + 1)) - 1))=ji9:=(i64_w _).trans hji9
  obtain⟨o9,H⟩:=pd_ H
  by_cases ii:a1=0
  ·rw[if_pos ii] at H
   exact absurd H (by simp)
  rw[if_neg ii] at H
  have yr:(a1 == 0)=false:=beq_eq_false_iff_ne.mpr ii
  have ni3:(a1 != 0)=true:=bne_iff_ne.mpr ii
  simp only[Option.some.injEq,Prod.mk.injEq] at H
  obtain⟨rfl,rfl⟩:=H
  obtain⟨ASz12_0,cSz12_0,HGz12,hgz12,HSz12_0⟩:=HI0.out
  have xg:=cellS112_0 HGz12
  have xh:=cellS112_1 HGz12
  have xi:=G8 HGz12 1
  clear HGz12 hgz12
  obtain⟨⟨ni4,ky4,ib6⟩,fu9,fv0⟩:=rdp_ (Kd.at_int HSz12_0 (ji9))
  cases ky4
  replace ib6:=pw_cell_below HB.out ib6
  go_wp2
  repeat(go_quiet (fail);try go_wp2)
  go_ret
  exact⟨by first|rfl|(simp[errW_none,errW_some] <;> rfl)|(simp only[<- hji9];first|rfl|(simp[errW_none,errW_some] <;> rfl))|(simp[*,errW_none,errW_some] <;> rfl),dp0,dp2,dp1⟩
 rw[if_neg c8] at H
 have ad6:=decide_eq_false c8
 clear c8
 by_cases jw:(ah.length:Int)=0
 ·rw[if_pos jw] at H
  exact absurd H (by simp)
 rw[if_neg jw] at H
 have az8:((ah.length:Int) == 0)=false:=beq_eq_false_iff_ne.mpr jw
 have db4:((ah.length:Int) != 0)=true:=bne_iff_ne.mpr jw
 have ni5:¬ (ah=[]):=fun h_=>jw (g47_)
 obtain⟨ji14,hji14⟩:∃j_:Int,(Int.tmod (wrap64 ((wrap64 (dp + 1)) - 1)) (ah.length:Int))=j_:=⟨_,rfl⟩
 first|rw[hji14] at H|simp only[hji14] at H
 obtain⟨mb,H⟩:=pd_ H
 obtain⟨vm,H⟩:=pd_ H
 obtain⟨ji17,hji17⟩:∃j_:Int,(Int.tmod (wrap64 ((wrap64 ((wrap64 ((wrap64 (dp + 1)) - 1)) * 7)) + 3)) (ah.length:Int))=j_:=⟨_,rfl⟩
 first|rw[hji17] at H|simp only[hji17] at H
 obtain⟨ao9,H⟩:=pd_ H
 obtain⟨qm,H⟩:=pd_ H
 by_cases jx:a1=0
 ·rw[if_pos jx] at H
  exact absurd H (by simp)
 rw[if_neg jx] at H
 have bh8:(a1 == 0)=false:=beq_eq_false_iff_ne.mpr jx
 have hl9:(a1 != 0)=true:=bne_iff_ne.mpr jx
 simp only[Option.some.injEq,Prod.mk.injEq] at H
 obtain⟨rfl,rfl⟩:=H
 obtain⟨ASz21_0,cSz21_0,HGz21,hgz21,HSz21_0⟩:=HI0.out
 have vh:=cellS112_0 HGz21
 have vi:=cellS112_1 HGz21
 have vj:=G8 HGz21 1
 clear HGz21 hgz21
 obtain⟨⟨ky5,ky6,ib7⟩,fv1,fv2⟩:=rdp_ (Kd.at_int HSz21_0 (ji14))
 cases ky6
 replace ib7:=pw_cell_below HB.out ib7
 obtain⟨⟨ky7,ky8,ib8⟩,fv3,fv4⟩:=rdp_ (Kd.at_int HSz21_0 (ji17))
 obtain rfl:ky5=ky7:=(by injection ky8)
 replace ib8:=pw_cell_below HB.out ib8
 go_wp2
 repeat(go_quiet (fail);try go_wp2)
 go_ret
 exact⟨by first|rfl|(simp[errW_none,errW_some] <;> rfl)|(simp only[<- hji14, <- hji17];first|rfl|(simp[errW_none,errW_some] <;> rfl))|(simp[*,errW_none,errW_some] <;> rfl),dp0,dp2,dp1⟩
def F7.f (k:Nat) (ah:List Int) (dp:Int) (a1:Int):Option (Bool × Int):=if a1 > 0 then((Fa.f k ah dp a1).bind fun bt578=>(some ((bt578.1 == (wrap64 (a1 - 1))),bt578.2))) else(some (false,dp))
theorem ga0 {p:Prop} (h:p:=by repeat(first|(with_reducible first|exact HI0.out|apply Jp.alloc|apply Jp.drewN|apply Jp.drew|apply Jp.set_1)|exact HI0.out)):p:=h
theorem ga1 {p:Prop} (h:p:=by repeat(first|(with_reducible first|exact HB.out|apply G4|apply G3|apply G2|refine G1 ?_ (Jp.ge HI0.out))|exact HB.out)):p:=h
theorem ga2 {p:Prop} (h:p:=by repeat(first|(with_reducible first|exact HK.out|apply Jb.set_|apply Jj|apply Jk|apply keep_alloc)|exact HK.out)):p:=h
set_option maxHeartbeats 8000000 in
set_option maxRecDepth 100000 in
theorem F7.calls (k:Nat) (g:Nat) (ah:List Int) (dp:Int) (a1:Int) (r1:Bool) (r2:Int) (w0 w:World) (hI:Jp w0 w g ah dp) (hB:Below w0.heap.size w0 w) (h:F7.f k ah dp a1=some (r1,r2)) :
  Calls Try.prog 106 #[.pointer (some ⟨g,0,none⟩), .int .i64 a1] w fun e w'=>e = .returned (.bool r1)/\Jp w0 w' g ah r2/\Below w0.heap.size w0 w'/\Jb w w' g none:=by
 have HI0:=A_ hI
 have HK:=A_ (Jb.refl w g none)
 have HL:=A_ hB.size
 clear hI
 have HW0:=A_ hB.size
 have HB:=A_ hB
 clear hB
 have H:=h
 unfold F7.f at H
 clear h
 by_cases c3:a1 > 0
 ·rw[if_pos c3] at H
  have jd:=decide_eq_true c3
  clear c3
  replace H:=Option.bind_eq_some_iff.mp H
  obtain⟨⟨ky9,kz0⟩,oc,H⟩:=H
  try dsimp only at H
  have A4:=A_ oc
  clear oc
  simp only[Option.some.injEq,Prod.mk.injEq] at H
  obtain⟨rfl,rfl⟩:=H
  go_enter Try.func106,Try.ntmps106
  go_wp2_with (first|(go_at_call 70;(refine(Fa.calls k g ah dp a1 ky9 kz0 w0 _ ga0 ga1 A4.out).mono ?_);rintro e w5 ⟨rfl,hi,hb,hk⟩;replace HK:=A_ (Jb.trans (ga2) hk (.inl rfl));replace HB:=A_ (hb);replace HI0:=A_ (hi)))
  go_ret
  exact⟨g4_,ga0,ga1,ga2⟩
 rw[if_neg c3] at H
 have jd:=decide_eq_false c3
 clear c3
 simp only[Option.some.injEq,Prod.mk.injEq] at H
 obtain⟨rfl,rfl⟩:=H
 go_enter Try.func106,Try.ntmps106
 go_wp2
 go_ret
 exact⟨g4_,ga0,ga1,ga2⟩
end Go.Proofs.Ytfooakkhkehpiaa.PU
