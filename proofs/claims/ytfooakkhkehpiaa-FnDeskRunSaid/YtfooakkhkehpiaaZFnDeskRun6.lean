/- FnDeskRun: for every input the law holds. No condition. -/
import Derived.Test.YtfooakkhkehpiaaZFnDeskRun1
import Derived.Test.YtfooakkhkehpiaaZFnDeskRun2
import Derived.Test.YtfooakkhkehpiaaZFnDeskRun3
import Derived.Test.YtfooakkhkehpiaaZFnDeskRun4
import Derived.Test.YtfooakkhkehpiaaZFnDeskRun5
import Derived.SizedLaws
import Derived.ChangeSlices
import Derived.Test.YtfooakkhkehpiaaRows
import Derived.ProofKit
import Derived.OpenShut
import Derived.ShutString
import Derived.ChangeOld
namespace Go.Proofs.Ytfooakkhkehpiaa.Mx
open Go.RowKit Go.Proofs.Ytfooakkhkehpiaa.PU Go.Proofs.Ytfooakkhkehpiaa.Qh Go.Proofs.Ytfooakkhkehpiaa.Bk Go.Proofs.YtfooakkhkehpiaaW.PrintWords Go.Proofs.YtfooakkhkehpiaaW.PrintMore
set_option linter.unusedVariables false
set_option linter.unusedSimpArgs false
abbrev db (d:List (List Int)) (i j:Nat):Int:=rd (Jb d (i:Int)) (j:Int)
theorem rL (xs:List (List Int)) (i:Nat):Jb xs (i:Int)=xs.getD i []:=rfl
def rowF (n:Nat) (f:Nat->Int):List Int:=(List.range n).map f
def mk (n:Nat) (f:Nat->Nat->Int):List (List Int):=(List.range n).map (fun i=>rowF n (f i))
theorem rowF_len (n:Nat) (f:Nat->Int):(rowF n f).length=n:=by simp[rowF]
theorem mk_len (n:Nat) (f:Nat->Nat->Int):(mk n f).length=n:=by simp[mk]
theorem rd_rowF {n j:Nat} {f:Nat->Int} (h:j < n):rd (rowF n f) (j:Int)=f j:=by
  rw[rd_get _ _ (by rw[rowF_len];exact h)];simp[rowF]
theorem mk_get {n i:Nat} {f:Nat->Nat->Int} (h:i < n):Jb (mk n f) (i:Int)=rowF n (f i):=by
  rw[rL,List.getD_eq_getElem?_getD,List.getElem?_eq_getElem (by rw[mk_len];exact h)];simp[mk]
theorem rowF_congr {n:Nat} {f g:Nat->Int} (h:∀j,j < n->f j=g j):rowF n f=rowF n g:=by
  unfold rowF
  exact List.map_congr_left (fun j hj=>h j (List.mem_range.mp hj))
theorem mk_congr {n:Nat} {f g:Nat->Nat->Int} (h:∀i,i < n->∀j,j < n->f i j=g i j):mk n f=mk n g:=by
  unfold mk
  exact List.map_congr_left (fun i hi=>rowF_congr (h i (List.mem_range.mp hi)))
theorem rowF_of (l:List Int) {n:Nat} (h:l.length=n):l=rowF n (fun j=>rd l (j:Int)):=by
  apply List.ext_getElem (by rw[rowF_len,h])
  intro i h1 h2
  rw[<- rd_get l i h1, <- rd_get _ i h2,rd_rowF (by rw[rowF_len] at h2;exact h2)]
theorem mk_of {c:List Int} {d:List (List Int)} (h:BookP c d):d=mk c.length (db d):=by
  apply List.ext_getElem (by rw[mk_len,h.2.2.1])
  intro i h1 h2
  have hi:i < c.length:=by rw[mk_len] at h2;exact h2
  have hr:=(h.2.2.2 i hi).2.2.1
  have e1:d[i]=Jb d (i:Int):=by rw[rL,List.getD_eq_getElem?_getD,List.getElem?_eq_getElem h1];rfl
  have e2:(mk c.length (db d))[i]=rowF c.length (db d i):=by simp[mk]
  rw[e1,e2]
  exact rowF_of _ hr
theorem rowF_set {n j:Nat} {f:Nat->Int} {v:Int} (h:j < n):(rowF n f).set j v=rowF n (fun j'=>if j'=j then v else f j'):=by
  apply List.ext_getElem (by simp[rowF])
  intro i h1 h2
  have hi:i < n:=by rw[rowF_len] at h2;exact h2
  rw[List.getElem_set]
  by_cases e:j=i
  · subst e;simp[rowF]
  · rw[if_neg e];simp only[rowF,List.getElem_map,List.getElem_range];rw[if_neg (fun z=>e z.symm)]
theorem mk_set {n i j:Nat} {f:Nat->Nat->Int} {v:Int} (hi:i < n) (hj:j < n):(mk n f).set i ((Jb (mk n f) (i:Int)).set j v)=mk n (fun i' j'=>if i'=i/\j'=j then v else f i' j'):=by
  rw[mk_get hi,rowF_set hj]
  apply List.ext_getElem (by simp[mk])
  intro a h1 h2
  have ha:a < n:=by rw[mk_len] at h2;exact h2
  rw[List.getElem_set]
  by_cases e:i=a
  · subst e
    rw[if_pos rfl]
    simp only[mk,List.getElem_map,List.getElem_range]
    exact rowF_congr (fun j' _=>by simp)
  · rw[if_neg e]
    simp only[mk,List.getElem_map,List.getElem_range]
    exact rowF_congr (fun j' _=>by rw[if_neg (fun z=>e z.1.symm)])
theorem icopy {c:List Int} {d:List (List Int)} (h:BookP c d):Ev (fun k=>Fo.f k c d) (c,d):=by
  have h4:=h.2.1
  have hdl:=h.2.2.1
  unfold Fo.f
  refine evBind0 rfl (evPos (by simp only[List.length_nil];omega) ?_)
  rw[List.nil_append]
  have key:∀(e i:Nat),d.length - i=e->i<=d.length->Ev (fun k=>Fo.l0 k d (d.length:Int) (i:Int) c (d.take i)) (c,d):=by
    intro e
    induction e with
    | zero=>
      intro i he hi
      obtain rfl:i=d.length:=by omega
      refine Ev.step (fun k=>by rw[Fo.l0]) ?_
      rw[List.take_length]
      exact evNeg (by omega) (Ev.now _)
    | succ e ih=>
      intro i he hi
      have hlt:i < d.length:=by omega
      have hr:=(h.2.2.2 i (by omega)).2.2.1
      have hs:Gx (wrap64 ((i:Int) + 1)=((i + 1:Nat):Int)):=⟨wsucc hlt (by omega)⟩
      have htl:(d.take i).length=i:=by rw[List.length_take];omega
      have e2:d.take i ++ [Jb d (i:Int)]=d.take (i + 1):=by
        rw[rL,List.getD_eq_getElem?_getD,List.getElem?_eq_getElem hlt,List.take_succ_eq_append_getElem hlt];rfl
      refine Ev.step (fun k=>by rw[Fo.l0]) ?_
      rw[hs.out]
      refine evPos (by omega) (evPos (by omega) (evPos (by omega) (evBind0 rfl (evPos (by simp only[List.length_nil];omega) (evPos (by omega) ?_)))))
      rw[List.nil_append,e2]
      exact ih (i + 1) (by omega) (by omega)
  exact key d.length 0 rfl (by omega)
theorem scopy {c:List Int} {d:List (List Int)} (h:BookP c d):Ev (fun k=>Fv.f k c d) (c,d):=by
  have h4:=h.2.1
  have hdl:=h.2.2.1
  unfold Fv.f
  refine evBind0 rfl (evPos (by simp only[List.length_nil];omega) ?_)
  rw[List.nil_append]
  have key:∀(e i:Nat),d.length - i=e->i<=d.length->Ev (fun k=>Fv.l0 k (i:Int) c d c (d.take i)) (c,d):=by
    intro e
    induction e with
    | zero=>
      intro i he hi
      obtain rfl:i=d.length:=by omega
      refine Ev.step (fun k=>by rw[Fv.l0]) ?_
      rw[List.take_length]
      exact evNeg (by omega) (Ev.now _)
    | succ e ih=>
      intro i he hi
      have hlt:i < d.length:=by omega
      have hr:=(h.2.2.2 i (by omega)).2.2.1
      have hs:Gx (wrap64 ((i:Int) + 1)=((i + 1:Nat):Int)):=⟨wsucc hlt (by omega)⟩
      have htl:(d.take i).length=i:=by rw[List.length_take];omega
      have e2:d.take i ++ [Jb d (i:Int)]=d.take (i + 1):=by
        rw[rL,List.getD_eq_getElem?_getD,List.getElem?_eq_getElem hlt,List.take_succ_eq_append_getElem hlt];rfl
      refine Ev.step (fun k=>by rw[Fv.l0]) ?_
      rw[hs.out]
      refine evPos (by omega) (evBind0 rfl (evPos (by omega) (evPos (by simp only[List.length_nil];omega) (evPos (by omega) ?_))))
      rw[List.nil_append,e2]
      exact ih (i + 1) (by omega) (by omega)
  exact key d.length 0 rfl (by omega)
theorem sameI_l (l:List Int) (hl:l.length<=4611686018427387904):∀(e i:Nat),l.length - i=e->i<=l.length->Ev (fun k=>F7.l0 k l l (i:Int)) true:=by
  intro e
  induction e with
  | zero=>
    intro i he hi
    refine Ev.step (fun k=>by rw[F7.l0]) ?_
    exact evNeg (by omega) (Ev.now _)
  | succ e ih=>
    intro i he hi
    have hlt:i < l.length:=by omega
    have hs:wrap64 ((i:Int) + 1)=((i + 1:Nat):Int):=wsucc hlt hl
    refine Ev.step (fun k=>by rw[F7.l0]) ?_
    refine evPos (by omega) (evPos (by omega) (evPos (by omega) (evPos rfl ?_)))
    rw[hs]
    exact ih (i + 1) (by omega) (by omega)
theorem sameI (l:List Int) (hl:l.length<=4611686018427387904):Ev (fun k=>F7.f k l l) true:=by
  unfold F7.f
  exact evPos rfl (sameI_l l hl _ 0 rfl (by omega))
theorem sameR_l (l:List (List Int)) (hl:l.length<=4611686018427387904) (hr:∀i:Nat,i < l.length->(Jb l (i:Int)).length<=4611686018427387904):∀(e i:Nat),l.length - i=e->i<=l.length->Ev (fun k=>Gg.l0 k l l (i:Int)) true:=by
  intro e
  induction e with
  | zero=>
    intro i he hi
    refine Ev.step (fun k=>by rw[Gg.l0]) ?_
    exact evNeg (by omega) (Ev.now _)
  | succ e ih=>
    intro i he hi
    have hlt:i < l.length:=by omega
    have hs:wrap64 ((i:Int) + 1)=((i + 1:Nat):Int):=wsucc hlt hl
    refine Ev.step (fun k=>by rw[Gg.l0]) ?_
    refine evPos (by omega) (evPos (by omega) (evPos (by omega) (Ev.bind (sameI _ (hr i hlt)) (evPos rfl ?_))))
    rw[hs]
    exact ih (i + 1) (by omega) (by omega)
theorem sameB (c:List Int) (l:List (List Int)) (hc:c.length<=4611686018427387904) (hl:l.length<=4611686018427387904) (hr:∀i:Nat,i < l.length->(Jb l (i:Int)).length<=4611686018427387904):Ev (fun k=>Gl.f k c l c l) true:=by
  unfold Gl.f
  refine Ev.bind (sameI c hc) (evPos rfl (Ev.bind ?_ (Ev.now _)))
  unfold Gg.f
  exact evPos rfl (sameR_l l hl hr _ 0 rfl (by omega))
theorem sameOk {c:List Int} {d:List (List Int)} (h:BookP c d):Ev (fun k=>Gl.f k c d c d) true:=by
  have h4:=h.2.1
  have hdl:=h.2.2.1
  exact sameB c d (by omega) (by omega) (fun i hi=>by have:=(h.2.2.2 i (by omega)).2.2.1;omega)
end Go.Proofs.Ytfooakkhkehpiaa.Mx
namespace Go.Proofs.Ytfooakkhkehpiaa.Cr
open Go.RowKit Go.Proofs.Ytfooakkhkehpiaa.PU Go.Proofs.Ytfooakkhkehpiaa.Qh Go.Proofs.Ytfooakkhkehpiaa.Bk Go.Proofs.Ytfooakkhkehpiaa.Mx Go.Proofs.YtfooakkhkehpiaaW.PrintWords Go.Proofs.YtfooakkhkehpiaaW.PrintMore
set_option linter.unusedVariables false
set_option linter.unusedSimpArgs false
theorem wpred {n:Nat} (h:0 < n) (hn:n<=4611686018427387904):wrap64 ((n:Int) - 1)=((n - 1:Nat):Int):=by rw[w64 (by omega) (by omega)];omega
def la (p:List Int):Int:=rd p ((p.length - 1:Nat):Int)
def self (d:List (List Int)) (p:List Int):List (List Int):=if 1 < p.length/\0 < rd (Jb d (la p)) (rd p 0) then[p] else[]
def rest (F:List Int->List (List Int)) (d:List (List Int)) (p:List Int):Nat->Nat->List (List Int)
  | 0,_=>[]
  | e + 1,j=>(if rd (Jb d (la p)) (j:Int)=0 ∨ (j:Int) ∈ p then[] else F (p ++ [(j:Int)])) ++ rest F d p e (j + 1)
def P (n:Nat) (d:List (List Int)):Nat->List Int->List (List Int)
  | 0,_=>[]
  | m + 1,p=>self d p ++ rest (P n d m) d p (n - ((rd p 0).toNat + 1)) ((rd p 0).toNat + 1)
def PathP (n:Nat) (d:List (List Int)) (p:List Int):Prop:=
  0 < p.length/\p.Nodup/\(∀x ∈ p,rd p 0<=x/\0<=x/\x < (n:Int))/\∀i:Nat,i + 1 < p.length->0 < rd (Jb d (rd p (i:Int))) (rd p ((i + 1:Nat):Int))
theorem pigeon:∀(n:Nat) (p:List Int),p.Nodup->(∀x ∈ p,0<=x/\x < (n:Int))->p.length<=n
  | 0,p,_,h=>by
    cases p with
    | nil=>simp
    | cons a r=>have:=h a List.mem_cons_self;omega
  | n + 1,p,hd,h=>by
    by_cases hm:(n:Int) ∈ p
    · have h1:=pigeon n (p.erase (n:Int)) (hd.erase _) (fun x hx=>by
        have h2:=h x (List.mem_of_mem_erase hx)
        have h3:x≠(n:Int):=(List.Nodup.mem_erase_iff hd).1 hx |>.1
        omega)
      have h2:=List.length_erase_of_mem hm
      omega
    · have h1:=pigeon n p hd (fun x hx=>by
        have h2:=h x hx
        have h3:x≠(n:Int):=fun e=>hm (e ▸ hx)
        omega)
      omega
theorem rd_mem {p:List Int} {i:Nat} (h:i < p.length):rd p (i:Int) ∈ p:=by rw[rd_get p i h];exact List.getElem_mem h
theorem mem_rd {p:List Int} {x:Int} (h:x ∈ p):∃i:Nat,i < p.length/\rd p (i:Int)=x:=by
  obtain⟨i,hi,e⟩:=List.mem_iff_getElem.mp h
  exact⟨i,hi,by rw[rd_get p i hi];exact e⟩
theorem rd0 (p:List Int):rd p 0=rd p ((0:Nat):Int):=rfl
theorem la_mem {p:List Int} (h:0 < p.length):la p ∈ p:=rd_mem (by omega)
section
variable {n:Nat} {d:List (List Int)} {p:List Int}
theorem PathP.len (h:PathP n d p):p.length<=n:=pigeon n p h.2.1 (fun x hx=>(h.2.2.1 x hx).2)
theorem PathP.head (h:PathP n d p):0<=rd p 0/\rd p 0 < (n:Int):=by
  have:=h.2.2.1 (rd p 0) (by rw[rd0];exact rd_mem h.1)
  exact⟨this.2.1,this.2.2⟩
theorem PathP.last (h:PathP n d p):0<=la p/\la p < (n:Int):=by
  have:=h.2.2.1 (la p) (la_mem h.1)
  exact⟨this.2.1,this.2.2⟩
theorem PathP.one {i:Nat} (hi:i < n):PathP n d [(i:Int)]:=
  ⟨by simp,by simp,fun x hx=>by rw[List.mem_singleton.1 hx];exact⟨Int.le_refl _,by omega,by omega⟩,fun k hk=>by simp at hk⟩
theorem PathP.snoc (h:PathP n d p) {j:Nat} (hj:rd p 0 < (j:Int)) (hn:j < n) (hm:(j:Int) ∉ p) (he:0 < rd (Jb d (la p)) (j:Int)):PathP n d (p ++ [(j:Int)]):=by
  have h0:rd (p ++ [(j:Int)]) 0=rd p 0:=by rw[rd0,rd_app,if_pos h.1];rfl
  refine⟨by simp,?_,fun x hx=>?_,fun i hi=>?_⟩
  · rw[List.nodup_append]
    exact⟨h.2.1,by simp,fun a ha b hb e=>hm (by rw[List.mem_singleton.1 hb] at e;exact e ▸ ha)⟩
  · rw[h0]
    rcases List.mem_append.1 hx with hx|hx
    · exact h.2.2.1 x hx
    · rw[List.mem_singleton.1 hx];exact⟨by omega,by omega,by omega⟩
  · rw[List.length_append,List.length_singleton] at hi
    rw[rd_app,rd_app,if_pos (by omega)]
    by_cases hl:i + 1 < p.length
    · rw[if_pos hl];exact h.2.2.2 i hl
    · rw[if_neg hl,if_pos (by omega)]
      have:i=p.length - 1:=by omega
      rw[this]
      exact he
end
def CirP (n:Nat) (d:List (List Int)) (q:List Int):Prop:=PathP n d q/\1 < q.length/\0 < rd (Jb d (la q)) (rd q 0)
theorem mem_rest {F:List Int->List (List Int)} {d:List (List Int)} {p:List Int} {y:List Int}:∀(e j:Nat),y ∈ rest F d p e j->∃j':Nat,j<=j'/\j' < j + e/\rd (Jb d (la p)) (j':Int)≠0/\(j':Int) ∉ p/\y ∈ F (p ++ [(j':Int)])
  | 0,j,h=>by simp[rest] at h
  | e + 1,j,h=>by
    rw[rest] at h
    rcases List.mem_append.1 h with h|h
    · by_cases hc:rd (Jb d (la p)) (j:Int)=0 ∨ (j:Int) ∈ p
      · rw[if_pos hc] at h;simp at h
      · rw[if_neg hc] at h
        exact⟨j,by omega,by omega,fun z=>hc (.inl z),fun z=>hc (.inr z),h⟩
    · obtain⟨j',h1,h2,h3⟩:=mem_rest e (j + 1) h
      exact⟨j',by omega,by omega,h3⟩
theorem row_ge {c:List Int} {d:List (List Int)} (h:BookP c d) {i j:Int} (hi:0<=i/\i < (c.length:Int)) (hj:0<=j/\j < (c.length:Int)):0<=rd (Jb d i) j/\rd (Jb d i) j<=9:=by
  obtain⟨i,rfl⟩:=Int.eq_ofNat_of_zero_le hi.1
  obtain⟨j,rfl⟩:=Int.eq_ofNat_of_zero_le hj.1
  exact(h.2.2.2 i (by omega)).2.2.2.2 j (by omega)
theorem row_len {c:List Int} {d:List (List Int)} (h:BookP c d) {i:Int} (hi:0<=i/\i < (c.length:Int)):(Jb d i).length=c.length:=by
  obtain⟨i,rfl⟩:=Int.eq_ofNat_of_zero_le hi.1
  exact(h.2.2.2 i (by omega)).2.2.1
theorem mem_P {c:List Int} {d:List (List Int)} (h:BookP c d) {y:List Int}:∀(m:Nat) (p:List Int),PathP c.length d p->y ∈ P c.length d m p->CirP c.length d y
  | 0,p,_,hy=>by simp[P] at hy
  | m + 1,p,hp,hy=>by
    rw[P] at hy
    rcases List.mem_append.1 hy with hy|hy
    · unfold self at hy
      by_cases hc:1 < p.length/\0 < rd (Jb d (la p)) (rd p 0)
      · rw[if_pos hc] at hy
        rw[List.mem_singleton.1 hy]
        exact⟨hp,hc.1,hc.2⟩
      · rw[if_neg hc] at hy;simp at hy
    · obtain⟨j,h1,h2,h3,h4,h5⟩:=mem_rest _ _ hy
      have hh:=hp.head
      have hjn:j < c.length:=by omega
      have hge:=row_ge h hp.last (j:=(j:Int)) ⟨by omega,by omega⟩
      exact mem_P h m _ (hp.snoc (by omega) hjn h4 (by omega)) h5
theorem rest_len {F:List Int->List (List Int)} {d:List (List Int)} {p:List Int} {B:Nat} (hF:∀q,(F q).length<=B):∀(e j:Nat),(rest F d p e j).length<=e * B
  | 0,j=>by simp[rest]
  | e + 1,j=>by
    have ih:=rest_len hF (d:=d) (p:=p) e (j + 1)
    rw[rest,List.length_append,Nat.succ_mul]
    have:(if rd (Jb d (la p)) (j:Int)=0 ∨ (j:Int) ∈ p then[] else F (p ++ [(j:Int)])).length<=B:=by
      split
      · simp
      · exact hF _
    omega
theorem P_len {n:Nat} (hn:n<=4) (d:List (List Int)):∀(m:Nat) (p:List Int),(P n d m p).length<=5 ^ m
  | 0,p=>by simp[P]
  | m + 1,p=>by
    have h1:=rest_len (P_len hn d m) (d:=d) (p:=p) (n - ((rd p 0).toNat + 1)) ((rd p 0).toNat + 1)
    have h2:(self d p).length<=1:=by unfold self;split <;> simp
    have h3:(n - ((rd p 0).toNat + 1)) * 5 ^ m<=4 * 5 ^ m:=Nat.mul_le_mul_right _ (by omega)
    have h4:1<=5 ^ m:=Nat.one_le_pow _ _ (by omega)
    rw[P,List.length_append,Nat.pow_succ]
    omega
theorem inL (p:List Int) (j:Int) (i:Nat) (h:∀i':Nat,i' < i->rd p (i':Int)≠j) (hi:p.length<=i):j ∉ p:=fun hm=>by
  obtain⟨k,hk,e⟩:=mem_rd hm
  exact h k (by omega) e
section
variable {c:List Int} {d:List (List Int)}
theorem paths (h:BookP c d):∀(m:Nat) (p:List Int),PathP c.length d p->c.length + 1<=m + p.length->m<=4->Ev (fun k=>Fb.f k c d p) (P c.length d m p)
  | 0,p,hp,hm,_=>by have:=hp.len;omega
  | m + 1,p,hp,hm,hm4=>by
    have h4:=h.2.1
    have hdl:=h.2.2.1
    have hpl:=hp.len
    have hp0:=hp.1
    have hh:=hp.head
    have hl:=hp.last
    have hrl:=row_len h hl
    have hlw:Gx (wrap64 ((p.length:Int) - 1)=((p.length - 1:Nat):Int)):=⟨wpred hp0 (by omega)⟩
    have hla:rd p ((p.length - 1:Nat):Int)=la p:=rfl
    have h5:5 ^ m<=125:=by
      have:m<=3:=by omega
      calc 5 ^ m<=5 ^ 3:=Nat.pow_le_pow_right (by omega) this
        _=125:=rfl
    obtain⟨a,ha⟩:=Int.eq_ofNat_of_zero_le hh.1
    have haw:Gx (wrap64 (rd p 0 + 1)=((a + 1:Nat):Int)):=⟨by rw[ha];exact wsucc (n:=c.length) (by omega) (by omega)⟩
-- the banks that may follow
    have loop:∀(e j:Nat) (acc:List (List Int)),c.length - j=e->j<=c.length->a < j->acc.length + e * 5 ^ m<=1000->Ev (fun k=>Fb.l0 k p acc (la p) (j:Int) c d) (acc ++ rest (P c.length d m) d p e j):=by
      intro e
      induction e with
      | zero=>
        intro j acc he hj _ _
        refine Ev.step (fun k=>by rw[Fb.l0]) ?_
        exact evNeg (by omega) (evEq (Ev.now _) (by simp[rest]))
      | succ e ih=>
        intro j acc he hj haj hacc
        have hlt:j < c.length:=by omega
        have hj1:Gx (wrap64 ((j:Int) + 1)=((j + 1:Nat):Int)):=⟨wsucc hlt (by omega)⟩
        have hmul:acc.length + (e * 5 ^ m + 5 ^ m)<=1000:=by have z:=hacc;rw[Nat.succ_mul] at z;exact z
        have h1p:1<=5 ^ m:=Nat.one_le_pow _ _ (by omega)
        refine Ev.step (fun k=>by rw[Fb.l0]) ?_
        rw[hj1.out]
        refine evPos (by omega) (evPos hl.1 (evPos (by omega) (evPos (by omega) (evPos (by omega) ?_))))
        by_cases hz:rd (Jb d (la p)) (j:Int)=0
        · refine evPos hz (evEq (ih (j + 1) acc (by omega) (by omega) (by omega) (by omega)) ?_)
          rw[rest,if_pos (.inl hz),List.nil_append]
        · refine evNeg hz ?_
          have inner:∀(f i:Nat),p.length - i=f->i<=p.length->(∀i':Nat,i' < i->rd p (i':Int)≠(j:Int))->Ev (fun k=>Fb.l1 k p acc (la p) (j:Int) (i:Int) c d) (acc ++ rest (P c.length d m) d p (e + 1) j):=by
            intro f
            induction f with
            | zero=>
              intro i hf hi hno
              have hmem:=inL p (j:Int) i hno (by omega)
              have hge:=row_ge h hl (j:=(j:Int)) ⟨by omega,by omega⟩
              have hps:=hp.snoc (j:=j) (by omega) hlt hmem (by omega)
              refine Ev.step (fun k=>by rw[Fb.l1]) ?_
              rw[hj1.out]
              refine evNeg (by omega) (evBind0 rfl (evPos (by simp;omega) (evBind0 rfl (evBind0 rfl (evPos (by simp;omega) ?_)))))
              rw[List.nil_append]
              have hlen:(p ++ [(j:Int)]).length=p.length + 1:=by simp
              have hPl:=P_len h4 d m (p ++ [(j:Int)])
              refine Ev.bind (paths h m _ hps (by omega) (by omega)) (evPos (by omega) ?_)
              refine evEq (ih (j + 1) _ (by omega) (by omega) (by omega) (by rw[List.length_append];omega)) ?_
              rw[rest,if_neg (fun z=>z.elim hz hmem),List.append_assoc]
            | succ f ih2=>
              intro i hf hi hno
              have hi1:Gx (wrap64 ((i:Int) + 1)=((i + 1:Nat):Int)):=⟨wsucc (n:=p.length) (by omega) (by omega)⟩
              refine Ev.step (fun k=>by rw[Fb.l1]) ?_
              rw[hj1.out,hi1.out]
              refine evPos (by omega) (evPos (by omega) ?_)
              by_cases hij:rd p (i:Int)=(j:Int)
              · refine evPos hij (evEq (ih (j + 1) acc (by omega) (by omega) (by omega) (by omega)) ?_)
                rw[rest,if_pos (.inr (hij ▸ rd_mem (by omega))),List.nil_append]
              · refine evNeg hij (ih2 (i + 1) (by omega) (by omega) (fun i' hi'=>?_))
                by_cases e':i'=i
                · subst e';exact hij
                · exact hno i' (by omega)
          exact inner p.length 0 rfl (by omega) (fun i' hi'=>by omega)
    have ha':(rd p 0).toNat=a:=by rw[ha];rfl
    have he4:(c.length - (a + 1)) * 5 ^ m<=3 * 5 ^ m:=Nat.mul_le_mul_right _ (by omega)
    have tail:∀acc:List (List Int),acc.length<=1->Ev (fun k=>Fb.j1 k p acc (la p) c d) (acc ++ rest (P c.length d m) d p (c.length - ((rd p 0).toNat + 1)) ((rd p 0).toNat + 1)):=by
      intro acc hacc
      refine Ev.step (fun k=>by rw[Fb.j1]) ?_
      rw[haw.out,ha']
      refine evPos (by omega) (loop _ (a + 1) acc rfl (by omega) (by omega) (by omega))
    refine Ev.step (fun k=>by rw[Fb.f]) ?_
    rw[hlw.out,hla]
    refine evBind0 rfl (evPos (by omega) (evPos (by omega) ?_))
    rw[P]
    by_cases h1:1 < p.length
    · refine evPos (by omega) (evPos hl.1 (evPos (by omega) (evPos (by omega) (evPos hh.1 (evPos (by omega) ?_)))))
      refine Ev.step (fun k=>by rw[Fb.j0]) ?_
      by_cases hc:0 < rd (Jb d (la p)) (rd p 0)
      · refine evPos (decide_eq_true (by omega)) (evBind0 rfl (evPos (by simp;omega) (evBind0 rfl (evPos (by simp) ?_))))
        rw[List.nil_append,List.nil_append]
        have:self d p=[p]:=if_pos ⟨h1,hc⟩
        rw[this]
        exact tail [p] (by simp)
      · refine evNeg (by simpa using hc) ?_
        have:self d p=[]:=if_neg (fun z=>hc z.2)
        rw[this]
        exact tail [] (by simp)
    · refine evNeg (by omega) ?_
      refine Ev.step (fun k=>by rw[Fb.j0]) ?_
      refine evNeg (by decide) ?_
      have:self d p=[]:=if_neg (fun z=>h1 z.1)
      rw[this]
      exact tail [] (by simp)
end
def lexlt:List Int->List Int->Bool
  | a :: r,b :: s=>if a=b then lexlt r s else decide (a < b)
  | _,_=>false
def bef (a b:List Int):Bool:=if a.length=b.length then lexlt a b else decide (a.length < b.length)
theorem before (a b:List Int) (ha:a.length<=4611686018427387904):Ev (fun k=>Ga.f k a b) (bef a b):=by
  unfold Ga.f bef
  by_cases hl:a.length=b.length
  · rw[if_pos hl]
    refine evPos (by omega) ?_
    have key:∀(e i:Nat),a.length - i=e->i<=a.length->Ev (fun k=>Ga.l0 k a b (i:Int)) (lexlt (a.drop i) (b.drop i)):=by
      intro e
      induction e with
      | zero=>
        intro i he hi
        refine Ev.step (fun k=>by rw[Ga.l0]) ?_
        rw[List.drop_of_length_le (by omega)]
        exact evNeg (by omega) (evEq (Ev.now _) (by simp[lexlt]))
      | succ e ih=>
        intro i he hi
        have hi1:Gx (wrap64 ((i:Int) + 1)=((i + 1:Nat):Int)):=⟨wsucc (n:=a.length) (by omega) ha⟩
        refine Ev.step (fun k=>by rw[Ga.l0]) ?_
        rw[hi1.out]
        refine evPos (by omega) (evPos (by omega) (evPos (by omega) ?_))
        rw[drop_rd a i (by omega),drop_rd b i (by omega),lexlt]
        by_cases hc:rd a (i:Int)=rd b (i:Int)
        · rw[if_pos hc];exact evPos hc (ih (i + 1) (by omega) (by omega))
        · rw[if_neg hc];exact evNeg hc (Ev.now _)
    have:=key a.length 0 rfl (by omega)
    simpa using this
  · rw[if_neg hl]
    refine evNeg (by omega) (evEq (Ev.now _) ?_)
    rw[decide_eq_decide];omega
def ins (lt:List Int->List Int->Bool):Nat->List (List Int)->List (List Int)
  | 0,xs=>xs
  | j + 1,xs=>if lt (xs.getD (j + 1) []) (xs.getD j [])=true then ins lt j ((xs.set (j + 1) (xs.getD j [])).set j (xs.getD (j + 1) [])) else xs
def srt (lt:List Int->List Int->Bool):Nat->Nat->List (List Int)->List (List Int)
  | 0,_,xs=>xs
  | e + 1,i,xs=>srt lt e (i + 1) (ins lt i xs)
theorem ins_len (lt:List Int->List Int->Bool):∀(j:Nat) (xs:List (List Int)),(ins lt j xs).length=xs.length
  | 0,xs=>rfl
  | j + 1,xs=>by
    rw[ins];split
    · rw[ins_len];simp
    · rfl
theorem ins_mem (lt:List Int->List Int->Bool) {y:List Int}:∀(j:Nat) (xs:List (List Int)),j < xs.length->y ∈ ins lt j xs->y ∈ xs
  | 0,xs,_,h=>h
  | j + 1,xs,hj,h=>by
    rw[ins] at h;split at h
    · have h1:=ins_mem lt j _ (by simp;omega) h
      rcases List.mem_or_eq_of_mem_set h1 with h2|h2
      · rcases List.mem_or_eq_of_mem_set h2 with h3|h3
        · exact h3
        · rw[h3];exact getD_mem [] xs j (by omega)
      · rw[h2];exact getD_mem [] xs (j + 1) hj
    · exact h
theorem srt_len (lt:List Int->List Int->Bool):∀(e i:Nat) (xs:List (List Int)),(srt lt e i xs).length=xs.length
  | 0,_,xs=>rfl
  | e + 1,i,xs=>by rw[srt,srt_len,ins_len]
theorem srt_mem (lt:List Int->List Int->Bool) {y:List Int}:∀(e i:Nat) (xs:List (List Int)),i + e<=xs.length->y ∈ srt lt e i xs->y ∈ xs
  | 0,_,xs,_,h=>h
  | e + 1,i,xs,hi,h=>by
    rw[srt] at h
    exact ins_mem lt i xs (by omega) (srt_mem lt e (i + 1) _ (by rw[ins_len];omega) h)
def found (n:Nat) (d:List (List Int)):Nat->Nat->List (List Int)
  | 0,_=>[]
  | e + 1,i=>P n d 4 [(i:Int)] ++ found n d e (i + 1)
theorem found_len {n:Nat} (hn:n<=4) (d:List (List Int)):∀(e i:Nat),(found n d e i).length<=e * 625
  | 0,i=>by simp[found]
  | e + 1,i=>by
    have h1:=P_len hn d 4 [(i:Int)]
    have h2:=found_len hn d e (i + 1)
    rw[found,List.length_append,Nat.succ_mul];omega
def circ (c:List Int) (d:List (List Int)):List (List Int):=srt bef ((found c.length d c.length 0).length - 1) 1 (found c.length d c.length 0)
section
variable {c:List Int} {d:List (List Int)}
theorem mem_found (h:BookP c d) {y:List Int}:∀(e i:Nat),i + e=c.length->y ∈ found c.length d e i->CirP c.length d y
  | 0,i,_,hy=>by simp[found] at hy
  | e + 1,i,hi,hy=>by
    rw[found] at hy
    rcases List.mem_append.1 hy with hy|hy
    · exact mem_P h 4 _ (PathP.one (by omega)) hy
    · exact mem_found h e (i + 1) (by omega) hy
theorem circ_len (c:List Int) (d:List (List Int)):(circ c d).length=(found c.length d c.length 0).length:=srt_len _ _ _ _
theorem mem_circ (h:BookP c d) {y:List Int} (hy:y ∈ circ c d):CirP c.length d y:=by
  by_cases h0:(found c.length d c.length 0).length=0
  · have:=circ_len c d
    rw[h0,List.length_eq_zero_iff] at this
    rw[this] at hy;simp at hy
  · exact mem_found h c.length 0 (by omega) (srt_mem bef _ 1 _ (by omega) hy)
theorem sort_l2 {r:List (List Int)} (n:Nat) (hn:n<=100000) (x5:Int) (hrow:Nat) (hr4:hrow<=4611686018427387904):∀(j:Nat) (xs:List (List Int)),j < xs.length->xs.length=n->(∀y ∈ xs,y.length<=hrow) ->
    Ev (fun k=>Fg.l1 k (ins bef j xs) (wrap64 (x5 + 1))) r->Ev (fun k=>Fg.l2 k xs x5 (j:Int)) r
  | 0,xs,hj,hxn,hrw,hR=>by
    refine Ev.step (fun k=>by rw[Fg.l2]) ?_
    exact evNeg (by omega) hR
  | j + 1,xs,hj,hxn,hrw,hR=>by
    have hj1:Gx (wrap64 (((j + 1:Nat):Int) - 1)=(j:Int)):=⟨by rw[w64 (by omega) (by omega)];omega⟩
    refine Ev.step (fun k=>by rw[Fg.l2]) ?_
    rw[hj1.out]
    refine evPos (by omega) (evPos (by omega) (evPos (by omega) (evPos (by omega) (evPos (by omega) ?_))))
    have e1:Jb xs ((j + 1:Nat):Int)=xs.getD (j + 1) []:=rfl
    have e2:Jb xs (j:Int)=xs.getD j []:=rfl
    rw[e1,e2]
    have m1:=hrw _ (getD_mem [] xs (j + 1) hj)
    have m2:=hrw _ (getD_mem [] xs j (by omega))
    refine Ev.bind (before _ _ (by omega)) ?_
    rw[ins] at hR
    by_cases hb:bef (xs.getD (j + 1) []) (xs.getD j [])=true
    · rw[if_pos hb] at hR
      refine evPos hb ?_
      refine sort_l2 n hn x5 hrow hr4 j _ (by simp;omega) (by simp[hxn]) (fun y hy=>?_) hR
      rcases List.mem_or_eq_of_mem_set hy with h2|h2
      · rcases List.mem_or_eq_of_mem_set h2 with h3|h3
        · exact hrw y h3
        · rw[h3];exact m2
      · rw[h2];exact m1
    · rw[if_neg hb] at hR
      exact evNeg hb hR
theorem sort_l1 (n:Nat) (hn:n<=100000) (hrow:Nat) (hr4:hrow<=4611686018427387904):∀(e i:Nat) (xs:List (List Int)),xs.length=n->n - i=e->(∀y ∈ xs,y.length<=hrow)->Ev (fun k=>Fg.l1 k xs (i:Int)) (srt bef e i xs)
  | 0,i,xs,hxn,he,hrw=>by
    refine Ev.step (fun k=>by rw[Fg.l1]) ?_
    exact evNeg (by omega) (Ev.now _)
  | e + 1,i,xs,hxn,he,hrw=>by
    have hi1:wrap64 ((i:Int) + 1)=((i + 1:Nat):Int):=wsucc (n:=n) (by omega) (by omega)
    refine Ev.step (fun k=>by rw[Fg.l1]) ?_
    refine evPos (by omega) ?_
    refine sort_l2 n hn (i:Int) hrow hr4 i xs (by omega) hxn hrw ?_
    rw[hi1,srt]
    exact sort_l1 n hn hrow hr4 e (i + 1) _ (by rw[ins_len,hxn]) (by omega) (fun y hy=>hrw y (ins_mem bef i xs (by omega) hy))
theorem sCircles (h:BookP c d):Ev (fun k=>Fg.f k c d) (circ c d):=by
  have h4:=h.2.1
  unfold Fg.f circ
  have key:∀(e i:Nat) (acc:List (List Int)),c.length - i=e->i<=c.length->acc.length<=i * 625->acc ++ found c.length d e i=found c.length d c.length 0->Ev (fun k=>Fg.l0 k acc (i:Int) c d) (srt bef ((found c.length d c.length 0).length - 1) 1 (found c.length d c.length 0)):=by
    intro e
    induction e with
    | zero=>
      intro i acc he hi hacc hE
      refine Ev.step (fun k=>by rw[Fg.l0]) ?_
      refine evNeg (by omega) (Ev.step (fun k=>by rw[Fg.j1]) ?_)
      rw[found,List.append_nil] at hE
      have hfl:=found_len h4 d c.length 0
      rw[hE]
      exact sort_l1 (found c.length d c.length 0).length (by omega) c.length (by omega) _ 1 _ rfl rfl (fun y hy=>(mem_found h c.length 0 (by omega) hy).1.len)
    | succ e ih=>
      intro i acc he hi hacc hE
      have hlt:i < c.length:=by omega
      have hi1:Gx (wrap64 ((i:Int) + 1)=((i + 1:Nat):Int)):=⟨wsucc hlt (by omega)⟩
      have hPl:=P_len h4 d 4 [(i:Int)]
      refine Ev.step (fun k=>by rw[Fg.l0]) ?_
      rw[hi1.out]
      refine evPos (by omega) (Ev.bind ((bookOk c d).yes h) (evPos rfl (Ev.bind (paths h 4 _ (PathP.one hlt) (by simp;omega) (by omega)) (evPos (by omega) ?_))))
      refine ih (i + 1) _ (by omega) (by omega) (by rw[List.length_append,Nat.succ_mul];omega) ?_
      rw[List.append_assoc]
      rw[found] at hE
      exact hE
  exact key c.length 0 [] rfl (by omega) (by simp) (by simp)
end
end Go.Proofs.Ytfooakkhkehpiaa.Cr
namespace Go.Proofs.Ytfooakkhkehpiaa.Sk
open Go.RowKit Go.Proofs.Ytfooakkhkehpiaa.PU Go.Proofs.Ytfooakkhkehpiaa.Qh Go.Proofs.Ytfooakkhkehpiaa.Bk Go.Proofs.Ytfooakkhkehpiaa.Mx Go.Proofs.Ytfooakkhkehpiaa.Cr Go.Proofs.YtfooakkhkehpiaaW.PrintWords Go.Proofs.YtfooakkhkehpiaaW.PrintMore
set_option linter.unusedVariables false
set_option linter.unusedSimpArgs false
theorem mn_le (a b:Int):mn a b<=a/\mn a b<=b/\(mn a b=a ∨ mn a b=b):=by
  unfold mn
  split <;> omega
def nx (q:List Int) (k:Nat):Nat:=(k + 1) % q.length
def edge (d:List (List Int)) (q:List Int) (k:Nat):Int:=rd (Jb d (rd q (k:Int))) (rd q ((nx q k:Nat):Int))
def low (d:List (List Int)) (q:List Int):Nat->Nat->Int->Int
  | 0,_,x=>x
  | e + 1,k,x=>low d q e (k + 1) (mn x (edge d q k))
theorem low_le (d:List (List Int)) (q:List Int):∀(e k:Nat) (x:Int),low d q e k x<=x/\(∀i,k<=i->i < k + e->low d q e k x<=edge d q i)/\(low d q e k x=x ∨ ∃i,k<=i/\i < k + e/\low d q e k x=edge d q i)
  | 0,k,x=>⟨Int.le_refl _,fun i _ _=>by omega, .inl rfl⟩
  | e + 1,k,x=>by
    obtain⟨h1,h2,h3⟩:=low_le d q e (k + 1) (mn x (edge d q k))
    obtain⟨m1,m2,m3⟩:=mn_le x (edge d q k)
    refine⟨by rw[low];omega,fun i hi hi2=>?_,?_⟩
    · rw[low]
      by_cases e':i=k
      · subst e';omega
      · exact h2 i (by omega) (by omega)
    · rw[low]
      rcases h3 with h3 | ⟨i,i1,i2,i3⟩
      · rcases m3 with m3|m3
        · left;omega
        · right;exact⟨k,by omega,by omega,by omega⟩
      · right;exact⟨i,by omega,by omega,i3⟩
def lowest (d:List (List Int)) (q:List Int):Int:=low d q q.length 0 9
def hit (q:List Int) (k i j:Nat):Bool:=(List.range k).any (fun k'=>decide (rd q (k':Int)=(i:Int)/\rd q ((nx q k':Nat):Int)=(j:Int)))
theorem hit_iff {q:List Int} {k i j:Nat}:hit q k i j=true ↔ ∃k',k' < k/\rd q (k':Int)=(i:Int)/\rd q ((nx q k':Nat):Int)=(j:Int):=by
  unfold hit
  rw[List.any_eq_true]
  constructor
  · rintro⟨k',h1,h2⟩
    exact⟨k',List.mem_range.1 h1,(of_decide_eq_true h2).1,(of_decide_eq_true h2).2⟩
  · rintro⟨k',h1,h2,h3⟩
    exact⟨k',List.mem_range.2 h1,decide_eq_true ⟨h2,h3⟩⟩
def part (d:List (List Int)) (q:List Int) (k i j:Nat):Int:=if hit q k i j=true then db d i j - lowest d q else db d i j
def struck (c:List Int) (d:List (List Int)) (q:List Int):List (List Int):=mk c.length (part d q q.length)
section
variable {c:List Int} {d:List (List Int)} {q:List Int}
theorem nx_lt {q:List Int} (h:0 < q.length) (k:Nat):nx q k < q.length:=Nat.mod_lt _ h
theorem cir_at (hq:CirP c.length d q) {k:Nat} (hk:k < q.length):0<=rd q (k:Int)/\rd q (k:Int) < (c.length:Int):=by
  have:=hq.1.2.2.1 _ (rd_mem hk)
  exact⟨this.2.1,this.2.2⟩
theorem cir_inj (hq:CirP c.length d q) {k l:Nat} (hk:k < q.length) (hl:l < q.length) (h:rd q (k:Int)=rd q (l:Int)):k=l:=by
  rw[rd_get q k hk,rd_get q l hl] at h
  exact(List.getElem_inj hq.1.2.1).1 h
theorem nx_ne (hq:CirP c.length d q) {k:Nat} (hk:k < q.length):nx q k≠k:=by
  have:=hq.2.1
  unfold nx
  by_cases h:k + 1=q.length
  · rw[h,Nat.mod_self];omega
  · rw[Nat.mod_eq_of_lt (by omega)];omega
theorem edge_pos (hq:CirP c.length d q) {k:Nat} (hk:k < q.length):0 < edge d q k:=by
  unfold edge nx
  by_cases h:k + 1=q.length
  · rw[h,Nat.mod_self]
    have:k=q.length - 1:=by omega
    rw[this]
    exact hq.2.2
  · rw[Nat.mod_eq_of_lt (by omega)]
    exact hq.1.2.2.2 k (by omega)
theorem edge_le (h:BookP c d) (hq:CirP c.length d q) {k:Nat} (hk:k < q.length):edge d q k<=9:=
  (row_ge h (cir_at hq hk) (cir_at hq (nx_lt hq.1.1 k))).2
theorem lowest_pos (hq:CirP c.length d q):1<=lowest d q:=by
  have h0:=hq.1.1
  rcases(low_le d q q.length 0 9).2.2 with h | ⟨i,_,h2,h3⟩
  · unfold lowest;omega
  · have:=edge_pos hq (k:=i) (by omega)
    unfold lowest;omega
theorem lowest_le (hq:CirP c.length d q) {k:Nat} (hk:k < q.length):lowest d q<=edge d q k:=(low_le d q q.length 0 9).2.1 k (by omega) (by omega)
theorem hit_edge (hq:CirP c.length d q) {k i j:Nat} (hk:k<=q.length) (h:hit q k i j=true):lowest d q<=db d i j/\i≠j:=by
  obtain⟨k',h1,h2,h3⟩:=hit_iff.1 h
  have hk':k' < q.length:=by omega
  have:=lowest_le hq hk'
  refine⟨?_,fun e=>?_⟩
  · unfold edge at this
    rw[h2,h3] at this
    exact this
  · rw[<- e, <- h2] at h3
    exact nx_ne hq hk' (cir_inj hq (nx_lt hq.1.1 k') hk' h3)
theorem part_bd (h:BookP c d) (hq:CirP c.length d q) {k i j:Nat} (hk:k<=q.length) (hi:i < c.length) (hj:j < c.length):0<=part d q k i j/\part d q k i j<=db d i j:=by
  have hb:=(h.2.2.2 i hi).2.2.2.2 j hj
  have hp:=lowest_pos hq
  unfold part
  by_cases hh:hit q k i j=true
  · rw[if_pos hh]
    have:=(hit_edge hq hk hh).1
    omega
  · rw[if_neg hh];exact⟨hb.1,Int.le_refl _⟩
theorem struck_get {i j:Nat} (hi:i < c.length) (hj:j < c.length):db (struck c d q) i j=part d q q.length i j:=by
  show rd (Jb (mk c.length (part d q q.length)) (i:Int)) (j:Int)=_
  rw[mk_get hi,rd_rowF hj]
theorem struck_ok (h:BookP c d) (hq:CirP c.length d q):BookP c (struck c d q):=by
  refine⟨h.1,h.2.1,mk_len _ _,fun i hi=>?_⟩
  have hc:=h.2.2.2 i hi
  refine⟨hc.1,hc.2.1,?_,?_,fun j hj=>?_⟩
  · show(Jb (mk c.length (part d q q.length)) (i:Int)).length=_
    rw[mk_get hi,rowF_len]
  · refine(struck_get hi hi).trans ?_
    unfold part
    rw[if_neg (fun z=>(hit_edge hq (Nat.le_refl _) z).2 rfl)]
    exact hc.2.2.2.1
  · have h1:=struck_get (c:=c) (d:=d) (q:=q) hi hj
    have h2:=part_bd h hq (Nat.le_refl _) hi hj
    have h3:=hc.2.2.2.2 j hj
    show 0<=db (struck c d q) i j/\db (struck c d q) i j<=9
    have h4:db d i j<=9:=h3.2
    rw[h1];omega
theorem ki (q:List Int) (k:Nat) (h:k < q.length) (hq:q.length<=4):wrap64 ((k:Int) + 1)=((k + 1:Nat):Int):=wsucc h (by omega)
theorem tm (q:List Int) (k:Nat):Int.tmod ((k + 1:Nat):Int) (q.length:Int)=((nx q k:Nat):Int):=by
  unfold nx
  rw[Int.tmod_eq_emod_of_nonneg (by omega)]
  rfl
theorem st_l0 (h:BookP c d) (hq:CirP c.length d q) {r:List Int × List (List Int)} (hR:Ev (fun k=>Fl.l1 k q (lowest d q) 0 c d c d) r):∀(e k:Nat) (x:Int),q.length - k=e->k<=q.length->low d q e k x=lowest d q->Ev (fun n=>Fl.l0 n q x (k:Int) c d c d) r:=by
  have h4:=h.2.1
  have hdl:=h.2.2.1
  have hql:=hq.1.len
  have hq0:=hq.1.1
  intro e
  induction e with
  | zero=>
    intro k x he hk hx
    refine Ev.step (fun n=>by rw[Fl.l0]) ?_
    refine evNeg (by omega) ?_
    rw[low] at hx
    rw[hx]
    exact hR
  | succ e ih=>
    intro k x he hk hx
    have hlt:k < q.length:=by omega
    have hk1:Gx (wrap64 ((k:Int) + 1)=((k + 1:Nat):Int)):=⟨ki q k hlt (by omega)⟩
    have htm:Gx (Int.tmod ((k + 1:Nat):Int) (q.length:Int)=((nx q k:Nat):Int)):=⟨tm q k⟩
    have a1:=cir_at hq hlt
    have a2:=cir_at hq (nx_lt hq0 k)
    have hn:=nx_lt hq0 k
    have hrl:=row_len h a1
    refine Ev.step (fun n=>by rw[Fl.l0]) ?_
    rw[hk1.out,htm.out]
    refine evPos (by omega) (evPos (by omega) (evPos a1.1 (evPos (by omega) (evNeg (by omega) (evPos (by omega) (evPos (by omega) (evPos a2.1 (evPos (by omega) ?_))))))))
    exact ih (k + 1) _ (by omega) (by omega) (by rw[low] at hx;exact hx)
theorem st_l1 (h:BookP c d) (hq:CirP c.length d q):∀(e k:Nat),q.length - k=e->k<=q.length->Ev (fun n=>Fl.l1 n q (lowest d q) (k:Int) c d c (mk c.length (part d q k))) (c,struck c d q):=by
  have h4:=h.2.1
  have hdl:=h.2.2.1
  have hql:=hq.1.len
  have hq0:=hq.1.1
  intro e
  induction e with
  | zero=>
    intro k he hk
    refine Ev.step (fun n=>by rw[Fl.l1]) ?_
    have:k=q.length:=by omega
    subst this
    exact evNeg (by omega) (Ev.now _)
  | succ e ih=>
    intro k he hk
    have hlt:k < q.length:=by omega
    have hk1:Gx (wrap64 ((k:Int) + 1)=((k + 1:Nat):Int)):=⟨ki q k hlt (by omega)⟩
    have htm:Gx (Int.tmod ((k + 1:Nat):Int) (q.length:Int)=((nx q k:Nat):Int)):=⟨tm q k⟩
    have a1:=cir_at hq hlt
    have a2:=cir_at hq (nx_lt hq0 k)
    have hn:=nx_lt hq0 k
    have hrl:=row_len h a1
    have hml:=mk_len c.length (part d q k)
    have hle:=lowest_le hq hlt
    have hlp:=lowest_pos hq
    have hee:=edge_le h hq hlt
    obtain⟨a,ha⟩:=Int.eq_ofNat_of_zero_le a1.1
    obtain⟨b,hb⟩:=Int.eq_ofNat_of_zero_le a2.1
    have hac:a < c.length:=by omega
    have hbc:b < c.length:=by omega
    have hmr:(Jb (mk c.length (part d q k)) (rd q (k:Int))).length=c.length:=by rw[ha,mk_get hac,rowF_len]
    have hw:Gx (wrap64 (rd (Jb d (rd q (k:Int))) (rd q ((nx q k:Nat):Int)) - lowest d q)=db d a b - lowest d q):=⟨by
      have e1:rd (Jb d (rd q (k:Int))) (rd q ((nx q k:Nat):Int))=edge d q k:=rfl
      rw[e1,w64 (by omega) (by omega)]
      have e2:edge d q k=db d a b:=by unfold edge;rw[ha,hb]
      rw[e2]⟩
    refine Ev.step (fun n=>by rw[Fl.l1]) ?_
    rw[hk1.out,htm.out]
    refine evPos (by omega) (evPos (by omega) (evNeg (by omega) (evPos (by omega) (evPos (by omega) (evPos a1.1 (evPos (by omega) (evPos (by omega) (evPos a2.1 (evPos (by omega) (evPos (by omega) ?_))))))))))
    rw[hw.out,ha,hb,Int.toNat_natCast,Int.toNat_natCast,mk_set hac hbc]
    have:mk c.length (fun i' j'=>if i'=a/\j'=b then db d a b - lowest d q else part d q k i' j')=mk c.length (part d q (k + 1)):=mk_congr (fun i hi j hj=>by
      by_cases z:i=a/\j=b
      · rw[if_pos z]
        unfold part
        rw[if_pos (hit_iff.2 ⟨k,by omega,by rw[ha,z.1],by rw[hb,z.2]⟩),z.1,z.2]
      · rw[if_neg z]
        unfold part
        have:hit q (k + 1) i j=hit q k i j:=by
          rw[Bool.eq_iff_iff,hit_iff,hit_iff]
          constructor
          · rintro⟨k',h1,h2,h3⟩
            by_cases e':k'=k
            · subst e'
              rw[ha] at h2;rw[hb] at h3
              exact absurd ⟨by omega,by omega⟩ z
            · exact⟨k',by omega,h2,h3⟩
          · rintro⟨k',h1,h2⟩
            exact⟨k',by omega,h2⟩
        rw[this])
    rw[this]
    exact ih (k + 1) (by omega) (by omega)
theorem sStruck (h:BookP c d) (hq:CirP c.length d q):Ev (fun k=>Fl.f k c d q) (c,struck c d q):=by
  unfold Fl.f
  refine Ev.bind (scopy h) (st_l0 h hq ?_ q.length 0 9 rfl (by omega) rfl)
  have:=st_l1 h hq q.length 0 rfl (by omega)
  have e:mk c.length (part d q 0)=d:=(mk_congr (fun i _ j _=>by unfold part hit;simp)).trans (mk_of h).symm
  rw[e] at this
  exact this
def s1 (f:Nat->Int):Nat->Int
  | 0=>0
  | m + 1=>s1 f m + f m
theorem s1_le {f g:Nat->Int}:∀m:Nat,(∀i,i < m->f i<=g i)->s1 f m<=s1 g m
  | 0,_=>Int.le_refl _
  | m + 1,h=>by
    have:=s1_le m (fun i hi=>h i (by omega))
    have:=h m (by omega)
    simp only[s1];omega
theorem s1_lt {f g:Nat->Int}:∀m:Nat,(∀i,i < m->f i<=g i)->(∃i,i < m/\f i < g i)->s1 f m < s1 g m
  | 0,_,⟨i,hi,_⟩=>by omega
  | m + 1,h,⟨i,hi,hl⟩=>by
    have h1:=s1_le m (fun i hi=>h i (by omega))
    have h2:=h m (by omega)
    simp only[s1]
    by_cases e:i=m
    · subst e;omega
    · have:=s1_lt m (fun i hi=>h i (by omega)) ⟨i,by omega,hl⟩
      omega
theorem s1_ge {f:Nat->Int} {a b:Int}:∀m:Nat,(∀i,i < m->a<=f i/\f i<=b)->a * m<=s1 f m/\s1 f m<=b * m
  | 0,_=>by simp[s1]
  | m + 1,h=>by
    have h1:=s1_ge m (fun i hi=>h i (by omega))
    have h2:=h m (by omega)
    have e1:a * ((m + 1:Nat):Int)=a * m + a:=by rw[Int.natCast_add,Int.mul_add];simp
    have e2:b * ((m + 1:Nat):Int)=b * m + b:=by rw[Int.natCast_add,Int.mul_add];simp
    simp only[s1]
    rw[e1,e2];omega
def tot (c:List Int) (d:List (List Int)):Int:=s1 (fun i=>s1 (db d i) c.length) c.length
theorem tot_bd (h:BookP c d):0<=tot c d/\tot c d<=144:=by
  have h4:=h.2.1
  have hr:∀i,i < c.length->0<=s1 (db d i) c.length/\s1 (db d i) c.length<=36:=fun i hi=>by
    have:=s1_ge (f:=db d i) (a:=0) (b:=9) c.length (fun j hj=>(h.2.2.2 i hi).2.2.2.2 j hj)
    omega
  have:=s1_ge (f:=fun i=>s1 (db d i) c.length) (a:=0) (b:=36) c.length hr
  unfold tot
  omega
theorem struck_less (h:BookP c d) (hq:CirP c.length d q):tot c (struck c d q) < tot c d:=by
  have hb:∀i,i < c.length->∀j,j < c.length->db (struck c d q) i j<=db d i j:=fun i hi j hj=>by
    rw[struck_get hi hj];exact(part_bd h hq (Nat.le_refl _) hi hj).2
  have h0:=hq.1.1
  have a1:=cir_at hq h0
  have a2:=cir_at hq (nx_lt h0 0)
  obtain⟨a,ha⟩:=Int.eq_ofNat_of_zero_le a1.1
  obtain⟨b,hb2⟩:=Int.eq_ofNat_of_zero_le a2.1
  have hlp:=lowest_pos hq
  refine s1_lt c.length (fun i hi=>s1_le c.length (hb i hi)) ⟨a,by omega,s1_lt c.length (hb a (by omega)) ⟨b,by omega,?_⟩⟩
  rw[struck_get (by omega) (by omega)]
  unfold part
  rw[if_pos (hit_iff.2 ⟨0,h0,ha,hb2⟩)]
  omega
def woc (c:List Int):Nat->List (List Int)->Int->List (List Int) × Int
  | 0,d,n=>(d,n)
  | N + 1,d,n=>if (circ c d).length=0 then(d,n) else woc c N (struck c d ((circ c d).getD 0 [])) (n + 1)
theorem woc_ok:∀(N:Nat) (d:List (List Int)) (n:Int),BookP c d->BookP c (woc c N d n).1
  | 0,d,n,h=>h
  | N + 1,d,n,h=>by
    rw[woc]
    split
    · exact h
    · next hz=>exact woc_ok N _ _ (struck_ok h (mem_circ h (getD_mem [] _ 0 (by omega))))
theorem sWoc:∀(N:Nat) (d:List (List Int)) (n:Int),BookP c d->tot c d<=(N:Int)->0<=n->n + N<=1000->Ev (fun k=>Fc.l0 k n c d) (c,(woc c N d n).1,(woc c N d n).2):=by
  intro N
  induction N with
  | zero=>
    intro d n h ht hn hN
    have hb:=tot_bd h
    refine Ev.step (fun k=>by rw[Fc.l0]) ?_
    refine Ev.bind (sCircles h) ?_
    have hz:(circ c d).length=0:=by
      apply Classical.byContradiction
      intro hz
      have hq:=mem_circ h (getD_mem [] (circ c d) 0 (by omega))
      have h1:=struck_less h hq
      have h2:=tot_bd (struck_ok h hq)
      omega
    exact evPos (by omega) (Ev.now _)
  | succ N ih=>
    intro d n h ht hn hN
    refine Ev.step (fun k=>by rw[Fc.l0]) ?_
    refine Ev.bind (sCircles h) ?_
    by_cases hz:(circ c d).length=0
    · refine evPos (by omega) (evEq (Ev.now _) ?_)
      rw[woc,if_pos hz]
    · refine evNeg (by omega) (evPos (by omega) ?_)
      have hq:=mem_circ h (getD_mem [] (circ c d) 0 (by omega))
      have e1:Jb (circ c d) 0=(circ c d).getD 0 []:=rfl
      rw[e1]
      refine Ev.bind (sStruck h hq) ?_
      have hw:wrap64 (n + 1)=n + 1:=w64 (by omega) (by omega)
      rw[hw]
      have h1:=struck_less h hq
      refine evEq (ih _ (n + 1) (struck_ok h hq) (by show tot c (struck c d ((circ c d).getD 0 []))<=(N:Int);omega) (by omega) (by omega)) ?_
      rw[woc,if_neg hz]
def without (c:List Int) (d:List (List Int)):List (List Int) × Int:=woc c 144 d 0
theorem without_ok (h:BookP c d):BookP c (without c d).1:=woc_ok _ _ _ h
theorem sWithout (c:List Int) (d:List (List Int)):Ev (fun k=>Fc.f k c d) (@ite _ (BookP c d) (Classical.propDecidable _) (c,(without c d).1,(without c d).2) ([],[], -1)):=by
  unfold Fc.f
  by_cases h:BookP c d
  · rw[if_pos h]
    refine Ev.bind ((bookOk c d).yes h) (evPos rfl (Ev.bind (scopy h) ?_))
    exact sWoc 144 d 0 h (tot_bd h).2 (by omega) (by omega)
  · rw[if_neg h]
    exact Ev.bind ((bookOk c d).no h) (evNeg (by decide) (Ev.now _))
end
end Go.Proofs.Ytfooakkhkehpiaa.Sk
namespace Go.Proofs.Ytfooakkhkehpiaa.Nt
open Go.RowKit Go.Proofs.Ytfooakkhkehpiaa.PU Go.Proofs.Ytfooakkhkehpiaa.Qh Go.Proofs.Ytfooakkhkehpiaa.Bk Go.Proofs.Ytfooakkhkehpiaa.Mx Go.Proofs.YtfooakkhkehpiaaW.PrintWords Go.Proofs.YtfooakkhkehpiaaW.PrintMore
set_option linter.unusedVariables false
set_option linter.unusedSimpArgs false
def N (d:List (List Int)) (i j:Nat):Int:=db d i j - mn (db d i j) (db d j i)
def netL (c:List Int) (d:List (List Int)):List (List Int):=mk c.length (N d)
variable {c:List Int} {d:List (List Int)}
theorem db_bd (h:BookP c d) {i j:Nat} (hi:i < c.length) (hj:j < c.length):0<=db d i j/\db d i j<=9:=(h.2.2.2 i hi).2.2.2.2 j hj
theorem db_diag (h:BookP c d) {i:Nat} (hi:i < c.length):db d i i=0:=(h.2.2.2 i hi).2.2.2.1
theorem mn_le (a b:Int):mn a b<=a/\mn a b<=b/\(mn a b=a ∨ mn a b=b):=by
  unfold mn
  split <;> omega
theorem mn_comm (a b:Int):mn a b=mn b a:=by
  have h1:=mn_le a b
  have h2:=mn_le b a
  omega
theorem N_bd (h:BookP c d) {i j:Nat} (hi:i < c.length) (hj:j < c.length):0<=N d i j/\N d i j<=db d i j:=by
  have h1:=mn_le (db d i j) (db d j i)
  have h2:=db_bd h hi hj
  have h3:=db_bd h hj hi
  unfold N
  omega
theorem N_diag (h:BookP c d) {i:Nat} (hi:i < c.length):N d i i=0:=by
  have h1:=N_bd h hi hi
  have h2:=db_diag h hi
  omega
theorem net_len (c:List Int) (d:List (List Int)):(netL c d).length=c.length:=mk_len _ _
theorem net_get (h:BookP c d) {i j:Nat} (hi:i < c.length) (hj:j < c.length):db (netL c d) i j=N d i j:=by
  show rd (Jb (mk c.length (N d)) (i:Int)) (j:Int)=_
  rw[mk_get hi,rd_rowF hj]
theorem net_ok (h:BookP c d):BookP c (netL c d):=by
  refine⟨h.1,h.2.1,net_len c d,fun i hi=>?_⟩
  have hc:=h.2.2.2 i hi
  refine⟨hc.1,hc.2.1,?_,?_,fun j hj=>?_⟩
  · show(Jb (mk c.length (N d)) (i:Int)).length=_
    rw[mk_get hi,rowF_len]
  · exact(net_get h hi hi).trans (N_diag h hi)
  · have h1:=net_get h hi hj
    have h2:=N_bd h hi hj
    have h3:=db_bd h hi hj
    show 0<=db (netL c d) i j/\db (netL c d) i j<=9
    rw[h1];omega
def fi (d:List (List Int)) (i k:Nat) (i' j':Nat):Int:=if i' < i ∨ i'=i/\j' < k then N d i' j' else db d i' j'
theorem in_l1 (h:BookP c d) {i:Nat} (hi:i < c.length) {r:List Int × List (List Int)} (hR:Ev (fun n=>Fz.l0 n d (c.length:Int) ((i + 1:Nat):Int) c d c (mk c.length (fi d (i + 1) 0))) r):∀(e k:Nat),c.length - k=e->k<=c.length ->
    Ev (fun n=>Fz.l1 n (i:Int) d (c.length:Int) (i:Int) (Jb d (i:Int)) (c.length:Int) (k:Int) c d c (mk c.length (fi d i k))) r:=by
  have h4:=h.2.1
  have hdl:=h.2.2.1
  have hri:=(h.2.2.2 i hi).2.2.1
  have hs:Gx (wrap64 ((i:Int) + 1)=((i + 1:Nat):Int)):=⟨wsucc hi (by omega)⟩
  intro e
  induction e with
  | zero=>
    intro k he hk
    obtain rfl:k=c.length:=by omega
    refine Ev.step (fun n=>by rw[Fz.l1]) ?_
    rw[hs.out]
    refine evNeg (by omega) ?_
    have:mk c.length (fi d i c.length)=mk c.length (fi d (i + 1) 0):=mk_congr (fun a ha b hb=>by
      unfold fi
      by_cases z:a < i ∨ a=i/\b < c.length
      · rw[if_pos z,if_pos (by omega)]
      · rw[if_neg z,if_neg (by omega)])
    rw[this]
    exact hR
  | succ e ih=>
    intro k he hk
    have hlt:k < c.length:=by omega
    have hk1:Gx (wrap64 ((k:Int) + 1)=((k + 1:Nat):Int)):=⟨wsucc hlt (by omega)⟩
    have hrk:=(h.2.2.2 k hlt).2.2.1
    have hml:=mk_len c.length (fi d i k)
    have hmr:(Jb (mk c.length (fi d i k)) (i:Int)).length=c.length:=by rw[mk_get hi,rowF_len]
    have b1:=db_bd h hi hlt
    have b2:=N_bd h hi hlt
    have hw:Gx (wrap64 (rd (Jb d (i:Int)) (k:Int) - mn (rd (Jb d (i:Int)) (k:Int)) (rd (Jb d (k:Int)) (i:Int)))=N d i k):=⟨by
      have e1:rd (Jb d (i:Int)) (k:Int) - mn (rd (Jb d (i:Int)) (k:Int)) (rd (Jb d (k:Int)) (i:Int))=N d i k:=rfl
      rw[e1,w64 (by omega) (by omega)]⟩
    refine Ev.step (fun n=>by rw[Fz.l1]) ?_
    rw[hk1.out,hw.out,Int.toNat_natCast,Int.toNat_natCast,mk_set hi hlt]
    refine evPos (by omega) (evPos (by omega) (evPos (by omega) (evPos (by omega) (evPos (by omega) (evPos (by omega) (evPos (by omega) (evPos (by omega) ?_)))))))
    have:mk c.length (fun i' j'=>if i'=i/\j'=k then N d i k else fi d i k i' j')=mk c.length (fi d i (k + 1)):=mk_congr (fun a ha b hb=>by
      unfold fi
      by_cases z:a=i/\b=k
      · rw[if_pos z,if_pos (by omega),z.1,z.2]
      · rw[if_neg z]
        by_cases y:a < i ∨ a=i/\b < k
        · rw[if_pos y,if_pos (by omega)]
        · rw[if_neg y,if_neg (by omega)])
    rw[this]
    exact ih (k + 1) (by omega) (by omega)
theorem in_l0 (h:BookP c d):∀(e i:Nat),c.length - i=e->i<=c.length->Ev (fun n=>Fz.l0 n d (c.length:Int) (i:Int) c d c (mk c.length (fi d i 0))) (c,netL c d):=by
  have hdl:=h.2.2.1
  intro e
  induction e with
  | zero=>
    intro i he hi
    obtain rfl:i=c.length:=by omega
    refine Ev.step (fun n=>by rw[Fz.l0]) ?_
    refine evNeg (by omega) (evEq (Ev.now _) ?_)
    have:mk c.length (fi d c.length 0)=netL c d:=mk_congr (fun a ha b hb=>by unfold fi;rw[if_pos (by omega)])
    rw[this]
  | succ e ih=>
    intro i he hi
    have hlt:i < c.length:=by omega
    have hri:=(h.2.2.2 i hlt).2.2.1
    refine Ev.step (fun n=>by rw[Fz.l0]) ?_
    rw[hri]
    refine evPos (by omega) (evPos (by omega) (evPos (by omega) ?_))
    exact in_l1 h hlt (ih (i + 1) (by omega) (by omega)) c.length 0 rfl (by omega)
theorem inetted (h:BookP c d):Ev (fun n=>Fz.f n c d) (c,netL c d):=by
  have hdl:=h.2.2.1
  unfold Fz.f
  refine Ev.bind (icopy h) ?_
  have e:mk c.length (fi d 0 0)=d:=(mk_congr (fun a ha b hb=>by unfold fi;rw[if_neg (by omega)])).trans (mk_of h).symm
  have:=in_l0 h c.length 0 rfl (by omega)
  rw[e] at this
  show Ev (fun n=>Fz.l0 n d (d.length:Int) 0 c d c d) (c,netL c d)
  rw[hdl]
  exact this
def fs (d:List (List Int)) (i k:Nat) (a b:Nat):Int:=if a≠b/\(max a b < i ∨ max a b=i/\min a b < k) then N d a b else db d a b
theorem sn_l1 (h:BookP c d) {i:Nat} (hi:i < c.length) {r:List Int × List (List Int)} (hR:Ev (fun n=>Fk.l0 n ((i + 1:Nat):Int) c d c (mk c.length (fs d (i + 1) 0))) r):∀(e k:Nat),i - k=e->k<=i ->
    Ev (fun n=>Fk.l1 n (i:Int) (k:Int) c d c (mk c.length (fs d i k))) r:=by
  have h4:=h.2.1
  have hdl:=h.2.2.1
  have hri:=(h.2.2.2 i hi).2.2.1
  have hs:Gx (wrap64 ((i:Int) + 1)=((i + 1:Nat):Int)):=⟨wsucc hi (by omega)⟩
  intro e
  induction e with
  | zero=>
    intro k he hk
    obtain rfl:k=i:=by omega
    refine Ev.step (fun n=>by rw[Fk.l1]) ?_
    rw[hs.out]
    refine evNeg (by omega) ?_
    have:mk c.length (fs d k k)=mk c.length (fs d (k + 1) 0):=mk_congr (fun a ha b hb=>by
      unfold fs
      by_cases z:a≠b/\(max a b < k ∨ max a b=k/\min a b < k)
      · rw[if_pos z,if_pos (by omega)]
      · rw[if_neg z,if_neg (by omega)])
    rw[this]
    exact hR
  | succ e ih=>
    intro k he hk
    have hlt:k < c.length:=by omega
    have hk1:Gx (wrap64 ((k:Int) + 1)=((k + 1:Nat):Int)):=⟨wsucc hlt (by omega)⟩
    have hrk:=(h.2.2.2 k hlt).2.2.1
    have hml:=mk_len c.length (fs d i k)
    have hmr:(Jb (mk c.length (fs d i k)) (i:Int)).length=c.length:=by rw[mk_get hi,rowF_len]
    have b1:=db_bd h hi hlt
    have b2:=N_bd h hi hlt
    have b3:=db_bd h hlt hi
    have b4:=N_bd h hlt hi
    have hw:Gx (wrap64 (rd (Jb d (i:Int)) (k:Int) - mn (rd (Jb d (i:Int)) (k:Int)) (rd (Jb d (k:Int)) (i:Int)))=N d i k):=⟨by
      have e1:rd (Jb d (i:Int)) (k:Int) - mn (rd (Jb d (i:Int)) (k:Int)) (rd (Jb d (k:Int)) (i:Int))=N d i k:=rfl
      rw[e1,w64 (by omega) (by omega)]⟩
    have hw2:Gx (wrap64 (rd (Jb d (k:Int)) (i:Int) - mn (rd (Jb d (i:Int)) (k:Int)) (rd (Jb d (k:Int)) (i:Int)))=N d k i):=⟨by
      have e1:rd (Jb d (k:Int)) (i:Int) - mn (rd (Jb d (i:Int)) (k:Int)) (rd (Jb d (k:Int)) (i:Int))=N d k i:=by
        rw[mn_comm];rfl
      rw[e1,w64 (by omega) (by omega)]⟩
    refine Ev.step (fun n=>by rw[Fk.l1]) ?_
    rw[hk1.out,hw.out,hw2.out,Int.toNat_natCast,Int.toNat_natCast,mk_set hi hlt]
    refine evPos (by omega) (evPos (by omega) (evPos (by omega) (evPos (by omega) (evPos (by omega) (evPos (by omega) (evPos (by omega) (evPos (by omega) (evPos (by omega) (evBind0 rfl ?_)))))))))
    have hml2:=mk_len c.length (fun i' j'=>if i'=i/\j'=k then N d i k else fs d i k i' j')
    have hmr2:(Jb (mk c.length (fun i' j'=>if i'=i/\j'=k then N d i k else fs d i k i' j')) (k:Int)).length=c.length:=by rw[mk_get hlt,rowF_len]
    refine evPos (by omega) (evPos (by omega) ?_)
    rw[mk_set hlt hi]
    have:mk c.length (fun i' j'=>if i'=k/\j'=i then N d k i else if i'=i/\j'=k then N d i k else fs d i k i' j')=mk c.length (fs d i (k + 1)):=mk_congr (fun a ha b hb=>by
      unfold fs
      by_cases z:a=k/\b=i
      · rw[if_pos z,if_pos (by omega),z.1,z.2]
      · rw[if_neg z]
        by_cases z2:a=i/\b=k
        · rw[if_pos z2,if_pos (by omega),z2.1,z2.2]
        · rw[if_neg z2]
          by_cases y:a≠b/\(max a b < i ∨ max a b=i/\min a b < k)
          · rw[if_pos y,if_pos (by omega)]
          · rw[if_neg y,if_neg (by omega)])
    rw[this]
    exact ih (k + 1) (by omega) (by omega)
theorem sn_l0 (h:BookP c d):∀(e i:Nat),c.length - i=e->i<=c.length->Ev (fun n=>Fk.l0 n (i:Int) c d c (mk c.length (fs d i 0))) (c,netL c d):=by
  have hdl:=h.2.2.1
  intro e
  induction e with
  | zero=>
    intro i he hi
    obtain rfl:i=c.length:=by omega
    refine Ev.step (fun n=>by rw[Fk.l0]) ?_
    refine evNeg (by omega) (evEq (Ev.now _) ?_)
    have:mk c.length (fs d c.length 0)=netL c d:=mk_congr (fun a ha b hb=>by
      unfold fs
      by_cases z:a=b
      · subst z;rw[if_neg (by omega),db_diag h ha,N_diag h ha]
      · rw[if_pos (by omega)])
    rw[this]
  | succ e ih=>
    intro i he hi
    have hlt:i < c.length:=by omega
    refine Ev.step (fun n=>by rw[Fk.l0]) ?_
    refine evPos (by omega) ?_
    exact sn_l1 h hlt (ih (i + 1) (by omega) (by omega)) i 0 rfl (by omega)
theorem sNetted (c:List Int) (d:List (List Int)):Ev (fun n=>Fk.f n c d) (@ite _ (BookP c d) (Classical.propDecidable _) (c,netL c d) ([],[])):=by
  unfold Fk.f
  by_cases h:BookP c d
  · rw[if_pos h]
    refine Ev.bind ((bookOk c d).yes h) (evPos rfl (Ev.bind (scopy h) ?_))
    have e:mk c.length (fs d 0 0)=d:=(mk_congr (fun a ha b hb=>by unfold fs;rw[if_neg (by omega)])).trans (mk_of h).symm
    have:=sn_l0 h c.length 0 rfl (by omega)
    rw[e] at this
    exact this
  · rw[if_neg h];exact Ev.bind ((bookOk c d).no h) (evNeg (by decide) (Ev.now _))
end Go.Proofs.Ytfooakkhkehpiaa.Nt
namespace Go.Proofs.Ytfooakkhkehpiaa.Dk
open Go.RowKit Go.Proofs.Ytfooakkhkehpiaa.PU Go.Proofs.Ytfooakkhkehpiaa.Qh Go.Proofs.Ytfooakkhkehpiaa.Bk Go.Proofs.YtfooakkhkehpiaaW.PrintWords Go.Proofs.YtfooakkhkehpiaaW.PrintMore
set_option linter.unusedVariables false
set_option linter.unusedSimpArgs false
abbrev B:=S25
def OkB (n:Nat) (x:B):Prop:=BookP x.f0 x.f1/\x.f0.length=n
def DeskP (c:List Int) (d:List (List Int)) (ps:List B):Prop:=BookP c d/\ps.length<=8/\∀x ∈ ps,OkB c.length x
theorem bad (n:Nat):∀(l:List B) (i:Nat),∃q:Int,(q ≥ 0 ↔ ¬ ∀x ∈ l,OkB n x)/\Ev (fun k=>F3.bad k (n:Int) l i) q
  | [],i=>⟨-1,by simp,Ev.now _⟩
  | x :: r,i=>by
    obtain⟨b,hb,e⟩:=isBook x.f0 x.f1
    by_cases h1:BookP x.f0 x.f1
    · by_cases h2:x.f0.length=n
      · obtain⟨q,hq,eq⟩:=bad n r (i + 1)
        refine⟨q,hq.trans ⟨fun z w=>z (fun y hy=>w y (List.mem_cons_of_mem _ hy)),fun z w=>z (fun y hy=>?_)⟩,?_⟩
        · rcases List.mem_cons.mp hy with rfl|h
          · exact⟨h1,h2⟩
          · exact w y h
        · show Ev (fun k=>(Fi.f k x.f0 x.f1).bind fun t=>if t=true then(if (x.f0.length:Int)=(n:Int) then F3.bad k (n:Int) r (i + 1) else some (i:Int)) else some (i:Int)) q
          exact Ev.bind e (evPos (hb.2 h1) (evPos (by omega) eq))
      · refine⟨(i:Int),⟨fun _ w=>h2 (w x (List.mem_cons_self)).2,fun _=>by omega⟩,?_⟩
        show Ev (fun k=>(Fi.f k x.f0 x.f1).bind fun t=>if t=true then(if (x.f0.length:Int)=(n:Int) then F3.bad k (n:Int) r (i + 1) else some (i:Int)) else some (i:Int)) (i:Int)
        exact Ev.bind e (evPos (hb.2 h1) (evNeg (by omega) (Ev.now _)))
    · refine⟨(i:Int),⟨fun _ w=>h1 (w x (List.mem_cons_self)).1,fun _=>by omega⟩,?_⟩
      show Ev (fun k=>(Fi.f k x.f0 x.f1).bind fun t=>if t=true then(if (x.f0.length:Int)=(n:Int) then F3.bad k (n:Int) r (i + 1) else some (i:Int)) else some (i:Int)) (i:Int)
      exact Ev.bind e (evNeg (fun z=>h1 (hb.1 z)) (Ev.now _))
theorem isDesk (c:List Int) (d:List (List Int)) (ps:List B):EvB (fun k=>F3.f k c d ps) (DeskP c d ps):=by
  unfold F3.f
  obtain⟨b,hb,e⟩:=isBook c d
  refine EvB.bind e ?_
  by_cases h:BookP c d
  · refine EvB.pos (hb.2 h) ?_
    by_cases h8:(ps.length:Int)<=8
    · refine EvB.pos h8 ?_
      obtain⟨q,hq,eq⟩:=bad c.length ps 0
      refine EvB.bind eq ⟨_,?_,Ev.now _⟩
      constructor
      · intro z
        have z2:¬ q ≥ 0:=by simpa using z
        exact⟨h,by omega,Classical.byContradiction (fun w=>z2 (hq.2 w))⟩
      · intro z
        have:¬ q ≥ 0:=fun w=>hq.1 w z.2.2
        simpa using this
    · exact EvB.neg h8 (EvB.ff (fun z=>h8 (by have:=z.2.1;omega)))
  · exact EvB.neg (fun z=>h (hb.1 z)) (EvB.ff (fun z=>h z.1))
theorem rT (xs:List B) (i:Nat):Jc xs (i:Int)=xs.getD i z25:=rfl
theorem sd_l0 (c:List Int) (d:List (List Int)) (ps:List B) (hp:ps.length<=4611686018427387904):∀(e i:Nat),ps.length - i=e->i<=ps.length ->
    EvB (fun k=>Fw.l0 k (i:Int) c d ps) ((∀j:Nat,i<=j->j < ps.length->OkB c.length (Jc ps (j:Int)))/\BookP c d/\ps.length<=8):=by
  intro e
  induction e with
  | zero=>
    intro i he hi
    refine EvB.step (fun k=>by rw[Fw.l0]) ?_
    refine EvB.neg (by omega) ?_
    obtain⟨b,hb,eb⟩:=bookOk c d
    refine EvB.bind eb ?_
    by_cases h:BookP c d
    · refine EvB.pos (hb.2 h) ⟨_,?_,Ev.now _⟩
      constructor
      · intro z
        have:=of_decide_eq_true z
        exact⟨fun j h1 h2=>by omega,h,by omega⟩
      · intro z
        exact decide_eq_true (by have:=z.2.2;omega)
    · exact EvB.neg (fun z=>h (hb.1 z)) (EvB.ff (fun z=>h z.2.1))
  | succ e ih=>
    intro i he hi
    have hlt:i < ps.length:=by omega
    have hs:wrap64 ((i:Int) + 1)=((i + 1:Nat):Int):=wsucc hlt hp
    refine EvB.step (fun k=>by rw[Fw.l0]) ?_
    refine EvB.pos (by omega) (EvB.pos (by omega) ?_)
    obtain⟨b,hb,eb⟩:=bookOk (Jc ps (i:Int)).f0 (Jc ps (i:Int)).f1
    refine EvB.bind eb ?_
    by_cases h:BookP (Jc ps (i:Int)).f0 (Jc ps (i:Int)).f1
    · refine EvB.pos (hb.2 h) ?_
      by_cases h2:(Jc ps (i:Int)).f0.length=c.length
      · refine EvB.pos (by omega) ?_
        rw[hs]
        refine(ih (i + 1) (by omega) (by omega)).congr ⟨fun z=>⟨fun j h5 h6=>?_,z.2⟩,fun z=>⟨fun j h5 h6=>z.1 j (by omega) h6,z.2⟩⟩
        by_cases e':j=i
        · subst e';exact⟨h,h2⟩
        · exact z.1 j (by omega) h6
      · exact EvB.neg (by omega) (EvB.ff (fun z=>h2 (z.1 i (Nat.le_refl _) hlt).2))
    · exact EvB.neg (fun z=>h (hb.1 z)) (EvB.ff (fun z=>h (z.1 i (Nat.le_refl _) hlt).1))
theorem deskOk (c:List Int) (d:List (List Int)) (ps:List B) (hp:ps.length<=4611686018427387904):EvB (fun k=>Fw.f k c d ps) (DeskP c d ps):=by
  unfold Fw.f
  refine(sd_l0 c d ps hp ps.length 0 rfl (by omega)).congr ⟨fun z=>⟨z.2.1,z.2.2,fun x hx=>?_⟩,fun z=>⟨fun j _ h2=>z.2.2 _ ?_,z.1,z.2.1⟩⟩
  · obtain⟨i,hi,rfl⟩:=List.mem_iff_getElem.mp hx
    have:=z.1 i (by omega) hi
    rwa [rT,List.getD_eq_getElem?_getD,List.getElem?_eq_getElem hi] at this
  · rw[rT];exact getD_mem _ ps j h2
end Go.Proofs.Ytfooakkhkehpiaa.Dk
namespace Go.Proofs.Ytfooakkhkehpiaa.Dd
open Go.RowKit Go.Proofs.Ytfooakkhkehpiaa.PU Go.Proofs.Ytfooakkhkehpiaa.Qh Go.Proofs.Ytfooakkhkehpiaa.Bk Go.Proofs.Ytfooakkhkehpiaa.Mx Go.Proofs.Ytfooakkhkehpiaa.Nt Go.Proofs.Ytfooakkhkehpiaa.Dk Go.Proofs.Ytfooakkhkehpiaa.Sk Go.Proofs.YtfooakkhkehpiaaW.PrintWords Go.Proofs.YtfooakkhkehpiaaW.PrintMore
set_option linter.unusedVariables false
set_option linter.unusedSimpArgs false
section
variable {c c':List Int} {d d':List (List Int)}
theorem ext_book (h:BookP c d) (h':BookP c' d') (hl:c'.length=c.length) (e:∀i:Nat,i < c.length->rd c' (i:Int)=rd c (i:Int)/\∀j:Nat,j < c.length->db d' i j=db d i j):c'=c/\d'=d:=by
  constructor
  · exact ext_rd _ _ hl (fun i hi=>(e i (by omega)).1)
  · rw[mk_of h,mk_of h',hl]
    exact mk_congr (fun i hi j hj=>(e i hi).2 j hj)
theorem same (h:BookP c d) (h':BookP c' d') (hl:c'.length=c.length):EvB (fun k=>F0.f k c' d' c d) (c'=c/\d'=d):=by
  have h4:=h.2.1
  have hd:=h.2.2.1
  have hd':=h'.2.2.1
  unfold F0.f
  have l1:∀(i:Nat),i < c.length->∀ {R:Prop},EvB (fun k=>F0.l0 k ((i + 1:Nat):Int) c' d' c d) R->∀(e j:Nat),c.length - j=e->j<=c.length->EvB (fun k=>F0.l1 k (i:Int) (j:Int) c' d' c d) ((∀j':Nat,j<=j'->j' < c.length->db d' i j'=db d i j')/\R):=by
    intro i hi R hR e
    have hs:Gx (wrap64 ((i:Int) + 1)=((i + 1:Nat):Int)):=⟨wsucc hi (by omega)⟩
    have hri:=(h.2.2.2 i hi).2.2.1
    have hri':=(h'.2.2.2 i (by omega)).2.2.1
    induction e with
    | zero=>
      intro j he hj
      refine EvB.step (fun k=>by rw[F0.l1]) ?_
      rw[hs.out]
      exact EvB.neg (by omega) (hR.congr ⟨fun z=>⟨fun j' h1 h2=>by omega,z⟩,fun z=>z.2⟩)
    | succ e ih=>
      intro j he hj
      have hlt:j < c.length:=by omega
      have hj1:Gx (wrap64 ((j:Int) + 1)=((j + 1:Nat):Int)):=⟨wsucc hlt (by omega)⟩
      refine EvB.step (fun k=>by rw[F0.l1]) ?_
      rw[hj1.out]
      refine EvB.pos (by omega) (EvB.pos (by omega) (EvB.pos (by omega) (EvB.pos (by omega) (EvB.pos (by omega) (EvB.pos (by omega) (EvB.pos (by omega) ?_))))))
      by_cases he2:rd (Jb d' (i:Int)) (j:Int)=rd (Jb d (i:Int)) (j:Int)
      · refine EvB.pos he2 ((ih (j + 1) (by omega) (by omega)).congr ⟨fun z=>⟨fun j' h1 h2=>?_,z.2⟩,fun z=>⟨fun j' h1 h2=>z.1 j' (by omega) h2,z.2⟩⟩)
        by_cases e':j'=j
        · subst e';exact he2
        · exact z.1 j' (by omega) h2
      · exact EvB.neg he2 (EvB.ff (fun z=>he2 (z.1 j (Nat.le_refl _) hlt)))
  have l0:∀(e i:Nat),c.length - i=e->i<=c.length->EvB (fun k=>F0.l0 k (i:Int) c' d' c d) (∀i':Nat,i<=i'->i' < c.length->rd c' (i':Int)=rd c (i':Int)/\∀j:Nat,j < c.length->db d' i' j=db d i' j):=by
    intro e
    induction e with
    | zero=>
      intro i he hi
      refine EvB.step (fun k=>by rw[F0.l0]) ?_
      exact EvB.neg (by omega) (EvB.tt (fun i' h1 h2=>by omega))
    | succ e ih=>
      intro i he hi
      have hlt:i < c.length:=by omega
      refine EvB.step (fun k=>by rw[F0.l0]) ?_
      refine EvB.pos (by omega) (EvB.pos (by omega) (EvB.pos (by omega) ?_))
      by_cases he2:rd c' (i:Int)=rd c (i:Int)
      · refine EvB.pos he2 ((l1 i hlt (ih (i + 1) (by omega) (by omega)) c.length 0 rfl (by omega)).congr ⟨fun z i' h1 h2=>?_,fun z=>⟨fun j' _ h2=>(z i (Nat.le_refl _) hlt).2 j' h2,fun i' h1 h2=>z i' (by omega) h2⟩⟩)
        by_cases e':i'=i
        · subst e';exact⟨he2,fun j hj=>z.1 j (by omega) hj⟩
        · exact z.2 i' (by omega) h2
      · exact EvB.neg he2 (EvB.ff (fun z=>he2 (z i (Nat.le_refl _) hlt).1))
  refine(l0 c.length 0 rfl (by omega)).congr ⟨fun z=>ext_book h h' hl (fun i hi=>z i (by omega) hi),fun z i' _ _=>?_⟩
  rw[z.1,z.2]
  exact⟨rfl,fun _ _=>rfl⟩
end
def made (c:List Int) (d:List (List Int)) (a0 a1 a2 a3:Int):Option (List Int × List (List Int)):=
  if a0=0/\(0<=a1/\a1 < (c.length:Int))/\a2=0/\0<=a3/\a3<=20 then some (c.set a1.toNat a3,d)
  else if a0=1/\(0<=a1/\a1 < (c.length:Int))/\(0<=a2/\a2 < (c.length:Int))/\a1≠a2/\0<=a3/\a3<=9 then some (c,d.set a1.toNat ((Jb d a1).set a2.toNat a3))
  else if a0=2/\a1=0/\a2=0/\a3=0 then some (c,netL c d)
  else if a0=3/\a1=0/\a2=0/\a3=0 then some (c,(without c d).1)
  else none
section
variable {c:List Int} {d:List (List Int)} {a0 a1 a2 a3:Int}
theorem cash_ok (h:BookP c d) (h1:0<=a1/\a1 < (c.length:Int)) (h2:0<=a3/\a3<=20):BookP (c.set a1.toNat a3) d:=by
  have hl:(c.set a1.toNat a3).length=c.length:=List.length_set
  refine⟨by rw[hl];exact h.1,by rw[hl];exact h.2.1,by rw[hl];exact h.2.2.1,fun i hi=>?_⟩
  rw[hl] at hi
  have hr:=h.2.2.2 i hi
  unfold RowP
  rw[hl,rd_set c a3 a1 (i:Int) h1.1 h1.2 (by omega)]
  refine⟨?_,?_,hr.2.2⟩
  · split
    · exact h2.1
    · exact hr.1
  · split
    · exact h2.2
    · exact hr.2.1
theorem debt_mk (h:BookP c d) (h1:0<=a1/\a1 < (c.length:Int)) (h2:0<=a2/\a2 < (c.length:Int)) (v:Int):d.set a1.toNat ((Jb d a1).set a2.toNat v)=mk c.length (fun i j=>if i=a1.toNat/\j=a2.toNat then v else db d i j):=by
  obtain⟨i,rfl⟩:=Int.eq_ofNat_of_zero_le h1.1
  obtain⟨j,rfl⟩:=Int.eq_ofNat_of_zero_le h2.1
  rw[Int.toNat_natCast,Int.toNat_natCast]
  have:=mk_set (n:=c.length) (i:=i) (j:=j) (f:=db d) (v:=v) (by omega) (by omega)
  rw[<- mk_of h] at this
  exact this
theorem mk_ok (h:BookP c d) (f:Nat->Nat->Int) (hf:∀i,i < c.length->f i i=0/\∀j,j < c.length->0<=f i j/\f i j<=9):BookP c (mk c.length f):=by
  refine⟨h.1,h.2.1,mk_len _ _,fun i hi=>?_⟩
  have hc:=h.2.2.2 i hi
  refine⟨hc.1,hc.2.1,?_,?_,fun j hj=>?_⟩
  · rw[mk_get hi,rowF_len]
  · rw[mk_get hi,rd_rowF hi];exact(hf i hi).1
  · rw[mk_get hi,rd_rowF hj];exact(hf i hi).2 j hj
theorem debt_ok (h:BookP c d) (h1:0<=a1/\a1 < (c.length:Int)) (h2:0<=a2/\a2 < (c.length:Int)) (hne:a1≠a2) (h3:0<=a3/\a3<=9):BookP c (d.set a1.toNat ((Jb d a1).set a2.toNat a3)):=by
  rw[debt_mk h h1 h2]
  refine mk_ok h _ (fun i hi=>⟨?_,fun j hj=>?_⟩)
  · rw[if_neg (fun z=>hne (by omega))]
    exact(h.2.2.2 i hi).2.2.2.1
  · have:=(h.2.2.2 i hi).2.2.2.2 j hj
    show 0<=(if i=a1.toNat/\j=a2.toNat then a3 else db d i j)/\(if i=a1.toNat/\j=a2.toNat then a3 else db d i j)<=9
    split
    · exact h3
    · exact this
theorem made_ok (h:BookP c d) {x:List Int × List (List Int)} (hm:made c d a0 a1 a2 a3=some x):BookP x.1 x.2/\x.1.length=c.length:=by
  unfold made at hm
  split at hm
  · next g=>obtain rfl:=Option.some.inj hm;exact⟨cash_ok h g.2.1 g.2.2.2,List.length_set⟩
  split at hm
  · next g=>obtain rfl:=Option.some.inj hm;exact⟨debt_ok h g.2.1 g.2.2.1 g.2.2.2.1 g.2.2.2.2,rfl⟩
  split at hm
  · obtain rfl:=Option.some.inj hm;exact⟨net_ok h,rfl⟩
  split at hm
  · obtain rfl:=Option.some.inj hm;exact⟨without_ok h,rfl⟩
  · cases hm
def Mp (c:List Int) (d:List (List Int)) (o:Option (List Int × List (List Int))) (g:Nat->Option (List Int × List (List Int) × Bool)):Prop:=
  ∃c' d' b,Ev g (c',d',b)/\(b=true ↔ ∃x,o=some x/\x≠(c,d))/\(b=true->o=some (c',d'))
theorem Mp.step {o:Option (List Int × List (List Int))} {g f:Nat->Option (List Int × List (List Int) × Bool)} (e:∀k,g (k + 1)=f k) (h:Mp c d o f):Mp c d o g:=by
  obtain⟨c',d',b,h1,h2⟩:=h
  exact⟨c',d',b,Ev.step e h1,h2⟩
theorem Mp.pos {o:Option (List Int × List (List Int))} {p:Prop} [Decidable p] {g f:Nat->Option (List Int × List (List Int) × Bool)} (hp:p) (h:Mp c d o g):Mp c d o (fun k=>if p then g k else f k):=by
  obtain⟨c',d',b,h1,h2⟩:=h
  exact⟨c',d',b,evPos hp h1,h2⟩
theorem Mp.neg {o:Option (List Int × List (List Int))} {p:Prop} [Decidable p] {g f:Nat->Option (List Int × List (List Int) × Bool)} (hp:¬ p) (h:Mp c d o f):Mp c d o (fun k=>if p then g k else f k):=by
  obtain⟨c',d',b,h1,h2⟩:=h
  exact⟨c',d',b,evNeg hp h1,h2⟩
theorem Mp.bind {β:Type} {o:Option (List Int × List (List Int))} {g:Nat->Option β} {f:Nat->β->Option (List Int × List (List Int) × Bool)} {a:β} (e:Ev g a) (h:Mp c d o (fun k=>f k a)):Mp c d o (fun k=>(g k).bind (f k)):=by
  obtain⟨c',d',b,h1,h2⟩:=h
  exact⟨c',d',b,Ev.bind e h1,h2⟩
theorem Mp.bind0 {β:Type} {o:Option (List Int × List (List Int))} {g:Option β} {f:Nat->β->Option (List Int × List (List Int) × Bool)} {a:β} (e:g=some a) (h:Mp c d o (fun k=>f k a)):Mp c d o (fun k=>g.bind (f k)):=by
  obtain⟨c',d',b,h1,h2⟩:=h
  exact⟨c',d',b,evBind0 e h1,h2⟩
theorem Mp.fin (h:BookP c d) {c':List Int} {d':List (List Int)} (h':BookP c' d') (hl:c'.length=c.length):Mp c d (some (c',d')) (fun k=>(F0.f k c' d' c d).bind fun t=>(some (c',d', !t))):=by
  obtain⟨b,hb,he⟩:=same h h' hl
  refine⟨c',d', !b,Ev.bind he (Ev.now _),?_,fun _=>rfl⟩
  constructor
  · intro z
    refine⟨_,rfl,fun e=>?_⟩
    have:b=true:=hb.2 (by simpa using e)
    rw[this] at z;simp at z
  · rintro⟨x,hx,hne⟩
    obtain rfl:=Option.some.inj hx
    have:¬ b=true:=fun z=>hne (by have:=hb.1 z;rw[this.1,this.2])
    simpa using this
theorem Mp.none_:Mp c d none (fun _=>some ([],[],false)):=⟨[],[],false,Ev.now _,by simp,by simp⟩
theorem j1f (h:BookP c d) (h01:¬ (a0=0/\(0<=a1/\a1 < (c.length:Int))/\a2=0/\0<=a3/\a3<=20)) (h02:¬ (a0=1/\(0<=a1/\a1 < (c.length:Int))/\(0<=a2/\a2 < (c.length:Int))/\a1≠a2/\0<=a3/\a3<=9)) :
    Mp c d (made c d a0 a1 a2 a3) (fun k=>Fu.j1 k false c d a0 a1 a2 a3 c d):=by
  refine Mp.step (fun k=>by rw[Fu.j1]) ?_
  refine Mp.neg (by decide) ?_
  unfold made
  rw[if_neg h01,if_neg h02]
  by_cases g2:a0=2/\a1=0/\a2=0/\a3=0
  · rw[if_pos g2]
    refine Mp.pos (by simp[g2]) (Mp.bind (sNetted c d) ?_)
    rw[if_pos h]
    exact Mp.fin h (net_ok h) rfl
  rw[if_neg g2]
  refine Mp.neg (by simpa using g2) ?_
  by_cases g3:a0=3/\a1=0/\a2=0/\a3=0
  · rw[if_pos g3]
    refine Mp.pos (by simp[g3]) (Mp.bind (sWithout c d) ?_)
    rw[if_pos h]
    exact Mp.fin h (without_ok h) rfl
  rw[if_neg g3]
  exact Mp.neg (by simpa using g3) Mp.none_
theorem j0f (h:BookP c d) (h01:¬ (a0=0/\(0<=a1/\a1 < (c.length:Int))/\a2=0/\0<=a3/\a3<=20)) :
    Mp c d (made c d a0 a1 a2 a3) (fun k=>Fu.j0 k (c.length:Int) false c d a0 a1 a2 a3 c d):=by
  have h4:=h.2.1
  have h1l:=h.1
  have hdl:=h.2.2.1
  have hw:Gx (wrap64 ((c.length:Int) - 1)=(c.length:Int) - 1):=⟨w64 (by omega) (by omega)⟩
  refine Mp.step (fun k=>by rw[Fu.j0]) ?_
  rw[hw.out]
  refine Mp.neg (by decide) ?_
  by_cases k1:a0=1
  · refine Mp.pos k1 (Mp.bind0 (sIn _ _ _) ?_)
    by_cases k2:0<=a1/\a1<=(c.length:Int) - 1
    · refine Mp.pos (decide_eq_true k2) (Mp.bind0 (sIn _ _ _) ?_)
      by_cases k3:0<=a2/\a2<=(c.length:Int) - 1
      · refine Mp.pos (decide_eq_true k3) ?_
        by_cases k4:a1=a2
        · exact Mp.pos k4 (j1f h h01 (fun z=>z.2.2.2.1 k4))
        · refine Mp.neg k4 (Mp.bind0 (sIn _ _ _) ?_)
          by_cases k5:0<=a3/\a3<=9
          · rw[decide_eq_true k5]
            refine Mp.step (fun k=>by rw[Fu.j1]) ?_
            have hrl:=(Cr.row_len h (i:=a1) ⟨by omega,by omega⟩)
            refine Mp.pos rfl (Mp.pos (by omega) (Mp.pos (by omega) (Mp.pos (by omega) (Mp.pos (by omega) (Mp.bind0 rfl ?_)))))
            unfold made
            rw[if_neg h01,if_pos ⟨k1,⟨by omega,by omega⟩,⟨by omega,by omega⟩,k4,k5⟩]
            exact Mp.fin h (debt_ok h ⟨by omega,by omega⟩ ⟨by omega,by omega⟩ k4 k5) rfl
          · rw[decide_eq_false k5]
            exact j1f h h01 (fun z=>k5 z.2.2.2.2)
      · exact Mp.neg (by simpa using k3) (j1f h h01 (fun z=>k3 ⟨by omega,by omega⟩))
    · exact Mp.neg (by simpa using k2) (j1f h h01 (fun z=>k2 ⟨by omega,by omega⟩))
  · exact Mp.neg k1 (j1f h h01 (fun z=>k1 z.1))
theorem sMade (h:BookP c d):Mp c d (made c d a0 a1 a2 a3) (fun k=>Fu.f k c d a0 a1 a2 a3):=by
  have h4:=h.2.1
  have h1l:=h.1
  have hw:Gx (wrap64 ((c.length:Int) - 1)=(c.length:Int) - 1):=⟨w64 (by omega) (by omega)⟩
  unfold Fu.f
  refine Mp.bind (scopy h) ?_
  by_cases k1:a0=0
  · refine Mp.pos k1 ?_
    rw[hw.out]
    refine Mp.bind0 (sIn _ _ _) ?_
    by_cases k2:0<=a1/\a1<=(c.length:Int) - 1
    · refine Mp.pos (decide_eq_true k2) ?_
      by_cases k3:a2=0
      · refine Mp.pos k3 (Mp.bind0 (sIn _ _ _) ?_)
        by_cases k4:0<=a3/\a3<=20
        · rw[decide_eq_true k4]
          refine Mp.step (fun k=>by rw[Fu.j0]) ?_
          refine Mp.pos rfl (Mp.pos (by omega) (Mp.pos (by show a1 < (c.length:Int);omega) (Mp.bind0 rfl ?_)))
          unfold made
          rw[if_pos ⟨k1,⟨by omega,by omega⟩,k3,k4⟩]
          exact Mp.fin h (cash_ok h ⟨by omega,by omega⟩ k4) List.length_set
        · rw[decide_eq_false k4]
          exact j0f h (fun z=>k4 z.2.2.2)
      · exact Mp.neg k3 (j0f h (fun z=>k3 z.2.2.1))
    · exact Mp.neg (by simpa using k2) (j0f h (fun z=>k2 ⟨by omega,by omega⟩))
  · exact Mp.neg k1 (j0f h (fun z=>k1 z.1))
end
section
variable {c:List Int} {d:List (List Int)} {ps:List B} {a0 a1 a2 a3:Int}
theorem sDcopy (h:DeskP c d ps):Ev (fun k=>Fm.f k c d ps) (c,d,ps):=by
  unfold Fm.f
  refine Ev.bind (scopy h.1) ?_
  have h8:=h.2.1
  have key:∀(e i:Nat),ps.length - i=e->i<=ps.length->Ev (fun k=>Fm.l0 k (i:Int) c d ps c d (ps.take i)) (c,d,ps):=by
    intro e
    induction e with
    | zero=>
      intro i he hi
      obtain rfl:i=ps.length:=by omega
      refine Ev.step (fun k=>by rw[Fm.l0]) ?_
      rw[List.take_length]
      exact evNeg (by omega) (Ev.now _)
    | succ e ih=>
      intro i he hi
      have hlt:i < ps.length:=by omega
      have hs:Gx (wrap64 ((i:Int) + 1)=((i + 1:Nat):Int)):=⟨wsucc hlt (by omega)⟩
      have htl:(ps.take i).length=i:=by rw[List.length_take];omega
      have hmem:Jc ps (i:Int) ∈ ps:=by rw[rT];exact getD_mem _ ps i hlt
      have e2:ps.take i ++ [Jc ps (i:Int)]=ps.take (i + 1):=by
        rw[rT,List.getD_eq_getElem?_getD,List.getElem?_eq_getElem hlt,List.take_succ_eq_append_getElem hlt];rfl
      refine Ev.step (fun k=>by rw[Fm.l0]) ?_
      rw[hs.out]
      refine evPos (by omega) (evPos (by omega) (Ev.bind (scopy (h.2.2 _ hmem).1) (evPos (by omega) ?_)))
      show Ev (fun k=>Fm.l0 k ((i + 1:Nat):Int) c d ps c d (ps.take i ++ [Jc ps (i:Int)])) _
      rw[e2]
      exact ih (i + 1) (by omega) (by omega)
  exact key ps.length 0 rfl (by omega)
def push (c:List Int) (d:List (List Int)) (ps:List B):List B:=if ps.length + 1 > 8 then(ps ++ [(⟨c,d⟩:B)]).drop 1 else ps ++ [(⟨c,d⟩:B)]
open Classical in
noncomputable def dd (c:List Int) (d:List (List Int)) (ps:List B) (a0 a1 a2 a3:Int):List Int × List (List Int) × List B × Bool:=
  if DeskP c d ps then
    (if (a0=4/\a1=0/\a2=0/\a3=0)/\0 < ps.length then((Jc ps ((ps.length - 1:Nat):Int)).f0,(Jc ps ((ps.length - 1:Nat):Int)).f1,ps.take (ps.length - 1),true)
    else if made c d a0 a1 a2 a3=none ∨ made c d a0 a1 a2 a3=some (c,d) then(c,d,ps,false)
    else(((made c d a0 a1 a2 a3).getD (c,d)).1,((made c d a0 a1 a2 a3).getD (c,d)).2,push c d ps,true))
  else([],[],[],false)
theorem sDo (hp:ps.length<=4611686018427387904):Ev (fun k=>Ge.f k c d ps a0 a1 a2 a3) (dd c d ps a0 a1 a2 a3):=by
  unfold Ge.f dd
  have eA:((a0 == 4 && (a1 == 0 && (a2 == 0 && (a3 == 0))))=true)=(a0=4/\a1=0/\a2=0/\a3=0):=by simp
  by_cases h:DeskP c d ps
  · rw[if_pos h]
    have h8:=h.2.1
    by_cases hb:(a0=4/\a1=0/\a2=0/\a3=0)/\0 < ps.length
    · rw[if_pos hb]
      refine evPos (by rw[eA];exact hb) (Ev.bind ((deskOk c d ps hp).yes h) (evPos rfl (Ev.bind (sDcopy h) ?_)))
      exact evPos ⟨by show 0 < ps.length;exact hb.2,by show ps.length < 2932031007402;omega⟩ (Ev.now _)
    · rw[if_neg hb]
      refine evNeg (by rw[eA];exact hb) ?_
      unfold Gf.f
      refine Ev.bind ((deskOk c d ps hp).yes h) (evPos rfl (Ev.bind (sDcopy h) ?_))
      have key:Ev (fun k=>Gf.j0 k false c d ps a0 a1 a2 a3 c d ps) (if made c d a0 a1 a2 a3=none ∨ made c d a0 a1 a2 a3=some (c,d) then(c,d,ps,false) else(((made c d a0 a1 a2 a3).getD (c,d)).1,((made c d a0 a1 a2 a3).getD (c,d)).2,push c d ps,true)):=by
        obtain⟨c',d',b,h1,h2,h3⟩:=sMade (a0:=a0) (a1:=a1) (a2:=a2) (a3:=a3) h.1
        refine Ev.step (fun k=>by rw[Gf.j0]) ?_
        refine evNeg (by decide) (Ev.bind h1 ?_)
        by_cases hbt:b=true
        · have hm:=h3 hbt
          obtain⟨x,hx,hne⟩:=h2.1 hbt
          rw[hm] at hx
          obtain rfl:=Option.some.inj hx
          have hR:(if made c d a0 a1 a2 a3=none ∨ made c d a0 a1 a2 a3=some (c,d) then(c,d,ps,false) else(((made c d a0 a1 a2 a3).getD (c,d)).1,((made c d a0 a1 a2 a3).getD (c,d)).2,push c d ps,true))=(c',d',push c d ps,true):=by
            rw[hm]
            exact if_neg (fun z=>z.elim (fun z=>by cases z) (fun z=>hne (Option.some.inj z)))
          rw[hR]
          refine evPos hbt (evPos (by omega) (evBind0 rfl ?_))
          have hlen:(ps ++ [(⟨c,d⟩:B)]).length=ps.length + 1:=by simp
          unfold push
          by_cases h9:ps.length + 1 > 8
          · rw[if_pos h9]
            exact evPos (by omega) (evPos (by omega) (Ev.now _))
          · rw[if_neg h9]
            exact evNeg (by omega) (Ev.now _)
        · have hR:(if made c d a0 a1 a2 a3=none ∨ made c d a0 a1 a2 a3=some (c,d) then(c,d,ps,false) else(((made c d a0 a1 a2 a3).getD (c,d)).1,((made c d a0 a1 a2 a3).getD (c,d)).2,push c d ps,true))=(c,d,ps,false):=by
            refine if_pos ?_
            cases hm:made c d a0 a1 a2 a3 with
            | none=>exact .inl rfl
            | some x=>
              right
              apply Classical.byContradiction
              intro hne
              exact hbt (h2.2 ⟨x,hm,fun e=>hne (by rw[e])⟩)
          rw[hR]
          exact evNeg hbt (Ev.now _)
      by_cases hA:a0=4/\a1=0/\a2=0/\a3=0
      · have hz:decide ((ps.length:Int) > 0)=false:=decide_eq_false (fun z=>hb ⟨hA,by omega⟩)
        refine evPos (by rw[eA];exact hA) ?_
        rw[hz]
        exact key
      · exact evNeg (by rw[eA];exact hA) key
  · rw[if_neg h]
    by_cases hb:(a0=4/\a1=0/\a2=0/\a3=0)/\0 < ps.length
    · exact evPos (by rw[eA];exact hb) (Ev.bind ((deskOk c d ps hp).no h) (evNeg (by decide) (Ev.now _)))
    · refine evNeg (by rw[eA];exact hb) ?_
      unfold Gf.f
      exact Ev.bind ((deskOk c d ps hp).no h) (evNeg (by decide) (Ev.now _))
theorem push_len (h8:ps.length<=8):(push c d ps).length<=8/\(push c d ps).length<=ps.length + 1:=by
  unfold push
  split
  · simp;omega
  · simp;omega
theorem push_mem {x:B} (h:x ∈ push c d ps):x ∈ ps ∨ x=⟨c,d⟩:=by
  unfold push at h
  split at h
  · have:=List.mem_of_mem_drop h
    simpa using this
  · simpa using h
theorem dd_ok (h:DeskP c d ps):DeskP (dd c d ps a0 a1 a2 a3).1 (dd c d ps a0 a1 a2 a3).2.1 (dd c d ps a0 a1 a2 a3).2.2.1/\(dd c d ps a0 a1 a2 a3).1.length=c.length/\(dd c d ps a0 a1 a2 a3).2.2.1.length<=ps.length + 1:=by
  have h8:=h.2.1
  unfold dd
  rw[if_pos h]
  split
  · next hb=>
    have hmem:Jc ps ((ps.length - 1:Nat):Int) ∈ ps:=by rw[rT];exact getD_mem _ ps _ (by omega)
    have hk:=h.2.2 _ hmem
    refine⟨⟨hk.1,by simp;omega,fun x hx=>?_⟩,hk.2,by simp;omega⟩
    have:=h.2.2 x (List.mem_of_mem_take hx)
    exact⟨this.1,by rw[this.2,hk.2]⟩
  split
  · exact⟨h,rfl,by show ps.length<=_;omega⟩
  · next hm=>
    have hl:=push_len (c:=c) (d:=d) h8
    cases hq:made c d a0 a1 a2 a3 with
    | none=>exact absurd (.inl hq) hm
    | some x=>
      have hx:=made_ok h.1 hq
      refine⟨⟨hx.1,hl.1,fun y hy=>?_⟩,hx.2,hl.2⟩
      rcases push_mem hy with hy|rfl
      · have:=h.2.2 y hy
        exact⟨this.1,by rw[this.2];exact hx.2.symm⟩
      · exact⟨h.1,hx.2.symm⟩
end
end Go.Proofs.Ytfooakkhkehpiaa.Dd
namespace Go.Proofs.Ytfooakkhkehpiaa.Ow
open Go.RowKit Go.Proofs.Ytfooakkhkehpiaa.PU Go.Proofs.Ytfooakkhkehpiaa.Qh Go.Proofs.Ytfooakkhkehpiaa.Bk Go.Proofs.YtfooakkhkehpiaaW.PrintWords Go.Proofs.YtfooakkhkehpiaaW.PrintMore
set_option linter.unusedVariables false
set_option linter.unusedSimpArgs false
def sm (xs:List Int):Nat->Int
  | 0=>0
  | i + 1=>sm xs i + rd xs (i:Int)
def ow (c:List Int) (d:List (List Int)) (i:Nat):Int:=sm (Jb d (i:Int)) c.length
end Go.Proofs.Ytfooakkhkehpiaa.Ow
namespace Go.Proofs.Ytfooakkhkehpiaa.Ne
open Go.RowKit Go.Proofs.Ytfooakkhkehpiaa.PU Go.Proofs.Ytfooakkhkehpiaa.Qh Go.Proofs.Ytfooakkhkehpiaa.Bk Go.Proofs.Ytfooakkhkehpiaa.Mx Go.Proofs.Ytfooakkhkehpiaa.Ow Go.Proofs.YtfooakkhkehpiaaW.PrintWords Go.Proofs.YtfooakkhkehpiaaW.PrintMore
set_option linter.unusedVariables false
set_option linter.unusedSimpArgs false
variable {c:List Int} {d:List (List Int)}
def cs (d:List (List Int)):Nat->Nat->Int
  | 0,_=>0
  | i + 1,j=>cs d i j + db d i j
end Go.Proofs.Ytfooakkhkehpiaa.Ne
namespace Go.Proofs.Ytfooakkhkehpiaa.Si
open Go.RowKit Go.Proofs.Ytfooakkhkehpiaa.PU Go.Proofs.Ytfooakkhkehpiaa.Qh Go.Proofs.Ytfooakkhkehpiaa.Bk Go.Proofs.Ytfooakkhkehpiaa.Mx Go.Proofs.Ytfooakkhkehpiaa.Cr Go.Proofs.Ytfooakkhkehpiaa.Sk Go.Proofs.YtfooakkhkehpiaaW.PrintWords Go.Proofs.YtfooakkhkehpiaaW.PrintMore
set_option linter.unusedVariables false
set_option linter.unusedSimpArgs false
variable {c:List Int} {d:List (List Int)} {q:List Int}
theorem is_l0 (h:BookP c d) (hq:CirP c.length d q) {r:List Int × List (List Int)} (hR:Ev (fun k=>Fj.l1 k q (lowest d q) q (q.length:Int) 0 c d) r):∀(e k:Nat) (x:Int),q.length - k=e->k<=q.length->low d q e k x=lowest d q->Ev (fun n=>Fj.l0 n q x q (q.length:Int) (k:Int) c d c d) r:=by
  have h4:=h.2.1
  have hdl:=h.2.2.1
  have hql:=hq.1.len
  have hq0:=hq.1.1
  intro e
  induction e with
  | zero=>
    intro k x he hk hx
    refine Ev.step (fun n=>by rw[Fj.l0]) ?_
    refine evNeg (by omega) ?_
    rw[low] at hx
    rw[hx]
    exact hR
  | succ e ih=>
    intro k x he hk hx
    have hlt:k < q.length:=by omega
    have hk1:Gx (wrap64 ((k:Int) + 1)=((k + 1:Nat):Int)):=⟨ki q k hlt (by omega)⟩
    have htm:Gx (Int.tmod ((k + 1:Nat):Int) (q.length:Int)=((nx q k:Nat):Int)):=⟨tm q k⟩
    have a1:=cir_at hq hlt
    have a2:=cir_at hq (nx_lt hq0 k)
    have hn:=nx_lt hq0 k
    have hrl:=row_len h a1
    refine Ev.step (fun n=>by rw[Fj.l0]) ?_
    rw[hk1.out,htm.out]
    refine evPos (by omega) (evPos (by omega) (evPos (by omega) (evPos a1.1 (evPos (by omega) (evNeg (by omega) (evPos (by omega) (evPos (by omega) (evPos a2.1 (evPos (by omega) ?_)))))))))
    exact ih (k + 1) _ (by omega) (by omega) (by rw[low] at hx;exact hx)
theorem is_l1 (h:BookP c d) (hq:CirP c.length d q):∀(e k:Nat),q.length - k=e->k<=q.length->Ev (fun n=>Fj.l1 n q (lowest d q) q (q.length:Int) (k:Int) c (mk c.length (Sk.part d q k))) (c,struck c d q):=by
  have h4:=h.2.1
  have hdl:=h.2.2.1
  have hql:=hq.1.len
  have hq0:=hq.1.1
  intro e
  induction e with
  | zero=>
    intro k he hk
    refine Ev.step (fun n=>by rw[Fj.l1]) ?_
    have:k=q.length:=by omega
    subst this
    exact evNeg (by omega) (Ev.now _)
  | succ e ih=>
    intro k he hk
    have hlt:k < q.length:=by omega
    have hk1:Gx (wrap64 ((k:Int) + 1)=((k + 1:Nat):Int)):=⟨ki q k hlt (by omega)⟩
    have htm:Gx (Int.tmod ((k + 1:Nat):Int) (q.length:Int)=((nx q k:Nat):Int)):=⟨tm q k⟩
    have a1:=cir_at hq hlt
    have a2:=cir_at hq (nx_lt hq0 k)
    have hn:=nx_lt hq0 k
    have hml:=mk_len c.length (Sk.part d q k)
    have hle:=lowest_le hq hlt
    have hlp:=lowest_pos hq
    have hee:=edge_le h hq hlt
    obtain⟨a,ha⟩:=Int.eq_ofNat_of_zero_le a1.1
    obtain⟨b,hb⟩:=Int.eq_ofNat_of_zero_le a2.1
    have hac:a < c.length:=by omega
    have hbc:b < c.length:=by omega
    have hmr:(Jb (mk c.length (Sk.part d q k)) (rd q (k:Int))).length=c.length:=by rw[ha,mk_get hac,rowF_len]
    have hnot:¬ hit q k a b=true:=fun z=>by
      obtain⟨k',h1,h2,_⟩:=hit_iff.1 z
      have:=cir_inj hq (show k' < q.length by omega) hlt (by rw[h2,ha])
      omega
    have hw:Gx (wrap64 (rd (Jb (mk c.length (Sk.part d q k)) (rd q (k:Int))) (rd q ((nx q k:Nat):Int)) - lowest d q)=db d a b - lowest d q):=⟨by
      have e2:edge d q k=db d a b:=by unfold edge;rw[ha,hb]
      rw[ha,hb,mk_get hac,rd_rowF hbc]
      have e3:Sk.part d q k a b=db d a b:=if_neg hnot
      rw[e3, <- e2,w64 (by omega) (by omega)]⟩
    refine Ev.step (fun n=>by rw[Fj.l1]) ?_
    rw[hk1.out,htm.out]
    refine evPos (by omega) (evPos (by omega) (evPos (by omega) (evPos a1.1 (evPos (by omega) (evNeg (by omega) (evPos (by omega) (evPos (by omega) (evPos a2.1 (evPos (by omega) ?_)))))))))
    rw[hw.out,ha,hb,Int.toNat_natCast,Int.toNat_natCast,mk_set hac hbc]
    have:mk c.length (fun i' j'=>if i'=a/\j'=b then db d a b - lowest d q else Sk.part d q k i' j')=mk c.length (Sk.part d q (k + 1)):=mk_congr (fun i hi j hj=>by
      by_cases z:i=a/\j=b
      · rw[if_pos z]
        unfold Sk.part
        rw[if_pos (hit_iff.2 ⟨k,by omega,by rw[ha,z.1],by rw[hb,z.2]⟩),z.1,z.2]
      · rw[if_neg z]
        unfold Sk.part
        have:hit q (k + 1) i j=hit q k i j:=by
          rw[Bool.eq_iff_iff,hit_iff,hit_iff]
          constructor
          · rintro⟨k',h1,h2,h3⟩
            by_cases e':k'=k
            · subst e'
              rw[ha] at h2;rw[hb] at h3
              exact absurd ⟨by omega,by omega⟩ z
            · exact⟨k',by omega,h2,h3⟩
          · rintro⟨k',h1,h2⟩
            exact⟨k',by omega,h2⟩
        rw[this])
    rw[this]
    exact ih (k + 1) (by omega) (by omega)
theorem iStruck (h:BookP c d) (hq:CirP c.length d q):Ev (fun k=>Fj.f k c d q) (c,struck c d q):=by
  unfold Fj.f
  refine Ev.bind (icopy h) (is_l0 h hq ?_ q.length 0 9 rfl (by omega) rfl)
  have:=is_l1 h hq q.length 0 rfl (by omega)
  have e:mk c.length (Sk.part d q 0)=d:=(mk_congr (fun i _ j _=>by unfold Sk.part hit;simp)).trans (mk_of h).symm
  rw[e] at this
  exact this
end Go.Proofs.Ytfooakkhkehpiaa.Si
namespace Go.Proofs.Ytfooakkhkehpiaa.Cq
open Go.RowKit Go.Proofs.Ytfooakkhkehpiaa.PU Go.Proofs.Ytfooakkhkehpiaa.Qh Go.Proofs.Ytfooakkhkehpiaa.Bk Go.Proofs.Ytfooakkhkehpiaa.Mx Go.Proofs.Ytfooakkhkehpiaa.Cr Go.Proofs.YtfooakkhkehpiaaW.PrintWords Go.Proofs.YtfooakkhkehpiaaW.PrintMore
set_option linter.unusedVariables false
set_option linter.unusedSimpArgs false
open Go.Proofs.Ytfooakkhkehpiaa.PU.Circ (walkI rowI stepI lastI foundI cmpI lexc cmpl insL srtL)
variable {c:List Int} {d:List (List Int)}
theorem row_lead {F:List Int->List (List Int)} {p row:List Int} {n a:Nat} (ha:rd p 0=(a:Int)) (han:a < n):∀(e j:Nat),j + e=n->j<=a->rowI F p row e j=rowI F p row (n - a) a
  | 0,j,he,hj=>by omega
  | e + 1,j,he,hj=>by
    by_cases h:j=a
    · subst h
      have:n - j=e + 1:=by omega
      rw[this]
    · rw[rowI]
      have hs:stepI F p row j=[]:=by unfold stepI;rw[if_pos (.inr (by rw[ha];omega))]
      rw[hs,List.nil_append]
      exact row_lead ha han e (j + 1) (by omega) (by omega)
theorem walk_eq (h:BookP c d):∀(m m':Nat) (p:List Int),PathP c.length d p->c.length < m + p.length->c.length < m' + p.length->walkI d m p=P c.length d m' p
  | 0,_,p,hp,hm,_=>by have:=hp.len;omega
  | _,0,p,hp,_,hm=>by have:=hp.len;omega
  | m + 1,m' + 1,p,hp,hm,hm'=>by
    have hh:=hp.head
    have hl:=hp.last
    have hrl:=row_len h hl
    obtain⟨a,ha⟩:=Int.eq_ofNat_of_zero_le hh.1
    have han:a < c.length:=by omega
    have e1:d.getD (lastI p).toNat []=Jb d (la p):=rfl
    rw[walkI,P,e1,hrl,row_lead ha han c.length 0 (by omega) (by omega)]
    have e2:c.length - a=(c.length - (a + 1)) + 1:=by omega
    rw[e2,rowI]
    have ha':(rd p 0).toNat=a:=by rw[ha];rfl
    rw[ha']
    have s0:stepI (walkI d m) p (Jb d (la p)) a=self d p:=by
      unfold stepI self
      have hge:=row_ge h hl (j:=(a:Int)) ⟨by omega,by omega⟩
      rw[ha]
      by_cases hz:rd (Jb d (la p)) (a:Int)=0
      · rw[if_pos (.inl hz),if_neg (fun z=>by have:=z.2;omega)]
      · rw[if_neg (fun z=>z.elim hz (fun y=>by omega)),if_pos rfl]
        have h1:1 < p.length:=by
          apply Classical.byContradiction
          intro h1
          have hp0:=hp.1
          have hp1:p.length=1:=by omega
          have e3:la p=(a:Int):=by unfold la;rw[hp1];exact ha
          rw[e3] at hz
          exact hz (h.2.2.2 a han).2.2.2.1
        rw[if_pos ⟨h1,by omega⟩]
    rw[s0]
    congr 1
    have key:∀(e j:Nat),j + e=c.length->a < j->rowI (walkI d m) p (Jb d (la p)) e j=rest (P c.length d m') d p e j:=by
      intro e
      induction e with
      | zero=>intro j _ _;rfl
      | succ e ih=>
        intro j he hj
        rw[rowI,rest,ih (j + 1) (by omega) (by omega)]
        congr 1
        unfold stepI
        have hge:=row_ge h hl (j:=(j:Int)) ⟨by omega,by omega⟩
        rw[ha]
        by_cases hz:rd (Jb d (la p)) (j:Int)=0
        · rw[if_pos (.inl hz),if_pos (.inl hz)]
        · rw[if_neg (fun z=>z.elim hz (fun y=>by omega)),if_neg (by omega)]
          by_cases hm:(j:Int) ∈ p
          · rw[if_pos hm,if_pos (.inr hm)]
          · rw[if_neg hm,if_neg (fun z=>z.elim hz hm)]
            have hs:=hp.snoc (j:=j) (by omega) (by omega) hm (by omega)
            exact walk_eq h m m' _ hs (by rw[List.length_append,List.length_singleton];omega) (by rw[List.length_append,List.length_singleton];omega)
    exact key _ (a + 1) (by omega) (by omega)
theorem found_eq (h:BookP c d):∀(e i:Nat),i + e=c.length->foundI d e i=found c.length d e i
  | 0,_,_=>rfl
  | e + 1,i,hi=>by
    have h4:=h.2.1
    have hdl:=h.2.2.1
    rw[foundI,found,found_eq h e (i + 1) (by omega),walk_eq h d.length 4 [(i:Int)] (PathP.one (by omega)) (by rw[List.length_singleton];omega) (by rw[List.length_singleton];omega)]
def cR (F:List Int->Nat) (p:List Int):Nat->Nat->Nat
  | 0,_=>0
  | e + 1,j=>(if (j:Int) ∈ p then 0 else F (p ++ [(j:Int)])) + cR F p e (j + 1)
def cP (n:Nat):Nat->List Int->Nat
  | 0,_=>0
  | m + 1,p=>(if 1 < p.length then 1 else 0) + cR (cP n m) p (n - ((rd p 0).toNat + 1)) ((rd p 0).toNat + 1)
def cF (n:Nat):Nat->Nat->Nat
  | 0,_=>0
  | e + 1,i=>cP n 4 [(i:Int)] + cF n e (i + 1)
theorem cR_le {F:List Int->List (List Int)} {G:List Int->Nat} (hFG:∀q,(F q).length<=G q) (p:List Int):∀(e j:Nat),(rest F d p e j).length<=cR G p e j
  | 0,_=>Nat.le_refl _
  | e + 1,j=>by
    rw[rest,cR,List.length_append]
    have h1:=cR_le hFG p e (j + 1)
    have h2:(if rd (Jb d (la p)) (j:Int)=0 ∨ (j:Int) ∈ p then[] else F (p ++ [(j:Int)])).length<=(if (j:Int) ∈ p then 0 else G (p ++ [(j:Int)])):=by
      by_cases hm:(j:Int) ∈ p
      · rw[if_pos (.inr hm),if_pos hm];exact Nat.le_refl _
      · rw[if_neg hm]
        split
        · exact Nat.zero_le _
        · exact hFG _
    omega
theorem cP_le (n:Nat):∀(m:Nat) (p:List Int),(P n d m p).length<=cP n m p
  | 0,_=>Nat.le_refl _
  | m + 1,p=>by
    rw[P,cP,List.length_append]
    have h1:=cR_le (d:=d) (cP_le n m) p (n - ((rd p 0).toNat + 1)) ((rd p 0).toNat + 1)
    have h2:(self d p).length<=if 1 < p.length then 1 else 0:=by
      unfold self
      by_cases h:1 < p.length
      · rw[if_pos h];split <;> simp
      · rw[if_neg h,if_neg (fun z=>h z.1)];exact Nat.le_refl _
    omega
theorem cF_le (n:Nat):∀(e i:Nat),(found n d e i).length<=cF n e i
  | 0,_=>Nat.le_refl _
  | e + 1,i=>by
    rw[found,cF,List.length_append]
    have h1:=cP_le (d:=d) n 4 [(i:Int)]
    have h2:=cF_le n e (i + 1)
    omega
theorem cF4:∀n,n<=4->cF n n 0<=20
  | 0,_=>by decide
  | 1,_=>by decide
  | 2,_=>by decide
  | 3,_=>by decide
  | 4,_=>by decide
  | n + 5,h=>by omega
theorem cmpI_lt (a b:Int):(cmpI a b < 0 ↔ a < b)/\(cmpI a b=0 ↔ a=b):=by
  unfold cmpI
  by_cases h:a < b
  · rw[if_pos h];exact⟨⟨fun _=>h,fun _=>by decide⟩,⟨fun z=>by simp at z,fun z=>by omega⟩⟩
  · rw[if_neg h]
    by_cases h2:a > b
    · rw[if_pos h2];exact⟨⟨fun z=>by simp at z,fun z=>by omega⟩,⟨fun z=>by simp at z,fun z=>by omega⟩⟩
    · rw[if_neg h2];exact⟨⟨fun z=>by simp at z,fun z=>by omega⟩,⟨fun _=>by omega,fun _=>rfl⟩⟩
theorem lex_lt:∀(a b:List Int),a.length=b.length->(lexc a b < 0 ↔ lexlt a b=true)
  | [],[],_=>by simp[lexc,lexlt]
  | [],_ :: _,h=>by simp at h
  | _ :: _,[],h=>by simp at h
  | a :: r,b :: s,h=>by
    rw[lexc,lexlt]
    have hc:=cmpI_lt a b
    by_cases e:a=b
    · rw[if_pos (hc.2.2 e),if_pos e];exact lex_lt r s (by simpa using h)
    · rw[if_neg (fun z=>e (hc.2.1 z)),if_neg e,hc.1];simp
theorem cmp_bef (a b:List Int):cmpl a b < 0 ↔ bef a b=true:=by
  unfold cmpl bef
  have hc:=cmpI_lt (a.length:Int) (b.length:Int)
  by_cases e:a.length=b.length
  · rw[if_pos (hc.2.2 (by omega)),if_pos e];exact lex_lt a b e
  · rw[if_neg (fun z=>e (by have:=hc.2.1 z;omega)),if_neg e,hc.1];simp
theorem insL_eq:∀(j:Nat) (xs:List (List Int)),insL j xs=ins bef j xs
  | 0,_=>rfl
  | j + 1,xs=>by
    rw[insL,ins]
    by_cases h:bef (xs.getD (j + 1) []) (xs.getD j [])=true
    · rw[if_pos ((cmp_bef _ _).2 h),if_pos h];exact insL_eq j _
    · rw[if_neg (fun z=>h ((cmp_bef _ _).1 z)),if_neg h]
theorem srtL_eq:∀(e i:Nat) (xs:List (List Int)),srtL e i xs=srt bef e i xs
  | 0,_,_=>rfl
  | e + 1,i,xs=>by rw[srtL,srt,insL_eq,srtL_eq e]
theorem circ_20 (h:BookP c d):(circ c d).length<=20:=by
  rw[circ_len]
  exact Nat.le_trans (cF_le c.length c.length 0) (cF4 c.length h.2.1)
theorem iCircles (h:BookP c d):Ev (fun k=>Gq.f k c d) (circ c d):=by
  have h4:=h.2.1
  have hdl:=h.2.2.1
  have h20:=circ_20 h
  rw[circ_len] at h20
  have e:∀k,Gq.f k c d=some (circ c d):=fun k=>by
    unfold Gq.f
    rw[hdl,found_eq h c.length 0 (by omega),if_pos ⟨rfl,h4,fun i hi=>(h.2.2.2 i hi).2.2.1,h20⟩,srtL_eq]
    rfl
  simp only[e]
  exact Ev.now _
end Go.Proofs.Ytfooakkhkehpiaa.Cq
namespace Go.Proofs.Ytfooakkhkehpiaa.Wi
open Go.RowKit Go.Proofs.Ytfooakkhkehpiaa.PU Go.Proofs.Ytfooakkhkehpiaa.Qh Go.Proofs.Ytfooakkhkehpiaa.Bk Go.Proofs.Ytfooakkhkehpiaa.Mx Go.Proofs.Ytfooakkhkehpiaa.Ow Go.Proofs.Ytfooakkhkehpiaa.Cr Go.Proofs.Ytfooakkhkehpiaa.Sk Go.Proofs.Ytfooakkhkehpiaa.Sn Go.Proofs.YtfooakkhkehpiaaW.PrintWords Go.Proofs.YtfooakkhkehpiaaW.PrintMore
set_option linter.unusedVariables false
set_option linter.unusedSimpArgs false
open Go.Proofs.Ytfooakkhkehpiaa.Ne (cs)
variable {c:List Int} {d:List (List Int)}
theorem no_more (h:BookP c d) (ht:tot c d<=0):(circ c d).length=0:=by
  apply Classical.byContradiction
  intro hz
  have hq:=mem_circ h (getD_mem [] (circ c d) 0 (by omega))
  have h1:=struck_less h hq
  have h2:=tot_bd (struck_ok h hq)
  omega
theorem iWoc:∀(N:Nat) (d:List (List Int)) (n:Int),BookP c d->tot c d<=(N:Int)->0<=n->n + N<=1000->Ev (fun k=>Fe.l0 k n c d) (c,(woc c N d n).1,(woc c N d n).2):=by
  intro N
  induction N with
  | zero=>
    intro d n h ht hn hN
    refine Ev.step (fun k=>by rw[Fe.l0]) ?_
    refine Ev.bind (Cq.iCircles h) ?_
    have hz:=no_more h (by omega)
    exact evPos (by omega) (Ev.now _)
  | succ N ih=>
    intro d n h ht hn hN
    refine Ev.step (fun k=>by rw[Fe.l0]) ?_
    refine Ev.bind (Cq.iCircles h) ?_
    by_cases hz:(circ c d).length=0
    · refine evPos (by omega) (evEq (Ev.now _) ?_)
      rw[woc,if_pos hz]
    · refine evNeg (by omega) (evPos (by omega) ?_)
      have hq:=mem_circ h (getD_mem [] (circ c d) 0 (by omega))
      have e1:Jb (circ c d) 0=(circ c d).getD 0 []:=rfl
      rw[e1]
      refine Ev.bind (Si.iStruck h hq) ?_
      have hw:wrap64 (n + 1)=n + 1:=w64 (by omega) (by omega)
      rw[hw]
      have h1:=struck_less h hq
      refine evEq (ih _ (n + 1) (struck_ok h hq) (by show tot c (struck c d ((circ c d).getD 0 []))<=(N:Int);omega) (by omega) (by omega)) ?_
      rw[woc,if_neg hz]
theorem iwithout (h:BookP c d):Ev (fun k=>Fe.f k c d) (c,(without c d).1,(without c d).2):=by
  unfold Fe.f
  exact Ev.bind (icopy h) (iWoc 144 d 0 h (tot_bd h).2 (by omega) (by omega))
end Go.Proofs.Ytfooakkhkehpiaa.Wi
namespace Go.Proofs.Ytfooakkhkehpiaa.Id
open Go.RowKit Go.Proofs.Ytfooakkhkehpiaa.PU Go.Proofs.Ytfooakkhkehpiaa.Qh Go.Proofs.Ytfooakkhkehpiaa.Bk Go.Proofs.Ytfooakkhkehpiaa.Mx Go.Proofs.Ytfooakkhkehpiaa.Nt Go.Proofs.Ytfooakkhkehpiaa.Dk Go.Proofs.Ytfooakkhkehpiaa.Sk Go.Proofs.Ytfooakkhkehpiaa.Dd Go.Proofs.YtfooakkhkehpiaaW.PrintWords Go.Proofs.YtfooakkhkehpiaaW.PrintMore
set_option linter.unusedVariables false
set_option linter.unusedSimpArgs false
section
variable {c c':List Int} {d d':List (List Int)} {ps:List B} {a0 a1 a2 a3:Int}
theorem isBank (c:List Int) (d:List (List Int)) (a:Int):EvB (fun k=>Gj.f k c d a) (BookP c d/\0<=a/\a < c.length):=by
  unfold Gj.f
  obtain⟨b,hb,e⟩:=isBook c d
  refine EvB.bind e ?_
  by_cases h:BookP c d
  · refine EvB.pos (hb.2 h) ?_
    by_cases h0:a ≥ 0
    · refine EvB.pos h0 ⟨_,?_,Ev.now _⟩
      rw[decide_eq_true_iff]
      exact⟨fun z=>⟨h,h0,z⟩,fun z=>z.2.2⟩
    · exact EvB.neg h0 (EvB.ff (fun z=>h0 z.2.1))
  · exact EvB.neg (fun z=>h (hb.1 z)) (EvB.ff (fun z=>h z.1))
theorem iDcopy (h:DeskP c d ps):Ev (fun k=>Fp.f k c d ps) (c,d,ps):=by
  unfold Fp.f
  refine Ev.bind (icopy h.1) ?_
  have h8:=h.2.1
  have key:∀(e i:Nat),ps.length - i=e->i<=ps.length->Ev (fun k=>Fp.l0 k ps (ps.length:Int) (i:Int) c d (ps.take i)) (c,d,ps):=by
    intro e
    induction e with
    | zero=>
      intro i he hi
      obtain rfl:i=ps.length:=by omega
      refine Ev.step (fun k=>by rw[Fp.l0]) ?_
      rw[List.take_length]
      exact evNeg (by omega) (Ev.now _)
    | succ e ih=>
      intro i he hi
      have hlt:i < ps.length:=by omega
      have hs:Gx (wrap64 ((i:Int) + 1)=((i + 1:Nat):Int)):=⟨wsucc hlt (by omega)⟩
      have htl:(ps.take i).length=i:=by rw[List.length_take];omega
      have hmem:Jc ps (i:Int) ∈ ps:=by rw[rT];exact getD_mem _ ps i hlt
      have e2:ps.take i ++ [Jc ps (i:Int)]=ps.take (i + 1):=by
        rw[rT,List.getD_eq_getElem?_getD,List.getElem?_eq_getElem hlt,List.take_succ_eq_append_getElem hlt];rfl
      refine Ev.step (fun k=>by rw[Fp.l0]) ?_
      rw[hs.out]
      refine evPos (by omega) (evPos (by omega) (evPos (by omega) (Ev.bind (icopy (h.2.2 _ hmem).1) (evPos (by omega) ?_))))
      show Ev (fun k=>Fp.l0 k ps (ps.length:Int) ((i + 1:Nat):Int) c d (ps.take i ++ [Jc ps (i:Int)])) _
      rw[e2]
      exact ih (i + 1) (by omega) (by omega)
  exact key ps.length 0 rfl (by omega)
theorem eqI_l (a b:List Int) (ha:a.length<=4611686018427387904) (hl:a.length=b.length):∀(e i:Nat),a.length - i=e->i<=a.length->EvB (fun k=>Fx.l0 k a b (a.length:Int) (i:Int)) (∀i':Nat,i<=i'->i' < a.length->rd a (i':Int)=rd b (i':Int)):=by
  intro e
  induction e with
  | zero=>
    intro i he hi
    refine EvB.step (fun k=>by rw[Fx.l0]) ?_
    exact EvB.neg (by omega) (EvB.tt (fun i' h1 h2=>by omega))
  | succ e ih=>
    intro i he hi
    have hlt:i < a.length:=by omega
    have hs:wrap64 ((i:Int) + 1)=((i + 1:Nat):Int):=wsucc hlt ha
    refine EvB.step (fun k=>by rw[Fx.l0]) ?_
    rw[hs]
    refine EvB.pos (by omega) (EvB.pos (by omega) (EvB.pos (by omega) (EvB.pos (by omega) ?_)))
    by_cases h:rd a (i:Int)=rd b (i:Int)
    · refine EvB.pos h ((ih (i + 1) (by omega) (by omega)).congr ⟨fun z i' h1 h2=>?_,fun z i' h1 h2=>z i' (by omega) h2⟩)
      by_cases e':i'=i
      · subst e';exact h
      · exact z i' (by omega) h2
    · exact EvB.neg h (EvB.ff (fun z=>h (z i (Nat.le_refl _) hlt)))
theorem eqI (a b:List Int) (ha:a.length<=4611686018427387904):EvB (fun k=>Fx.f k a b) (a=b):=by
  unfold Fx.f
  by_cases hl:a.length=b.length
  · exact EvB.pos (by omega) ((eqI_l a b ha hl _ 0 rfl (by omega)).congr ⟨fun z=>ext_rd a b hl (fun i hi=>z i (by omega) hi),fun z i' _ _=>by rw[z]⟩)
  · exact EvB.neg (by omega) (EvB.ff (fun z=>hl (by rw[z])))
theorem eqEl:∀(a b:List (List Int)),(∀x ∈ a,x.length<=4611686018427387904)->a.length=b.length->EvB (fun k=>F9.el k a b) (a=b)
  | [],[],_,_=>EvB.tt rfl
  | x :: r,y :: s,h,hl=>by
    show EvB (fun k=>(Fx.f k x y).bind fun t=>if t=true then F9.el k r s else some false) _
    obtain⟨t,ht,e⟩:=eqI x y (h x List.mem_cons_self)
    refine EvB.bind e ?_
    by_cases hx:x=y
    · refine EvB.pos (ht.2 hx) ((eqEl r s (fun z hz=>h z (List.mem_cons_of_mem _ hz)) (by simpa using hl)).congr ?_)
      rw[hx];simp
    · exact EvB.neg (fun z=>hx (ht.1 z)) (EvB.ff (fun z=>hx (by injection z)))
theorem sameB (h:BookP c' d') (c:List Int) (d:List (List Int)):EvB (fun k=>Gs.f k c' d' c d) (c'=c/\d'=d):=by
  have h4:=h.2.1
  have hdl:=h.2.2.1
  unfold Gs.f
  obtain⟨t,ht,e⟩:=eqI c' c (by omega)
  refine EvB.bind e ?_
  by_cases hc:c'=c
  · refine EvB.pos (ht.2 hc) ?_
    have key:EvB (fun k=>F9.f k d' d) (d'=d):=by
      unfold F9.f
      by_cases hl:d'.length=d.length
      · refine EvB.pos (by omega) (eqEl d' d (fun x hx=>?_) hl)
        obtain⟨i,hi,rfl⟩:=List.mem_iff_getElem.mp hx
        have:=(h.2.2.2 i (by omega)).2.2.1
        rw[rL,List.getD_eq_getElem?_getD,List.getElem?_eq_getElem hi] at this
        simp only[Option.getD_some] at this
        omega
      · exact EvB.neg (by omega) (EvB.ff (fun z=>hl (by rw[z])))
    obtain⟨u,hu,eu⟩:=key
    exact EvB.bind eu ⟨u,hu.trans ⟨fun z=>⟨hc,z⟩,fun z=>z.2⟩,Ev.now _⟩
  · exact EvB.neg (fun z=>hc (ht.1 z)) (EvB.ff (fun z=>hc z.1))
def Np (o:Option (List Int × List (List Int))) (g:Nat->Option (List Int × List (List Int) × Bool)):Prop:=
  ∃c' d' b,Ev g (c',d',b)/\(b=true->o=some (c',d'))/\(¬ b=true->o=none)
theorem Np.step {o:Option (List Int × List (List Int))} {g f:Nat->Option (List Int × List (List Int) × Bool)} (e:∀k,g (k + 1)=f k) (h:Np o f):Np o g:=by
  obtain⟨c',d',b,h1,h2⟩:=h
  exact⟨c',d',b,Ev.step e h1,h2⟩
theorem Np.pos {o:Option (List Int × List (List Int))} {p:Prop} [Decidable p] {g f:Nat->Option (List Int × List (List Int) × Bool)} (hp:p) (h:Np o g):Np o (fun k=>if p then g k else f k):=by
  obtain⟨c',d',b,h1,h2⟩:=h
  exact⟨c',d',b,evPos hp h1,h2⟩
theorem Np.neg {o:Option (List Int × List (List Int))} {p:Prop} [Decidable p] {g f:Nat->Option (List Int × List (List Int) × Bool)} (hp:¬ p) (h:Np o f):Np o (fun k=>if p then g k else f k):=by
  obtain⟨c',d',b,h1,h2⟩:=h
  exact⟨c',d',b,evNeg hp h1,h2⟩
theorem Np.bind {β:Type} {o:Option (List Int × List (List Int))} {g:Nat->Option β} {f:Nat->β->Option (List Int × List (List Int) × Bool)} {a:β} (e:Ev g a) (h:Np o (fun k=>f k a)):Np o (fun k=>(g k).bind (f k)):=by
  obtain⟨c',d',b,h1,h2⟩:=h
  exact⟨c',d',b,Ev.bind e h1,h2⟩
theorem Np.bind0 {β:Type} {o:Option (List Int × List (List Int))} {g:Option β} {f:Nat->β->Option (List Int × List (List Int) × Bool)} {a:β} (e:g=some a) (h:Np o (fun k=>f k a)):Np o (fun k=>g.bind (f k)):=by
  obtain⟨c',d',b,h1,h2⟩:=h
  exact⟨c',d',b,evBind0 e h1,h2⟩
theorem Np.yes:Np (some (c',d')) (fun _=>some (c',d',true)):=⟨c',d',true,Ev.now _,fun _=>rfl,fun z=>absurd rfl z⟩
theorem Np.no:Np none (fun _=>some ([],[],false)):=⟨[],[],false,Ev.now _,fun z=>by simp at z,fun _=>rfl⟩
theorem Np.book {o:Option (List Int × List (List Int))} (hp:BookP c' d'->o=some (c',d')) (hn:¬ BookP c' d'->o=none):Np o (fun k=>(Fi.f k c' d').bind fun t=>some (c',d',t)):=by
  obtain⟨b,hb,e⟩:=isBook c' d'
  exact⟨c',d',b,Ev.bind e (Ev.now _),fun z=>hp (hb.1 z),fun z=>hn (fun w=>z (hb.2 w))⟩
theorem j1f (h:BookP c d) (h0:¬ (a0=0/\(0<=a1/\a1 < (c.length:Int))/\a2=0)) (h1:¬ (a0=1/\(0<=a1/\a1 < (c.length:Int))/\(0<=a2/\a2 < (c.length:Int))/\a1≠a2)):Np (made c d a0 a1 a2 a3) (fun k=>Fs.j1 k false c d a0 a1 a2 a3):=by
  refine Np.step (fun k=>by rw[Fs.j1]) ?_
  refine Np.neg (by decide) ?_
  unfold made
  rw[if_neg (fun z=>h0 ⟨z.1,z.2.1,z.2.2.1⟩),if_neg (fun z=>h1 ⟨z.1,z.2.1,z.2.2.1,z.2.2.2.1⟩)]
  by_cases g2:a0=2/\a1=0/\a2=0/\a3=0
  · rw[if_pos g2]
    exact Np.pos (by simp[g2]) (Np.bind (inetted h) Np.yes)
  rw[if_neg g2]
  refine Np.neg (by simpa using g2) ?_
  by_cases g3:a0=3/\a1=0/\a2=0/\a3=0
  · rw[if_pos g3]
    exact Np.pos (by simp[g3]) (Np.bind (Wi.iwithout h) Np.yes)
  rw[if_neg g3]
  exact Np.neg (by simpa using g3) Np.no
theorem j0f (h:BookP c d) (h0:¬ (a0=0/\(0<=a1/\a1 < (c.length:Int))/\a2=0)):Np (made c d a0 a1 a2 a3) (fun k=>Fs.j0 k false c d a0 a1 a2 a3):=by
  have hdl:=h.2.2.1
  refine Np.step (fun k=>by rw[Fs.j0]) ?_
  refine Np.neg (by decide) ?_
  by_cases k1:a0=1
  · obtain⟨b1,hb1,e1⟩:=isBank c d a1
    refine Np.pos k1 (Np.bind e1 ?_)
    by_cases k2:0<=a1/\a1 < (c.length:Int)
    · obtain⟨b2,hb2,e2⟩:=isBank c d a2
      refine Np.pos (hb1.2 ⟨h,k2⟩) (Np.bind e2 ?_)
      by_cases k3:0<=a2/\a2 < (c.length:Int)
      · refine Np.pos (hb2.2 ⟨h,k3⟩) ?_
        by_cases k4:a1=a2
        · have:(a1 != a2)=false:=bne_eq_false_iff_eq.mpr k4
          rw[this]
          exact j1f h h0 (fun z=>z.2.2.2 k4)
        · have:(a1 != a2)=true:=bne_iff_ne.mpr k4
          rw[this]
          have hrl:=Cr.row_len h (i:=a1) ⟨by omega,by omega⟩
          refine Np.step (fun k=>by rw[Fs.j1]) ?_
          refine Np.pos rfl (Np.bind (icopy h) (Np.pos k2.1 (Np.pos (by show a1 < (d.length:Int);omega) (Np.pos k3.1 (Np.pos (by show a2 < ((Jb d a1).length:Int);omega) (Np.bind0 rfl ?_))))))
          unfold made
          rw[if_neg (fun z=>h0 ⟨z.1,z.2.1,z.2.2.1⟩)]
          refine Np.book (fun z=>?_) (fun z=>?_)
          · have hi:a1.toNat < c.length:=by omega
            have hj:a2.toNat < c.length:=by omega
            have z2:=(z.2.2.2 a1.toNat hi).2.2.2.2 a2.toNat hj
            rw[debt_mk h k2 k3,mk_get hi,rd_rowF hj,if_pos ⟨rfl,rfl⟩] at z2
            rw[if_pos ⟨k1,k2,k3,k4,z2⟩]
          · rw[if_neg (fun w=>z (debt_ok h w.2.1 w.2.2.1 w.2.2.2.1 w.2.2.2.2)),if_neg (by omega),if_neg (by omega)]
      · exact Np.neg (fun z=>k3 (hb2.1 z).2) (j1f h h0 (fun z=>k3 z.2.2.1))
    · exact Np.neg (fun z=>k2 (hb1.1 z).2) (j1f h h0 (fun z=>k2 z.2.1))
  · exact Np.neg k1 (j1f h h0 (fun z=>k1 z.1))
theorem nextBook (h:BookP c d):Np (made c d a0 a1 a2 a3) (fun k=>Fs.f k c d a0 a1 a2 a3):=by
  unfold Fs.f
  by_cases k0:a0=0
  · refine Np.pos k0 ?_
    by_cases k2:a2=0
    · obtain⟨b1,hb1,e1⟩:=isBank c d a1
      refine Np.pos k2 (Np.bind e1 ?_)
      by_cases k1:0<=a1/\a1 < (c.length:Int)
      · rw[hb1.2 ⟨h,k1⟩]
        refine Np.step (fun k=>by rw[Fs.j0]) ?_
        have hw:Ev (fun k=>Gv.f k c d a1 a3) (c.set a1.toNat a3,d):=by
          unfold Gv.f
          exact Ev.bind (icopy h) (evPos k1.1 (evPos k1.2 (Ev.now _)))
        refine Np.pos rfl (Np.bind hw ?_)
        unfold made
        refine Np.book (fun z=>?_) (fun z=>?_)
        · have hl:(c.set a1.toNat a3).length=c.length:=List.length_set
          have z2:=z.2.2.2 a1.toNat (by rw[hl];omega)
          have e:rd (c.set a1.toNat a3) (a1.toNat:Int)=a3:=by
            rw[rd_set c a3 a1 _ k1.1 k1.2 (by omega),if_pos (by omega)]
          have z3:=z2.1
          have z4:=z2.2.1
          rw[e] at z3 z4
          rw[if_pos ⟨k0,k1,k2,z3,z4⟩]
        · rw[if_neg (fun w=>z (cash_ok h w.2.1 w.2.2.2)),if_neg (by omega),if_neg (by omega),if_neg (by omega)]
      · have:b1=false:=by
          cases b1 with
          | false=>rfl
          | true=>exact absurd (hb1.1 rfl).2 k1
        rw[this]
        exact j0f h (fun z=>k1 z.2.1)
    · exact Np.neg k2 (j0f h (fun z=>k2 z.2.2))
  · exact Np.neg k0 (j0f h (fun z=>k0 z.1))
theorem made4:made c d 4 0 0 0=none:=by
  unfold made
  rw[if_neg (by omega),if_neg (by omega),if_neg (by omega),if_neg (by omega)]
theorem iDo (h:DeskP c d ps):Ev (fun k=>F6.f k c d ps a0 a1 a2 a3) (dd c d ps a0 a1 a2 a3):=by
  have h8:=h.2.1
  unfold F6.f dd
  rw[if_pos h]
  refine Ev.bind (iDcopy h) ?_
  have hw:Gx (wrap64 ((ps.length:Int) - 1)=(ps.length:Int) - 1):=⟨w64 (by omega) (by omega)⟩
  show Ev (fun k=>if (a0 == 4 && (a1 == 0 && (a2 == 0 && (a3 == 0))))=true then(if (wrap64 ((ps.length:Int) - 1)) < 0 then(some (c,d,ps,false)) else(if 0<=(wrap64 ((ps.length:Int) - 1)) then(if (wrap64 ((ps.length:Int) - 1)) < (ps.length:Int) then(if (wrap64 ((ps.length:Int) - 1))<=(ps.length:Int) then((Fp.f k ((Jc ps (wrap64 ((ps.length:Int) - 1))).f0) ((Jc ps (wrap64 ((ps.length:Int) - 1))).f1) (ps.take ((wrap64 ((ps.length:Int) - 1)):Int).toNat)).bind fun bt=>(some (bt.1,bt.2.1,bt.2.2,true))) else(none)) else(none)) else(none))) else((Fs.f k c d a0 a1 a2 a3).bind fun bt525=>(if bt525.2.2=true then((Gs.f k bt525.1 bt525.2.1 c d).bind fun cn3=>(F6.j0 k cn3 c d ps bt525.1 bt525.2.1)) else(F6.j0 k true c d ps bt525.1 bt525.2.1)))) _
  rw[hw.out]
  by_cases hA:a0=4/\a1=0/\a2=0/\a3=0
  · refine evPos (by simp[hA]) ?_
    by_cases hp:0 < ps.length
    · rw[if_pos ⟨hA,hp⟩]
      refine evNeg (by omega) (evPos (by omega) (evPos (by omega) (evPos (by omega) ?_)))
      have e1:(ps.length:Int) - 1=((ps.length - 1:Nat):Int):=by omega
      rw[e1,Int.toNat_natCast]
      have hmem:Jc ps ((ps.length - 1:Nat):Int) ∈ ps:=by rw[rT];exact getD_mem _ ps _ (by omega)
      have hk:=h.2.2 _ hmem
      refine Ev.bind (iDcopy ⟨hk.1,by rw[List.length_take];omega,fun x hx=>?_⟩) (Ev.now _)
      have:=h.2.2 x (List.mem_of_mem_take hx)
      exact⟨this.1,by rw[this.2,hk.2]⟩
    · obtain⟨rfl,rfl,rfl,rfl⟩:=hA
      rw[if_neg (fun z=>hp z.2),if_pos (.inl made4)]
      exact evPos (by omega) (Ev.now _)
  · rw[if_neg (fun z=>hA z.1)]
    refine evNeg (by simpa using hA) ?_
    obtain⟨c',d',b,e,hy,hn⟩:=nextBook (a0:=a0) (a1:=a1) (a2:=a2) (a3:=a3) h.1
    refine Ev.bind e ?_
    have stop:Ev (fun k=>F6.j0 k true c d ps c' d') (c,d,ps,false):=by
      refine Ev.step (fun k=>by rw[F6.j0]) ?_
      exact evPos rfl (Ev.now _)
    by_cases hb:b=true
    · have hm:=hy hb
      have hok:=made_ok h.1 hm
      obtain⟨t,ht,es⟩:=sameB hok.1 c d
      refine evPos hb (Ev.bind es ?_)
      by_cases hs:c'=c/\d'=d
      · rw[if_pos (.inr (by rw[hm,hs.1,hs.2])),ht.2 hs]
        exact stop
      · have htf:t=false:=by
          cases t with
          | false=>rfl
          | true=>exact absurd (ht.1 rfl) hs
        rw[if_neg (fun z=>z.elim (fun z=>by rw[hm] at z;cases z) (fun z=>hs (by rw[hm] at z;have:=Option.some.inj z;exact⟨congrArg Prod.fst this,congrArg Prod.snd this⟩))),htf,hm]
        refine Ev.step (fun k=>by rw[F6.j0]) ?_
        have hlen:(ps ++ [(⟨c,d⟩:B)]).length=ps.length + 1:=by simp
        have hD:DeskP c' d' (push c d ps):=by
          refine⟨hok.1,(push_len h8).1,fun x hx=>?_⟩
          rcases push_mem hx with hx|rfl
          · have:=h.2.2 x hx
            exact⟨this.1,by rw[this.2];exact hok.2.symm⟩
          · exact⟨h.1,hok.2.symm⟩
        refine evNeg (by decide) (evPos (by omega) (evBind0 rfl ?_))
        show Ev _ (c',d',push c d ps,true)
        by_cases h9:ps.length + 1 > 8
        · refine evPos (by omega) (evPos (by omega) ?_)
          have e1:push c d ps=(ps ++ [(⟨c,d⟩:B)]).drop (1:Int).toNat:=by unfold push;rw[if_pos h9];rfl
          rw[<- e1]
          exact Ev.bind (iDcopy hD) (Ev.now _)
        · refine evNeg (by omega) ?_
          have e1:push c d ps=ps ++ [(⟨c,d⟩:B)]:=by unfold push;rw[if_neg h9]
          rw[<- e1]
          exact Ev.bind (iDcopy hD) (Ev.now _)
    · rw[if_pos (.inl (hn hb))]
      exact evNeg hb stop
end
end Go.Proofs.Ytfooakkhkehpiaa.Id
namespace Go.Proofs.Ytfooakkhkehpiaa.Rn
open Go.RowKit Go.Proofs.Ytfooakkhkehpiaa.PU Go.Proofs.Ytfooakkhkehpiaa.Qh Go.Proofs.Ytfooakkhkehpiaa.Bk Go.Proofs.Ytfooakkhkehpiaa.Dk Go.Proofs.Ytfooakkhkehpiaa.Dd Go.Proofs.Ytfooakkhkehpiaa.Id Go.Proofs.YtfooakkhkehpiaaW.PrintWords Go.Proofs.YtfooakkhkehpiaaW.PrintMore
set_option linter.unusedVariables false
set_option linter.unusedSimpArgs false
abbrev D:=S69
noncomputable def rn:List D->List Int->List (List Int)->List B->Int->List Int × List (List Int) × List B × Int
  | [],c,d,ps,n=>(c,d,ps,n)
  | a :: r,c,d,ps,n=>if (dd c d ps a.f0 a.f1 a.f2 a.f3).2.2.2=true then rn r (dd c d ps a.f0 a.f1 a.f2 a.f3).1 (dd c d ps a.f0 a.f1 a.f2 a.f3).2.1 (dd c d ps a.f0 a.f1 a.f2 a.f3).2.2.1 (n + 1) else rn r c d ps n
theorem rn_ok:∀(l:List D) {c:List Int} {d:List (List Int)} {ps:List B} (n:Int),DeskP c d ps->DeskP (rn l c d ps n).1 (rn l c d ps n).2.1 (rn l c d ps n).2.2.1/\(rn l c d ps n).1.length=c.length/\n<=(rn l c d ps n).2.2.2/\(rn l c d ps n).2.2.2<=n + l.length
  | [],c,d,ps,n,h=>⟨h,rfl,Int.le_refl _,by simp[rn]⟩
  | a :: r,c,d,ps,n,h=>by
    have hk:=dd_ok (a0:=a.f0) (a1:=a.f1) (a2:=a.f2) (a3:=a.f3) h
    have hl:((a :: r).length:Int)=r.length + 1:=by simp
    rw[hl]
    unfold rn
    split
    · have h1:=rn_ok r (n + 1) hk.1
      exact⟨h1.1,h1.2.1.trans hk.2.1,by have:=h1.2.2.1;omega,by have:=h1.2.2.2;omega⟩
    · have h1:=rn_ok r n h
      exact⟨h1.1,h1.2.1,h1.2.2.1,by have:=h1.2.2.2;omega⟩
theorem rn_cons (a:D) (r:List D) (c:List Int) (d:List (List Int)) (ps:List B) (n:Int):rn (a :: r) c d ps n=if (dd c d ps a.f0 a.f1 a.f2 a.f3).2.2.2=true then rn r (dd c d ps a.f0 a.f1 a.f2 a.f3).1 (dd c d ps a.f0 a.f1 a.f2 a.f3).2.1 (dd c d ps a.f0 a.f1 a.f2 a.f3).2.2.1 (n + 1) else rn r c d ps n:=rfl
theorem rn_app:∀(l m:List D) (c:List Int) (d:List (List Int)) (ps:List B) (n:Int),rn (l ++ m) c d ps n=rn m (rn l c d ps n).1 (rn l c d ps n).2.1 (rn l c d ps n).2.2.1 (rn l c d ps n).2.2.2
  | [],m,c,d,ps,n=>rfl
  | a :: r,m,c,d,ps,n=>by
    rw[List.cons_append,rn_cons,rn_cons]
    by_cases hb:(dd c d ps a.f0 a.f1 a.f2 a.f3).2.2.2=true
    · rw[if_pos hb,if_pos hb]
      exact rn_app r m _ _ _ _
    · rw[if_neg hb,if_neg hb]
      exact rn_app r m _ _ _ _
theorem rn_n:∀(l:List D) (c:List Int) (d:List (List Int)) (ps:List B) (n:Int),(rn l c d ps n).1=(rn l c d ps 0).1/\(rn l c d ps n).2.1=(rn l c d ps 0).2.1/\(rn l c d ps n).2.2.1=(rn l c d ps 0).2.2.1/\(rn l c d ps n).2.2.2=n + (rn l c d ps 0).2.2.2
  | [],c,d,ps,n=>by simp[rn]
  | a :: r,c,d,ps,n=>by
    unfold rn
    split
    · obtain⟨a1,a2,a3,a4⟩:=rn_n r (dd c d ps a.f0 a.f1 a.f2 a.f3).1 (dd c d ps a.f0 a.f1 a.f2 a.f3).2.1 (dd c d ps a.f0 a.f1 a.f2 a.f3).2.2.1 (n + 1)
      obtain⟨b1,b2,b3,b4⟩:=rn_n r (dd c d ps a.f0 a.f1 a.f2 a.f3).1 (dd c d ps a.f0 a.f1 a.f2 a.f3).2.1 (dd c d ps a.f0 a.f1 a.f2 a.f3).2.2.1 (0 + 1)
      exact⟨a1.trans b1.symm,a2.trans b2.symm,a3.trans b3.symm,by omega⟩
    · exact rn_n r c d ps n
theorem rD (xs:List D) (i:Nat):rd_T69 xs (i:Int)=xs.getD i z69:=rfl
theorem drop_at (xs:List D) (i:Nat) (h:i < xs.length):xs.drop i=rd_T69 xs (i:Int) :: xs.drop (i + 1):=by
  rw[rD];exact drop_of xs _ i h
section
variable {c:List Int} {d:List (List Int)} {ps:List B} {l:List D}
theorem i_l0 (hl:l.length<=40):∀(e i:Nat) (c:List Int) (d:List (List Int)) (ps:List B) (n:Int),l.length - i=e->i<=l.length->DeskP c d ps->0<=n->n<=i->Ev (fun k=>Fy.l0 k n l (l.length:Int) (i:Int) c d ps) (rn (l.drop i) c d ps n):=by
  intro e
  induction e with
  | zero=>
    intro i c d ps n he hi h h0 h1
    obtain rfl:i=l.length:=by omega
    refine Ev.step (fun k=>by rw[Fy.l0]) ?_
    rw[List.drop_length]
    exact evNeg (by omega) (Ev.now _)
  | succ e ih=>
    intro i c d ps n he hi h h0 h1
    have hlt:i < l.length:=by omega
    have hs:Gx (wrap64 ((i:Int) + 1)=((i + 1:Nat):Int)):=⟨wsucc hlt (by omega)⟩
    have hn:Gx (wrap64 (n + 1)=n + 1):=⟨w64 (by omega) (by omega)⟩
    have hk:=dd_ok (a0:=(rd_T69 l (i:Int)).f0) (a1:=(rd_T69 l (i:Int)).f1) (a2:=(rd_T69 l (i:Int)).f2) (a3:=(rd_T69 l (i:Int)).f3) h
    refine Ev.step (fun k=>by rw[Fy.l0]) ?_
    rw[hs.out,hn.out,drop_at l i hlt]
    refine evPos (by omega) (evPos (by omega) (evPos (by omega) (Ev.bind (iDo h) ?_)))
    unfold rn
    split
    · next hb=>exact ih (i + 1) _ _ _ _ (by omega) (by omega) hk.1 (by omega) (by omega)
    · next hb=>exact ih (i + 1) _ _ _ _ (by omega) (by omega) h h0 (by omega)
theorem s_l0 (hl:l.length<=40):∀(e i:Nat) (c:List Int) (d:List (List Int)) (ps:List B) (n:Int),l.length - i=e->i<=l.length->DeskP c d ps->0<=n->n<=i->Ev (fun k=>Fr.l0 k l n (i:Int) c d ps) (rn (l.drop i) c d ps n):=by
  intro e
  induction e with
  | zero=>
    intro i c d ps n he hi h h0 h1
    obtain rfl:i=l.length:=by omega
    refine Ev.step (fun k=>by rw[Fr.l0]) ?_
    rw[List.drop_length]
    exact evNeg (by omega) (Ev.now _)
  | succ e ih=>
    intro i c d ps n he hi h h0 h1
    have hlt:i < l.length:=by omega
    have hs:Gx (wrap64 ((i:Int) + 1)=((i + 1:Nat):Int)):=⟨wsucc hlt (by omega)⟩
    have hn:Gx (wrap64 (n + 1)=n + 1):=⟨w64 (by omega) (by omega)⟩
    have h8:=h.2.1
    have hk:=dd_ok (a0:=(rd_T69 l (i:Int)).f0) (a1:=(rd_T69 l (i:Int)).f1) (a2:=(rd_T69 l (i:Int)).f2) (a3:=(rd_T69 l (i:Int)).f3) h
    refine Ev.step (fun k=>by rw[Fr.l0]) ?_
    rw[hs.out,hn.out,drop_at l i hlt]
    refine evPos (by omega) (evPos (by omega) (Ev.bind (sDo (by omega)) ?_))
    unfold rn
    split
    · next hb=>exact ih (i + 1) _ _ _ _ (by omega) (by omega) hk.1 (by omega) (by omega)
    · next hb=>exact ih (i + 1) _ _ _ _ (by omega) (by omega) h h0 (by omega)
open Classical in
noncomputable def rr (c:List Int) (d:List (List Int)) (ps:List B) (l:List D):List Int × List (List Int) × List B × Int:=if DeskP c d ps/\l.length<=40 then rn l c d ps 0 else([],[],[],0)
theorem iRun (c:List Int) (d:List (List Int)) (ps:List B) (l:List D):Ev (fun k=>Fy.f k c d ps l) (rr c d ps l):=by
  unfold Fy.f
  have no:∀(hn:¬ (DeskP c d ps/\l.length<=40)),Ev (fun k=>Fy.j0 k l true c d ps) (rr c d ps l):=fun hn=>by
    refine Ev.step (fun k=>by rw[Fy.j0]) ?_
    refine evPos rfl (evEq (Ev.now _) ?_)
    unfold rr;rw[if_neg hn]
  by_cases h:DeskP c d ps
  · refine Ev.bind ((isDesk c d ps).yes h) (evPos rfl ?_)
    by_cases hl:l.length<=40
    · have:decide ((l.length:Int) > 40)=false:=decide_eq_false (by omega)
      rw[this]
      refine Ev.step (fun k=>by rw[Fy.j0]) ?_
      refine evNeg (by decide) (Ev.bind (iDcopy h) ?_)
      have:=i_l0 hl l.length 0 c d ps 0 rfl (by omega) h (by omega) (by omega)
      rw[List.drop_zero] at this
      have e:rr c d ps l=rn l c d ps 0:=by unfold rr;rw[if_pos ⟨h,hl⟩]
      rw[e];exact this
    · have:decide ((l.length:Int) > 40)=true:=decide_eq_true (by omega)
      rw[this]
      exact no (fun z=>hl z.2)
  · exact Ev.bind ((isDesk c d ps).no h) (evNeg (by decide) (no (fun z=>h z.1)))
theorem sRun (c:List Int) (d:List (List Int)) (ps:List B) (l:List D) (hp:ps.length<=4611686018427387904):Ev (fun k=>Fr.f k c d ps l) (rr c d ps l):=by
  unfold Fr.f
  have no:∀(hn:¬ (DeskP c d ps/\l.length<=40)),Ev (fun k=>Fr.j0 k l true c d ps) (rr c d ps l):=fun hn=>by
    refine Ev.step (fun k=>by rw[Fr.j0]) ?_
    refine evPos rfl (evEq (Ev.now _) ?_)
    unfold rr;rw[if_neg hn]
  by_cases h:DeskP c d ps
  · refine Ev.bind ((deskOk c d ps hp).yes h) (evPos rfl ?_)
    by_cases hl:l.length<=40
    · have:decide ((l.length:Int) > 40)=false:=decide_eq_false (by omega)
      rw[this]
      refine Ev.step (fun k=>by rw[Fr.j0]) ?_
      refine evNeg (by decide) (Ev.bind (sDcopy h) ?_)
      have:=s_l0 hl l.length 0 c d ps 0 rfl (by omega) h (by omega) (by omega)
      rw[List.drop_zero] at this
      have e:rr c d ps l=rn l c d ps 0:=by unfold rr;rw[if_pos ⟨h,hl⟩]
      rw[e];exact this
    · have:decide ((l.length:Int) > 40)=true:=decide_eq_true (by omega)
      rw[this]
      exact no (fun z=>hl z.2)
  · exact Ev.bind ((deskOk c d ps hp).no h) (evNeg (by decide) (no (fun z=>h z.1)))
theorem rr_two (h:DeskP c d ps) (hl:l.length<=40) (m:Nat):rr (rr c d ps (l.take m)).1 (rr c d ps (l.take m)).2.1 (rr c d ps (l.take m)).2.2.1 (l.drop m)=((rr c d ps l).1,(rr c d ps l).2.1,(rr c d ps l).2.2.1,(rr c d ps l).2.2.2 - (rr c d ps (l.take m)).2.2.2):=by
  have e1:rr c d ps (l.take m)=rn (l.take m) c d ps 0:=by unfold rr;rw[if_pos ⟨h,by rw[List.length_take];omega⟩]
  have e2:rr c d ps l=rn l c d ps 0:=by unfold rr;rw[if_pos ⟨h,hl⟩]
  have e3:=rn_app (l.take m) (l.drop m) c d ps 0
  rw[List.take_append_drop] at e3
  have hk:=(rn_ok (l.take m) 0 h).1
  rw[e1,e2]
  unfold rr
  rw[if_pos ⟨hk,by rw[List.length_drop];omega⟩,e3]
  obtain⟨a1,a2,a3,a4⟩:=rn_n (l.drop m) (rn (l.take m) c d ps 0).1 (rn (l.take m) c d ps 0).2.1 (rn (l.take m) c d ps 0).2.2.1 (rn (l.take m) c d ps 0).2.2.2
  rw[a1,a2,a3,a4]
  refine Prod.ext rfl (Prod.ext rfl (Prod.ext rfl ?_))
  show _=_ + _ - _
  omega
end
end Go.Proofs.Ytfooakkhkehpiaa.Rn
namespace Go.Proofs.Ytfooakkhkehpiaa.Sd
open Go.RowKit Go.Proofs.Ytfooakkhkehpiaa.PU Go.Proofs.Ytfooakkhkehpiaa.Qh Go.Proofs.Ytfooakkhkehpiaa.Bk Go.Proofs.Ytfooakkhkehpiaa.Mx Go.Proofs.Ytfooakkhkehpiaa.Dk Go.Proofs.YtfooakkhkehpiaaW.PrintWords Go.Proofs.YtfooakkhkehpiaaW.PrintMore
set_option linter.unusedVariables false
set_option linter.unusedSimpArgs false
theorem iOk (c:List Int) (d:List (List Int)) (ps:List B):EvB (fun k=>Gt.f k c d ps) (DeskP c d ps):=by
  unfold Gt.f
  obtain⟨b,hb,e⟩:=isDesk c d ps
  exact⟨b,hb,Ev.bind e (Ev.now _)⟩
section
variable {c:List Int} {d:List (List Int)} {ps:List B}
theorem sameD_l (h:DeskP c d ps):∀(e i:Nat),ps.length - i=e->i<=ps.length->Ev (fun k=>Ft.l0 k (i:Int) c d ps c d ps) true:=by
  have h8:=h.2.1
  intro e
  induction e with
  | zero=>
    intro i he hi
    refine Ev.step (fun k=>by rw[Ft.l0]) ?_
    exact evNeg (by omega) (Ev.bind (sameOk h.1) (Ev.now _))
  | succ e ih=>
    intro i he hi
    have hlt:i < ps.length:=by omega
    have hs:wrap64 ((i:Int) + 1)=((i + 1:Nat):Int):=wsucc hlt (by omega)
    have hmem:Jc ps (i:Int) ∈ ps:=by rw[rT];exact getD_mem _ ps i hlt
    refine Ev.step (fun k=>by rw[Ft.l0]) ?_
    rw[hs]
    exact evPos (by omega) (evPos (by omega) (evPos (by omega) (Ev.bind (sameOk (h.2.2 _ hmem).1) (evPos rfl (ih (i + 1) (by omega) (by omega))))))
theorem sameD (h:DeskP c d ps):Ev (fun k=>Ft.f k c d ps c d ps) true:=by
  unfold Ft.f
  exact evPos rfl (sameD_l h _ 0 rfl (by omega))
theorem same0:Ev (fun k=>Ft.f k [] [] ([]:List B) [] [] []) true:=by
  unfold Ft.f
  refine evPos rfl (Ev.step (fun k=>by rw[Ft.l0]) ?_)
  exact evNeg (by simp) (Ev.bind (sameB [] [] (by simp) (by simp) (fun i hi=>by simp at hi)) (Ev.now _))
end
end Go.Proofs.Ytfooakkhkehpiaa.Sd
namespace Go.Proofs.Ytfooakkhkehpiaa.Dz
open Go.RowKit Go.Proofs.Ytfooakkhkehpiaa.PU Go.Proofs.Ytfooakkhkehpiaa.Qh Go.Proofs.Ytfooakkhkehpiaa.Bk Go.Proofs.Ytfooakkhkehpiaa.Dr Go.Proofs.Ytfooakkhkehpiaa.Db Go.Proofs.Ytfooakkhkehpiaa.Dk Go.Proofs.Ytfooakkhkehpiaa.Dd Go.Proofs.YtfooakkhkehpiaaW.PrintWords Go.Proofs.YtfooakkhkehpiaaW.PrintMore
set_option linter.unusedVariables false
set_option linter.unusedSimpArgs false
theorem rL2 (xs:List (List Int)) (i:Nat):Jb xs (i:Int)=xs.getD i []:=rfl
theorem odd0 (b:List Int) (p:Int):Ev (fun k=>F5.f k b p 0) (false,p):=by
  unfold F5.f
  exact evNeg (by omega) (Ev.now _)
def RowK (i j:Nat) (row:List Int):Prop:=row.length=j/\(∀j':Nat,j' < j->0<=rd row (j':Int)/\rd row (j':Int)<=9)/\(i < j->rd row (i:Int)=0)
theorem RowK.snoc {i j:Nat} {row:List Int} (h:RowK i j row) {v:Int} (h0:0<=v) (h9:v<=9) (hz:i=j->v=0):RowK i (j + 1) (row ++ [v]):=by
  have hl:=h.1
  refine⟨by simp[hl],fun j' hj=>?_,fun hi=>?_⟩
  · rw[rd_app]
    by_cases e:j' < row.length
    · rw[if_pos e];exact h.2.1 j' (by omega)
    · rw[if_neg e,if_pos (by omega)];exact⟨h0,h9⟩
  · rw[rd_app]
    by_cases e:i < row.length
    · rw[if_pos e];exact h.2.2 (by omega)
    · rw[if_neg e,if_pos (by omega)];exact hz (by omega)
theorem k_l1 {b:List Int} (hb:Bytes b) (m:Nat) (hm:m<=4) (kind:Int) (i:Nat) (hi:i < m) (cs:List Int) (ds:List (List Int)) (hds:ds.length=i) (P:List Int × List (List Int) × Int->Prop) (p0:Int) (hp0:0<=p0) (hp1:p0<=100000)
    (hR:∀(row:List Int) (p:Int),RowK i m row->p0<=p->p<=p0 + 2 * m->EvX (fun k=>Fn.l0 k 0 (m:Int) kind ((i + 1:Nat):Int) b p cs (ds ++ [row])) P) :
    ∀(e j:Nat) (row:List Int) (p:Int),m - j=e->j<=m->RowK i j row->p0<=p->p<=p0 + 2 * j ->
    EvX (fun k=>Fn.l1 k 0 (m:Int) kind (i:Int) row (j:Int) b p cs ds) P:=by
  have hs:Gx (wrap64 ((i:Int) + 1)=((i + 1:Nat):Int)):=⟨wsucc hi (by omega)⟩
  intro e
  induction e with
  | zero=>
    intro j row p he hj hr h0 h1
    obtain rfl:j=m:=by omega
    refine EvX.step (fun k=>by rw[Fn.l1]) ?_
    rw[hs.out]
    exact EvX.neg (by omega) (EvX.pos (by omega) (hR row p hr h0 h1))
  | succ e ih=>
    intro j row p he hj hr h0 h1
    have hlt:j < m:=by omega
    have hj1:Gx (wrap64 ((j:Int) + 1)=((j + 1:Nat):Int)):=⟨wsucc hlt (by omega)⟩
    refine EvX.step (fun k=>by rw[Fn.l1]) ?_
    rw[hj1.out]
    have hc:(j:Int) < (m:Int):=by clear ih hR;omega
    refine EvX.pos hc ?_
    have go:∀(v p':Int),0<=v->v<=9->(i=j->v=0)->p0<=p'->p'<=p0 + 2 * ((j + 1:Nat):Int)->EvX (fun k=>if row.length < 17592186044416 then Fn.l1 k 0 (m:Int) kind (i:Int) (row ++ [v]) ((j + 1:Nat):Int) b p' cs ds else none) P:=by
      intro v p' v0 v9 vz h2 h3
      have hl:row.length < 17592186044416:=by have:=hr.1;clear hj1 hs ih hR;omega
      have q1:m - (j + 1)=e:=by clear hj1 hs ih hR;omega
      exact EvX.pos hl (ih (j + 1) (row ++ [v]) p' q1 hlt (hr.snoc v0 v9 vz) h2 h3)
    by_cases hij:(i:Int)=(j:Int)
    · exact EvX.pos hij (go 0 p (by omega) (by omega) (fun _=>rfl) h0 (by omega))
    · refine EvX.neg hij ?_
      obtain⟨v,_,_,_,hv⟩:=pick hb p 3 (by omega) (by omega)
      refine EvX.bind hv ?_
      by_cases h2:v > 0
      · refine EvX.pos h2 ?_
        obtain⟨v2,a0,a1,_,hv2⟩:=pick hb (p + 1) 10 (by omega) (by omega)
        exact EvX.bind hv2 (go v2 (p + 1 + 1) a0 (by have:=a1 (by omega);omega) (fun z=>absurd (by rw[z]) hij) (by omega) (by omega))
      · exact EvX.neg h2 (go 0 (p + 1) (by omega) (by omega) (fun _=>rfl) (by omega) (by omega))
def BkK (m i:Nat) (cs:List Int) (ds:List (List Int)):Prop:=cs.length=i/\ds.length=i/\(∀j:Nat,j < i->0<=rd cs (j:Int)/\rd cs (j:Int)<=20)/\∀j:Nat,j < i->RowK j m (Jb ds (j:Int))
theorem BkK.book {m:Nat} {cs:List Int} {ds:List (List Int)} (h:BkK m m cs ds) (h1:1<=m) (h4:m<=4):BookP cs ds:=by
  obtain⟨a,b,c,d⟩:=h
  refine⟨by omega,by omega,by omega,fun i hi=>?_⟩
  have hr:=d i (by omega)
  exact⟨(c i (by omega)).1,(c i (by omega)).2,by rw[hr.1,a],hr.2.2 (by omega),fun j hj=>hr.2.1 j (by omega)⟩
theorem k_l0 {b:List Int} (hb:Bytes b) (m:Nat) (hm1:1<=m) (hm:m<=4) (kind:Int) (hk0:0<=kind) (hk1:kind < 3):∀(e i:Nat) (cs:List Int) (ds:List (List Int)) (p:Int),m - i=e->i<=m ->
    BkK m i cs ds->0<=p->p<=1000 + 10 * i ->
    EvX (fun k=>Fn.l0 k 0 (m:Int) kind (i:Int) b p cs ds) (fun r=>BookP r.1 r.2.1/\p<=r.2.2/\r.2.2<=p + 10 * e):=by
  intro e
  induction e with
  | zero=>
    intro i cs ds p he hi hK h0 h1
    obtain rfl:i=m:=by omega
    refine EvX.step (fun k=>by rw[Fn.l0]) ?_
    exact EvX.neg (by omega) (EvX.bind (odd0 b p) (EvX.neg (by simp) (EvX.now ⟨hK.book hm1 hm,by show p<=p;omega,by show p<=_;omega⟩)))
  | succ e ih=>
    intro i cs ds p he hi hK h0 h1
    have hlt:i < m:=by omega
    obtain⟨hcs,hds,hcv,hrw⟩:=hK
    refine EvX.step (fun k=>by rw[Fn.l0]) ?_
    refine EvX.pos (by omega) ?_
    obtain⟨v,v0,v1,_,hv⟩:=pick hb p 4 h0 (by omega)
    refine EvX.bind hv ?_
    obtain⟨w,w0,w1,_,hw⟩:=pick hb (p + 1) 21 (by omega) (by omega)
    have v3:=v1 (by omega)
    have w3:=w1 (by omega)
    refine EvX.bind hw (EvX.bind0 rfl (EvX.pos hk0 (EvX.pos (by simp;omega) (EvX.pos (by omega) ?_))))
    have hval:0<=rd [0,v,w] kind/\rd [0,v,w] kind<=20:=by
      rcases(by omega:kind=0 ∨ kind=1 ∨ kind=2) with z|z|z <;> subst z
      · exact⟨by show(0:Int)<=0;omega,by show(0:Int)<=20;omega⟩
      · exact⟨by show(0:Int)<=v;omega,by show v<=20;omega⟩
      · exact⟨by show(0:Int)<=w;omega,by show w<=20;omega⟩
    refine k_l1 hb m hm kind i hlt _ ds hds _ (p + 1 + 1) (by omega) (by omega) ?_ _ 0 [] (p + 1 + 1) rfl (by omega) ⟨rfl,fun j' hj=>by omega,fun z=>by omega⟩ (by omega) (by omega)
    intro row q hr hq0 hq1
    refine(ih (i + 1) _ (ds ++ [row]) q (by omega) (by omega) ⟨by simp;omega,by simp;omega,fun j hj=>?_,fun j hj=>?_⟩ (by omega) (by omega)).imp ?_
    · rw[rd_app]
      by_cases e':j < cs.length
      · rw[if_pos e'];exact hcv j (by omega)
      · rw[if_neg e',if_pos (by omega)];exact hval
    · rw[rL2,List.getD_eq_getElem?_getD,List.getElem?_append]
      by_cases hjl:j < ds.length
      · rw[if_pos hjl]
        have:=hrw j (by omega)
        rw[rL2,List.getD_eq_getElem?_getD] at this
        exact this
      · rw[if_neg hjl]
        have:j=ds.length:=by omega
        subst this
        rw[hds]
        simpa using hr
    · intro r hr
      exact⟨hr.1,by have:=hr.2.1;omega,by have:=hr.2.2;omega⟩
theorem book0 {b:List Int} (hb:Bytes b) (p:Int) (h0:0<=p) (h1:p<=100):EvX (fun k=>Fn.f k b p 0) (fun r=>BookP r.1 r.2.1/\p<=r.2.2/\r.2.2<=p + 50):=by
  unfold Fn.f
  obtain⟨v,v0,v1,_,hv⟩:=pick hb p 6 h0 (by omega)
  have v2:=v1 (by omega)
  obtain⟨w,w0,w1,_,hw⟩:=pick hb (p + 1) 3 (by omega) (by omega)
  have w2:=w1 (by omega)
  refine EvX.bind0 rfl (EvX.bind hv (EvX.pos v0 (EvX.pos (by simp;omega) (EvX.bind hw ?_))))
  have hm:∃m:Nat,1<=m/\m<=4/\rd [1,2,3,3,4,4] v=(m:Int):=by
    rcases(by omega:v=0 ∨ v=1 ∨ v=2 ∨ v=3 ∨ v=4 ∨ v=5) with z|z|z|z|z|z <;> subst z
    · exact⟨1,by omega,by omega,rfl⟩
    · exact⟨2,by omega,by omega,rfl⟩
    · exact⟨3,by omega,by omega,rfl⟩
    · exact⟨3,by omega,by omega,rfl⟩
    · exact⟨4,by omega,by omega,rfl⟩
    · exact⟨4,by omega,by omega,rfl⟩
  obtain⟨m,m1,m4,em⟩:=hm
  show EvX (fun k=>Fn.l0 k 0 (rd [1,2,3,3,4,4] v) w 0 b (p + 1 + 1) [] []) _
  rw[em]
  refine(k_l0 hb m m1 m4 w w0 (by omega) m 0 [] [] (p + 1 + 1) rfl (by omega) ⟨rfl,rfl,fun j hj=>by omega,fun j hj=>by omega⟩ (by omega) (by omega)).imp ?_
  intro r hr
  exact⟨hr.1,by have:=hr.2.1;omega,by have:=hr.2.2;omega⟩
theorem deed1 {b:List Int} (hb:Bytes b) (p q:Int) (h0:0<=p) (hq:q<=p) (h1:p<=q + 7) (hq0:q<=1000) (a0 a1 a2 a3:Int):EvX (fun k=>Ff.j1 k b p a0 a1 a2 a3) (fun r=>q<=r.2.2.2.2/\r.2.2.2.2<=q + 9):=by
  refine EvX.step (fun k=>by rw[Ff.j1]) ?_
  obtain⟨v,hv⟩:=podd hb p 40 (by omega) (by omega) h0 (by omega)
  refine EvX.bind hv ?_
  by_cases hvt:v=true
  · obtain⟨w,_,_,_,hw⟩:=pick hb (p + 1) 7 (by omega) (by omega)
    exact EvX.pos hvt (EvX.bind hw (EvX.now ⟨by show q<=p + 1 + 1;omega,by show p + 1 + 1<=_;omega⟩))
  · exact EvX.neg hvt (EvX.now ⟨by show q<=p + 1;omega,by show p + 1<=_;omega⟩)
theorem deed0 {b:List Int} (hb:Bytes b) (p q:Int) (h0:0<=p) (hq:q<=p) (h1:p<=q + 5) (hq0:q<=1000) (a0 a1 a2 a3:Int):EvX (fun k=>Ff.j0 k b p a0 a1 a2 a3) (fun r=>q<=r.2.2.2.2/\r.2.2.2.2<=q + 9):=by
  refine EvX.step (fun k=>by rw[Ff.j0]) ?_
  obtain⟨v,hv⟩:=podd hb p 40 (by omega) (by omega) h0 (by omega)
  refine EvX.bind hv ?_
  by_cases hvt:v=true
  · obtain⟨w,_,_,_,hw⟩:=pick hb (p + 1) 120 (by omega) (by omega)
    exact EvX.pos hvt (EvX.bind hw (deed1 hb _ q (by omega) (by omega) (by omega) hq0 _ _ _ _))
  · exact EvX.neg hvt (deed1 hb _ q (by omega) (by omega) (by omega) hq0 _ _ _ _)
theorem deed {b:List Int} (hb:Bytes b) (p:Int) (h0:0<=p) (h1:p<=1000) (c:List Int) (d:List (List Int)) (ps:List B):EvX (fun k=>Ff.f k b p c d ps) (fun r=>p<=r.2.2.2.2/\r.2.2.2.2<=p + 9):=by
  unfold Ff.f
  obtain⟨v,v0,v1,_,hv⟩:=pick hb p 9 h0 (by omega)
  have v2:=v1 (by omega)
  obtain⟨w,_,_,_,hw⟩:=pick hb (p + 1) 60 (by omega) (by omega)
  refine EvX.bind0 rfl (EvX.bind hv (EvX.pos v0 (EvX.pos (by simp;omega) (EvX.bind hw ?_))))
  obtain⟨x,_,_,_,hx⟩:=pick hb (p + 1 + 1) (mx (c.length:Int) 1) (by omega) (by omega)
  by_cases hA:wrap64 (rd [0,0,1,1,1,1,2,3,4] v + wrap64 (wrap64 (Int.tdiv w 59) * 5))=0
  · obtain⟨y,_,_,_,hy⟩:=pick hb (p + 1 + 1 + 1) 21 (by omega) (by omega)
    exact EvX.pos hA (EvX.bind hx (EvX.bind hy (deed0 hb _ p (by omega) (by omega) (by omega) h1 _ _ _ _)))
  refine EvX.neg hA ?_
  by_cases hB:wrap64 (rd [0,0,1,1,1,1,2,3,4] v + wrap64 (wrap64 (Int.tdiv w 59) * 5))=1
  · obtain⟨y,_,_,_,hy⟩:=pick hb (p + 1 + 1 + 1) (mx (c.length:Int) 1) (by omega) (by omega)
    obtain⟨z,_,_,_,hz⟩:=pick hb (p + 1 + 1 + 1 + 1) 10 (by omega) (by omega)
    exact EvX.pos hB (EvX.bind hx (EvX.bind hy (EvX.bind hz (deed0 hb _ p (by omega) (by omega) (by omega) h1 _ _ _ _))))
  · exact EvX.neg hB (deed0 hb _ p (by omega) (by omega) (by omega) h1 _ _ _ _)
def SmD (r:List Int × List (List Int) × List B × Int) (p m:Int):Prop:=r.2.2.1.length<=5/\p<=r.2.2.2/\r.2.2.2<=p + m
theorem desk_l0 {b:List Int} (hb:Bytes b) (n:Int) (hn:1<=n) (hn2:n<=1000):∀(m:Nat) (c:List Int) (d:List (List Int)) (ps:List B) (p:Int),DeskP c d ps->ps.length + m<=4->0<=p->p<=500 - 9 * m ->
    EvX (fun k=>Fq.l0 k n (m:Int) b p c d ps) (fun r=>SmD r p (9 * m + 2)):=by
  intro m
  induction m with
  | zero=>
    intro c d ps p h hm h0 h1
    refine EvX.step (fun k=>by rw[Fq.l0]) ?_
    refine EvX.neg (by omega) ?_
    obtain⟨v,hv⟩:=podd hb p n hn hn2 h0 (by omega)
    refine EvX.bind hv ?_
    by_cases hvt:v=true
    · refine EvX.pos hvt ?_
      obtain⟨w,_,_,_,hw⟩:=pick hb (p + 1) 3 (by omega) (by omega)
      refine EvX.bind hw ?_
      have hc1:=h.1.1
      by_cases e0:w=0
      · exact EvX.pos e0 (EvX.pos (by omega) (EvX.now ⟨by show ps.length<=5;omega,by show p<=p + 1 + 1;omega,by show p + 1 + 1<=_;omega⟩))
      refine EvX.neg e0 ?_
      by_cases e1:w=1
      · exact EvX.pos e1 (EvX.pos (by omega) (EvX.pos (by omega) (EvX.now ⟨by show(ps ++ [_]).length<=5;simp;omega,by show p<=p + 1 + 1;omega,by show p + 1 + 1<=_;omega⟩)))
      · exact EvX.neg e1 (EvX.now ⟨by show([]:List B).length<=5;simp,by show p<=p + 1 + 1;omega,by show p + 1 + 1<=_;omega⟩)
    · exact EvX.neg hvt (EvX.now ⟨by show ps.length<=5;omega,by show p<=p + 1;omega,by show p + 1<=_;omega⟩)
  | succ m ih=>
    intro c d ps p h hm h0 h1
    have hw:Gx (wrap64 (((m + 1:Nat):Int) - 1)=(m:Int)):=⟨by rw[w64 (by omega) (by omega)];omega⟩
    refine EvX.step (fun k=>by rw[Fq.l0]) ?_
    rw[hw.out]
    refine EvX.pos (by omega) (EvX.bindX (deed hb p h0 (by omega) c d ps) (fun a ha=>?_))
    have hq0:=ha.1
    have hq1:=ha.2
    have hdd:=dd_ok (a0:=a.1) (a1:=a.2.1) (a2:=a.2.2.1) (a3:=a.2.2.2.1) h
    refine EvX.bind (sDo (by have:=h.2.1;omega)) ?_
    have fin:∀r,SmD r a.2.2.2.2 (9 * m + 2)->SmD r p (9 * ((m + 1:Nat):Int) + 2):=fun r hr=>⟨hr.1,by have:=hr.2.1;omega,by have:=hr.2.2;omega⟩
    by_cases hok:(dd c d ps a.1 a.2.1 a.2.2.1 a.2.2.2.1).2.2.2=true
    · exact EvX.pos hok ((ih _ _ _ a.2.2.2.2 hdd.1 (by have:=hdd.2.2;omega) (by omega) (by omega)).imp fin)
    · exact EvX.neg hok ((ih c d ps a.2.2.2.2 h (by omega) (by omega) (by omega)).imp fin)
theorem desk {b:List Int} (hb:Bytes b) (n:Int) (hn:1<=n) (hn2:n<=1000) (p:Int) (h0:0<=p) (h1:p<=100):EvX (fun k=>Fq.f k b p n) (fun r=>SmD r p 100):=by
  unfold Fq.f
  refine EvX.bindX (book0 hb p h0 h1) (fun r hr=>?_)
  have r1:=hr.2.1
  have r2:=hr.2.2
  obtain⟨v,v0,v1,_,hv⟩:=pick hb r.2.2 5 (by omega) (by omega)
  have v2:=v1 (by omega)
  refine EvX.bind hv ?_
  obtain⟨m,rfl⟩:=Int.eq_ofNat_of_zero_le v0
  refine(desk_l0 hb n hn hn2 m r.1 r.2.1 [] (r.2.2 + 1) ⟨hr.1,by simp,fun x hx=>by simp at hx⟩ (by simp;omega) (by omega) (by omega)).imp ?_
  intro q hq
  exact⟨hq.1,by have:=hq.2.1;omega,by have:=hq.2.2;omega⟩
end Go.Proofs.Ytfooakkhkehpiaa.Dz
namespace Go.Proofs.Ytfooakkhkehpiaa.Al
open Go.RowKit Go.Proofs.Ytfooakkhkehpiaa.PU Go.Proofs.Ytfooakkhkehpiaa.Qh Go.Proofs.YtfooakkhkehpiaaW.PrintWords Go.Proofs.YtfooakkhkehpiaaW.PrintMore
set_option linter.unusedVariables false
set_option linter.unusedSimpArgs false
theorem alive:Ev (fun k=>Gp.f k) true:=Ev.of (fun k=>Gp.mono k) (k:=12) (by decide +kernel)
end Go.Proofs.Ytfooakkhkehpiaa.Al
namespace Go.Proofs.Ytfooakkhkehpiaa.Fdr
open Go.RowKit Go.Proofs.Ytfooakkhkehpiaa.PU Go.Proofs.Ytfooakkhkehpiaa.Qh Go.Proofs.Ytfooakkhkehpiaa.Dr Go.Proofs.Ytfooakkhkehpiaa.Bk Go.Proofs.Ytfooakkhkehpiaa.Mx Go.Proofs.Ytfooakkhkehpiaa.Dk Go.Proofs.Ytfooakkhkehpiaa.Dd Go.Proofs.Ytfooakkhkehpiaa.Id Go.Proofs.Ytfooakkhkehpiaa.Rn Go.Proofs.Ytfooakkhkehpiaa.Sd Go.Proofs.Ytfooakkhkehpiaa.Dz Go.Proofs.Ytfooakkhkehpiaa.Db Go.Proofs.YtfooakkhkehpiaaW.PrintWords Go.Proofs.YtfooakkhkehpiaaW.PrintMore
set_option linter.unusedVariables false
set_option linter.unusedSimpArgs false
theorem deeds_l0 {b:List Int} (hb:Bytes b) (c:List Int) (d:List (List Int)) (ps:List B):∀(m:Nat) (l:List D) (p:Int),l.length + m<=5->0<=p->p<=900 - 9 * m->EvX (fun k=>Gb.l0 k l (m:Int) b p c d ps) (fun _=>True):=by
  intro m
  induction m with
  | zero=>
    intro l p hl h0 h1
    refine EvX.step (fun k=>by rw[Gb.l0]) ?_
    exact EvX.neg (by omega) (EvX.now trivial)
  | succ m ih=>
    intro l p hl h0 h1
    have hw:Gx (wrap64 (((m + 1:Nat):Int) - 1)=(m:Int)):=⟨by rw[w64 (by omega) (by omega)];omega⟩
    refine EvX.step (fun k=>by rw[Gb.l0]) ?_
    rw[hw.out]
    refine EvX.pos (by omega) (EvX.bindX (deed hb p h0 (by omega) c d ps) (fun a ha=>?_))
    have h2:=ha.1
    have h3:=ha.2
    refine EvX.pos (by omega) ?_
    exact ih (l ++ [(⟨a.1,a.2.1,a.2.2.1,a.2.2.2.1⟩:D)]) a.2.2.2.2 (by rw[List.length_append];simp;omega) (by omega) (by omega)
theorem deeds {b:List Int} (hb:Bytes b) (c:List Int) (d:List (List Int)) (ps:List B) (p:Int) (h0:0<=p) (h1:p<=500):EvX (fun k=>Gb.f k b p c d ps) (fun _=>True):=by
  unfold Gb.f
  obtain⟨v,v0,v1,_,hv⟩:=pick hb p 6 h0 (by omega)
  have v2:=v1 (by omega)
  refine EvX.bind hv ?_
  obtain⟨m,rfl⟩:=Int.eq_ofNat_of_zero_le v0
  exact deeds_l0 hb c d ps m [] (p + 1) (by simp;omega) (by omega) (by omega)
theorem draw {l0:List Int} (hu:∀x ∈ l0,(Lit.int .u8 x).wf=true):∃(c:List Int) (d:List (List Int)) (ps:List B) (l:List D),ps.length<=5/\Ev (fun k=>Gn.f k l0) (c,d,ps,l):=by
  obtain⟨b,hb,ho⟩:=Dr.open_ l0 hu
  obtain⟨⟨c,d,ps,q⟩,hr,hdk⟩:=desk hb 12 (by omega) (by omega) 0 (by omega) (by omega)
  have hps:ps.length<=5:=hr.1
  have hq0:0<=q:=hr.2.1
  have hq1:q<=0 + 100:=hr.2.2
  obtain⟨v,hv⟩:=podd hb q 30 (by omega) (by omega) hq0 (by omega)
  by_cases hvt:v=true
  · refine⟨c,d,ps,List.replicate 41 z69,hps,?_⟩
    unfold Gn.f
    exact evBind0 ho (Ev.bind hdk (Ev.bind hv (evPos hvt (evPos (by omega) (Ev.now _)))))
  · obtain⟨⟨l,q2⟩,_,hl⟩:=deeds hb c d ps (q + 1) (by omega) (by omega)
    refine⟨c,d,ps,l,hps,?_⟩
    unfold Gn.f
    exact evBind0 ho (Ev.bind hdk (Ev.bind hv (evNeg hvt (Ev.bind hl (Ev.now _)))))
theorem noD:Ev (fun k=>Gw.f k [] [] ([]:List B)) true:=by
  unfold Gw.f
  exact Ev.bind same0 (Ev.now _)
theorem bad (c:List Int) (d:List (List Int)) (ps:List B) (l:List D):Ev (fun k=>Fd.j1 k l 0 true c d ps [] [] []) true:=by
  refine Ev.step (fun k=>by rw[Fd.j1]) ?_
  exact evPos rfl (evPos rfl (Ev.bind noD (evPos rfl (Ev.bind Al.alive (Ev.now _)))))
theorem holds:Fd.Pure:=by
  intro l0 _ _ hu
  refine Ev.rounds (g:=fun k=>Fd.f k l0) ?_
  unfold Fd.f
  by_cases a:(l0.length:Int) > 1048576
  · exact evPos a (Ev.now _)
  refine evNeg a ?_
  obtain⟨c,d,ps,l,hps,hd⟩:=draw hu
  refine Ev.bind hd (Ev.bind (iRun c d ps l) (Ev.bind (sRun c d ps l (show ps.length<=4611686018427387904 by omega)) ?_))
  have hbb:((rr c d ps l).2.2.2 != (rr c d ps l).2.2.2)=false:=by simp
  show Ev (fun k=>(Ft.f k (rr c d ps l).1 (rr c d ps l).2.1 (rr c d ps l).2.2.1 (rr c d ps l).1 (rr c d ps l).2.1 (rr c d ps l).2.2.1).bind fun t=>if t=true then(Fd.j0 k l (rr c d ps l).2.2.2 ((rr c d ps l).2.2.2 != (rr c d ps l).2.2.2) c d ps (rr c d ps l).1 (rr c d ps l).2.1 (rr c d ps l).2.2.1) else _) true
  rw[hbb]
  by_cases hh:DeskP c d ps/\l.length<=40
  · obtain⟨h,hl⟩:=hh
    have e2:rr c d ps l=rn l c d ps 0:=by unfold rr;rw[if_pos ⟨h,hl⟩]
    have hk:=rn_ok l 0 h
    rw[<- e2] at hk
    have e1:rr c d ps (l.take (l.length / 2))=rn (l.take (l.length / 2)) c d ps 0:=by unfold rr;rw[if_pos ⟨h,by rw[List.length_take];omega⟩]
    have hk1:=rn_ok (l.take (l.length / 2)) 0 h
    rw[<- e1,List.length_take] at hk1
    have h40:decide ((l.length:Int) > 40)=false:=decide_eq_false (by omega)
    refine Ev.bind (sameD hk.1) (evPos rfl (Ev.step (fun k=>by rw[Fd.j0]) (evNeg (by decide) (Ev.bind ((deskOk c d ps (by omega)).yes h) (evPos rfl ?_)))))
    rw[h40]
    have hw:Gx (wrap64 ((l.length:Int) / 2)=((l.length / 2:Nat):Int)):=⟨by rw[w64 (by omega) (by omega)];omega⟩
    refine Ev.step (fun k=>by rw[Fd.j1]) ?_
    rw[hw.out,Int.toNat_natCast]
    refine evNeg (by decide) (evPos (by omega) (evPos (by omega) (Ev.bind (iRun c d ps _) (Ev.bind (iRun _ _ _ _) (Ev.bind ((iOk _ _ _).yes hk.1) (evPos rfl (evPos (by have:=hk.2.1;omega) ?_)))))))
    rw[rr_two h hl]
    refine Ev.bind (sameD hk.1) (evPos rfl (evEq (Ev.now _) ?_))
    have h3:=hk.2.2.1
    have h4:=hk.2.2.2
    have h5:=hk1.2.2.1
    have h6:=hk1.2.2.2
    dsimp only
    rw[w64 (by omega) (by omega)]
    rw[beq_iff_eq]
    omega
  · have hz:rr c d ps l=([],[],[],0):=by unfold rr;rw[if_neg hh]
    rw[hz]
    refine Ev.bind same0 (evPos rfl (Ev.step (fun k=>by rw[Fd.j0]) (evNeg (by decide) ?_)))
    by_cases h:DeskP c d ps
    · have h40:decide ((l.length:Int) > 40)=true:=decide_eq_true (by have:¬ l.length<=40:=fun z=>hh ⟨h,z⟩;omega)
      refine Ev.bind ((deskOk c d ps (by omega)).yes h) (evPos rfl ?_)
      rw[h40]
      exact bad c d ps l
    · exact Ev.bind ((deskOk c d ps (by omega)).no h) (evNeg (by decide) (bad c d ps l))
end Go.Proofs.Ytfooakkhkehpiaa.Fdr
namespace Go.Proofs.Ytfooakkhkehpiaa.Pure
open Go.RowKit Go.Proofs.Ytfooakkhkehpiaa.PU
theorem FnDeskRun:Fd.Pure:=Go.Proofs.Ytfooakkhkehpiaa.Fdr.holds
end Go.Proofs.Ytfooakkhkehpiaa.Pure
namespace Go.Proofs.YtfooakkhkehpiaaW.PrintWords
open Go.ChangeShapes Go.WideShapes
theorem sized_ints {H:Type} {enc:TypeId × Value->H} {P:Program} {W:World} {base:Nat} {spare:Nat->Bool} {held:Bool} {t e:TypeId} {k:IntKind} {a:Option Addr} {len cap:Nat} {d:DataW H} {ps:List MemPlace} {ts:List TypeId} {ds:List (DataW H)} {j:Nat}
    (hsz:(DataW.weightsEach P ts ds).all (· <= reachBytes)=true) (ht:ts[j]? = some t) (hd:ds[j]? = some d) (hu:P.underlying t=some (.slice e)) (he:P.underlying e=some (.int k)) (hc:P.cellsOf e=1) {B:Nat} (hB:P.bytesOf e=B)
    (h:DataW.Trod enc P W base spare held t (.slice a len cap) d ps):len * B<=140737488351232:=by
  obtain⟨fuel,hf⟩:=h
  rcases open_ints hu he hc hf with⟨hcs,_⟩ | ⟨x,l,c,zs,hcs,_,hl,_,hz,hx,_,_⟩
  · simp[Value.cells] at hcs
    obtain⟨rfl,rfl,rfl⟩:=hcs
    simp
  · simp[Value.cells] at hcs
    obtain⟨rfl,rfl,rfl⟩:=hcs
    obtain⟨hx,_⟩:=Prod.mk.inj hx
    subst hx
    have z:=sized_slice hsz ht hd hu
    rw[hB] at z
    have hl2:len<=zs.length:=by
      rw[hz]
      split
      · exact hl
      · exact Nat.le_refl _
    have h1:(lits (H:=H) k (zs.take len)).length + (lits (H:=H) k (zs.drop len)).length=zs.length:=by
      simp[lits]
      omega
    rw[h1] at z
    exact Nat.le_trans (Nat.mul_le_mul_right _ hl2) z
end Go.Proofs.YtfooakkhkehpiaaW.PrintWords
namespace Go.Proofs.Ytfooakkhkehpiaa.fnDeskRun
open Go.ChangeShapes Go.WideShapes Go.ChangeAt Go.RowKit
open Go.ChangeMaps (open_string shut_string)
set_option linter.unusedVariables false
theorem own:ownKnob Try.prog.godebug=none:=by kernel_rfl
theorem laidOut:laidOutB Try.prog=true:=by kernel_rfl
def IsRow (k:IntKind) (w:World) (a:Option Addr) (len cap:Nat) (zs:List Int):Prop:=
  (a=none/\len=0/\cap=0/\zs=[]) ∨
  ∃x,a=some x/\len<=cap/\cap<=maxLen/\zs.length=cap/\(∀i,i < zs.length->w.cell? (x.add i)=some (.int k (zs.getD i 0)))/\∀n ∈ zs,(Lit.int k n).wf=true
set_option maxRecDepth 100000 in
theorem lifted (os:Os) (started:os.Started) (H:Type) (enc:TypeId × Value->H) :
    ReturnsInHanded {} Try.checked os 14 .any (Rows.fnDeskRunSpec.pre6 enc Try.prog Try.f14 Rows.fnDeskRunRow.domain false) (Rows.fnDeskRunSpec.post enc Try.prog Try.f14 false true false false):=by
  refine returnsInHanded_of_change_sized (C:=Try.checked) own started (by kernel_rfl) Try.func14
    (ChangeSpec.witness6 (enc:=enc) (C:=Try.checked) false ⟨#[],#[.slice none 0 0],[]⟩ 8 (by kernel_rfl) (by kernel_rfl) (by kernel_rfl) (by kernel_rfl)) ?_
  intro W base args ds gs before hval0 hW hcnd hsz0 _
  have hsz:(DataW.weightsEach Try.prog (Try.f14.params.toList ++ Rows.fnDeskRunSpec.plain.varTypes Try.prog) (ds ++ gs)).all (· <= reachBytes)=true:=hsz0
  have hval:∀(j:Nat) t v,Try.f14.params[j]? = some t->args[j]? = some v->Value.okWide Try.prog W .any base t v:=hval0
  have hW':=hW
  obtain⟨p,q,hA0,hV,rfl,hfz,hnd⟩:=hW
  have hA:DataW.TrodAll enc Try.prog W 0 (fun _=>true) true Try.f14.params.toList args.toList ds p:=hA0
  rw[Try.params14] at hA hval hsz
  obtain⟨v0,vs0,d0,ds0,p0,q0,hargs,rfl,rfl,h0,r0⟩:=trodAll_cons hA
  obtain⟨rfl,rfl,rfl⟩:=trodAll_nil r0
  obtain rfl:args=#[v0]:=by cases args;simp_all
  obtain⟨rfl,rfl⟩:=trodVars_none hV
  obtain⟨a0,len0,cap0,rfl⟩:=okWide_slice Try.underlying33 (hval 0 33 v0 rfl rfl)
  have k0:=h0
  have lt0:∀x ∈ p0,x.block < W.heap.size:=by obtain⟨m,hm⟩:=k0;exact DataW.trod_lt m _ _ _ hm
  obtain⟨z0,w0⟩:∃zs,IsRow .u8 W a0 len0 cap0 zs:=by
    obtain⟨fuel,hf⟩:=h0
    rcases open_ints Try.underlying33 Try.underlying5 (by kernel_rfl) hf with⟨hcs,_⟩ | ⟨x,l,c,zs,hcs,_,hl,hm,hz,_,hcell,hwz⟩
    · simp[Value.cells] at hcs
      obtain⟨rfl,rfl,rfl⟩:=hcs
      exact⟨[], .inl ⟨rfl,rfl,rfl,rfl⟩⟩
    · simp[Value.cells] at hcs
      obtain⟨rfl,rfl,rfl⟩:=hcs
      exact⟨zs, .inr ⟨_,rfl,hl,hm,by simpa using hz,hcell,hwz⟩⟩
  have y0:len0 * 1<=140737488351232:=Go.Proofs.YtfooakkhkehpiaaW.PrintWords.sized_ints hsz (j:=0) (t:=33) rfl rfl Try.underlying33 Try.underlying5 (by kernel_rfl) (by kernel_rfl) h0
  clear hA0 hval0 hsz0 hsz
  refine(PU.Fd.walk Pure.FnDeskRun a0 len0 cap0 z0 W w0 y0).mono fun e W' ⟨he,bel⟩=>?_
  subst he
  exact⟨_,rfl,_,_,_,[],_,[],hW',trodAll_mk1 (shut_bool Try.underlying4 _),(trodAll_cons_mk (Below.trod laidOut (by kernel_rfl) (of_decide_eq_true (by kernel_rfl)) k0 bel lt0) trodAll_mk0),rfl,bel.frame _,fun h=>by cases h⟩
theorem over:Rows.fnDeskRunRow.holds Try.pinned (OpenSpec.ofChange Rows.fnDeskRunSpec):=
  OpenClaim.holds_of_wide 14 Try.f14 rfl rfl rfl rfl rfl rfl rfl ⟨rfl,rfl,rfl,rfl,rfl⟩ rfl rfl rfl rfl rfl (by kernel_rfl) Try.func14 (by kernel_rfl)
    (of_decide_eq_true (by kernel_rfl)) (by unfold Func.isWrapper;first|(rw[if_pos (by decide +kernel)];kernel_rfl)|(rw[if_neg (by decide +kernel)];exact⟨rfl,rfl⟩))
    (fun os started H enc _=>lifted os started H enc)
theorem proved:Rows.FnDeskRunSaid:=over
end Go.Proofs.Ytfooakkhkehpiaa.fnDeskRun
namespace Go.Proofs.Ytfooakkhkehpiaa
theorem fnDeskRun_holds:Rows.FnDeskRunSaid:=fnDeskRun.proved
end Go.Proofs.Ytfooakkhkehpiaa
