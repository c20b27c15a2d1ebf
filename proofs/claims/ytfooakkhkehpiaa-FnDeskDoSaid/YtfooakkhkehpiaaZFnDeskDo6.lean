/- FnDeskDo: for every input the law holds. No condition. -/
import Derived.Test.YtfooakkhkehpiaaZFnDeskDo1
import Derived.Test.YtfooakkhkehpiaaZFnDeskDo2
import Derived.Test.YtfooakkhkehpiaaZFnDeskDo3
import Derived.Test.YtfooakkhkehpiaaZFnDeskDo4
import Derived.Test.YtfooakkhkehpiaaZFnDeskDo5
import Derived.SizedLaws
import Derived.ChangeSlices
import Derived.Test.YtfooakkhkehpiaaRows
import Derived.ProofKit
import Derived.OpenShut
import Derived.ShutString
import Derived.ChangeOld
namespace Go.Proofs.Ytfooakkhkehpiaa.Cr
open Go.RowKit Go.Proofs.Ytfooakkhkehpiaa.PU Go.Proofs.Ytfooakkhkehpiaa.Qh Go.Proofs.Ytfooakkhkehpiaa.Bk Go.Proofs.Ytfooakkhkehpiaa.Mx Go.Proofs.YtfooakkhkehpiaaW.PrintWords Go.Proofs.YtfooakkhkehpiaaW.PrintMore
set_option linter.unusedVariables false
set_option linter.unusedSimpArgs false
theorem wpred {n:Nat} (h:0 < n) (hn:n<=4611686018427387904):wrap64 ((n:Int) - 1)=((n - 1:Nat):Int):=by rw[w64 (by omega) (by omega)];omega
def la (p:List Int):Int:=rd p ((p.length - 1:Nat):Int)
def self (d:List (List Int)) (p:List Int):List (List Int):=if 1 < p.length/\0 < rd (Jc d (la p)) (rd p 0) then[p] else[]
def rest (F:List Int->List (List Int)) (d:List (List Int)) (p:List Int):Nat->Nat->List (List Int)
  | 0,_=>[]
  | e + 1,j=>(if rd (Jc d (la p)) (j:Int)=0 ∨ (j:Int) ∈ p then[] else F (p ++ [(j:Int)])) ++ rest F d p e (j + 1)
def P (n:Nat) (d:List (List Int)):Nat->List Int->List (List Int)
  | 0,_=>[]
  | m + 1,p=>self d p ++ rest (P n d m) d p (n - ((rd p 0).toNat + 1)) ((rd p 0).toNat + 1)
def PathP (n:Nat) (d:List (List Int)) (p:List Int):Prop:=
  0 < p.length/\p.Nodup/\(∀x ∈ p,rd p 0<=x/\0<=x/\x < (n:Int))/\∀i:Nat,i + 1 < p.length->0 < rd (Jc d (rd p (i:Int))) (rd p ((i + 1:Nat):Int))
theorem pigeon:∀(n:Nat) (p:List Int),p.Nodup->(∀x ∈ p,0<=x/\x < (n:Int))->p.length<=n
  | 0,p,_,h=>by
    cases p with
    | nil=>simp
    | cons a r=>have:=h a List.mem_cons_self;omega
  | n + 1,p,hd,h=>by
    by_cases hm:(n:Int) ∈ p
    · have h1:=pigeon n (p.erase (n:Int)) (hd.erase _) (fun x hx=>by
        have h2:=h x (List.mem_of_mem_erase hx)
        have h3:x≠(n:Int):=(List.Nodup.mem_erase_iff hd).1 hx |>.1
        omega)
      have h2:=List.length_erase_of_mem hm
      omega
    · have h1:=pigeon n p hd (fun x hx=>by
        have h2:=h x hx
        have h3:x≠(n:Int):=fun e=>hm (e ▸ hx)
        omega)
      omega
theorem rd_mem {p:List Int} {i:Nat} (h:i < p.length):rd p (i:Int) ∈ p:=by rw[rd_get p i h];exact List.getElem_mem h
theorem mem_rd {p:List Int} {x:Int} (h:x ∈ p):∃i:Nat,i < p.length/\rd p (i:Int)=x:=by
  obtain⟨i,hi,e⟩:=List.mem_iff_getElem.mp h
  exact⟨i,hi,by rw[rd_get p i hi];exact e⟩
theorem rd0 (p:List Int):rd p 0=rd p ((0:Nat):Int):=rfl
theorem la_mem {p:List Int} (h:0 < p.length):la p ∈ p:=rd_mem (by omega)
section
variable {n:Nat} {d:List (List Int)} {p:List Int}
theorem PathP.len (h:PathP n d p):p.length<=n:=pigeon n p h.2.1 (fun x hx=>(h.2.2.1 x hx).2)
theorem PathP.head (h:PathP n d p):0<=rd p 0/\rd p 0 < (n:Int):=by
  have:=h.2.2.1 (rd p 0) (by rw[rd0];exact rd_mem h.1)
  exact⟨this.2.1,this.2.2⟩
theorem PathP.last (h:PathP n d p):0<=la p/\la p < (n:Int):=by
  have:=h.2.2.1 (la p) (la_mem h.1)
  exact⟨this.2.1,this.2.2⟩
theorem PathP.one {i:Nat} (hi:i < n):PathP n d [(i:Int)]:=
  ⟨by simp,by simp,fun x hx=>by rw[List.mem_singleton.1 hx];exact⟨Int.le_refl _,by omega,by omega⟩,fun k hk=>by simp at hk⟩
theorem PathP.snoc (h:PathP n d p) {j:Nat} (hj:rd p 0 < (j:Int)) (hn:j < n) (hm:(j:Int) ∉ p) (he:0 < rd (Jc d (la p)) (j:Int)):PathP n d (p ++ [(j:Int)]):=by
  have h0:rd (p ++ [(j:Int)]) 0=rd p 0:=by rw[rd0,rd_app,if_pos h.1];rfl
  refine⟨by simp,?_,fun x hx=>?_,fun i hi=>?_⟩
  · rw[List.nodup_append]
    exact⟨h.2.1,by simp,fun a ha b hb e=>hm (by rw[List.mem_singleton.1 hb] at e;exact e ▸ ha)⟩
  · rw[h0]
    rcases List.mem_append.1 hx with hx|hx
    · exact h.2.2.1 x hx
    · rw[List.mem_singleton.1 hx];exact⟨by omega,by omega,by omega⟩
  · rw[List.length_append,List.length_singleton] at hi
    rw[rd_app,rd_app,if_pos (by omega)]
    by_cases hl:i + 1 < p.length
    · rw[if_pos hl];exact h.2.2.2 i hl
    · rw[if_neg hl,if_pos (by omega)]
      have:i=p.length - 1:=by omega
      rw[this]
      exact he
end
def CirP (n:Nat) (d:List (List Int)) (q:List Int):Prop:=PathP n d q/\1 < q.length/\0 < rd (Jc d (la q)) (rd q 0)
theorem mem_rest {F:List Int->List (List Int)} {d:List (List Int)} {p:List Int} {y:List Int}:∀(e j:Nat),y ∈ rest F d p e j->∃j':Nat,j<=j'/\j' < j + e/\rd (Jc d (la p)) (j':Int)≠0/\(j':Int) ∉ p/\y ∈ F (p ++ [(j':Int)])
  | 0,j,h=>by simp[rest] at h
  | e + 1,j,h=>by
    rw[rest] at h
    rcases List.mem_append.1 h with h|h
    · by_cases hc:rd (Jc d (la p)) (j:Int)=0 ∨ (j:Int) ∈ p
      · rw[if_pos hc] at h;simp at h
      · rw[if_neg hc] at h
        exact⟨j,by omega,by omega,fun z=>hc (.inl z),fun z=>hc (.inr z),h⟩
    · obtain⟨j',h1,h2,h3⟩:=mem_rest e (j + 1) h
      exact⟨j',by omega,by omega,h3⟩
theorem row_ge {c:List Int} {d:List (List Int)} (h:BookP c d) {i j:Int} (hi:0<=i/\i < (c.length:Int)) (hj:0<=j/\j < (c.length:Int)):0<=rd (Jc d i) j/\rd (Jc d i) j<=9:=by
  obtain⟨i,rfl⟩:=Int.eq_ofNat_of_zero_le hi.1
  obtain⟨j,rfl⟩:=Int.eq_ofNat_of_zero_le hj.1
  exact(h.2.2.2 i (by omega)).2.2.2.2 j (by omega)
theorem row_len {c:List Int} {d:List (List Int)} (h:BookP c d) {i:Int} (hi:0<=i/\i < (c.length:Int)):(Jc d i).length=c.length:=by
  obtain⟨i,rfl⟩:=Int.eq_ofNat_of_zero_le hi.1
  exact(h.2.2.2 i (by omega)).2.2.1
theorem mem_P {c:List Int} {d:List (List Int)} (h:BookP c d) {y:List Int}:∀(m:Nat) (p:List Int),PathP c.length d p->y ∈ P c.length d m p->CirP c.length d y
  | 0,p,_,hy=>by simp[P] at hy
  | m + 1,p,hp,hy=>by
    rw[P] at hy
    rcases List.mem_append.1 hy with hy|hy
    · unfold self at hy
      by_cases hc:1 < p.length/\0 < rd (Jc d (la p)) (rd p 0)
      · rw[if_pos hc] at hy
        rw[List.mem_singleton.1 hy]
        exact⟨hp,hc.1,hc.2⟩
      · rw[if_neg hc] at hy;simp at hy
    · obtain⟨j,h1,h2,h3,h4,h5⟩:=mem_rest _ _ hy
      have hh:=hp.head
      have hjn:j < c.length:=by omega
      have hge:=row_ge h hp.last (j:=(j:Int)) ⟨by omega,by omega⟩
      exact mem_P h m _ (hp.snoc (by omega) hjn h4 (by omega)) h5
theorem rest_len {F:List Int->List (List Int)} {d:List (List Int)} {p:List Int} {B:Nat} (hF:∀q,(F q).length<=B):∀(e j:Nat),(rest F d p e j).length<=e * B
  | 0,j=>by simp[rest]
  | e + 1,j=>by
    have ih:=rest_len hF (d:=d) (p:=p) e (j + 1)
    rw[rest,List.length_append,Nat.succ_mul]
    have:(if rd (Jc d (la p)) (j:Int)=0 ∨ (j:Int) ∈ p then[] else F (p ++ [(j:Int)])).length<=B:=by
      split
      · simp
      · exact hF _
    omega
theorem P_len {n:Nat} (hn:n<=4) (d:List (List Int)):∀(m:Nat) (p:List Int),(P n d m p).length<=5 ^ m
  | 0,p=>by simp[P]
  | m + 1,p=>by
    have h1:=rest_len (P_len hn d m) (d:=d) (p:=p) (n - ((rd p 0).toNat + 1)) ((rd p 0).toNat + 1)
    have h2:(self d p).length<=1:=by unfold self;split <;> simp
    have h3:(n - ((rd p 0).toNat + 1)) * 5 ^ m<=4 * 5 ^ m:=Nat.mul_le_mul_right _ (by omega)
    have h4:1<=5 ^ m:=Nat.one_le_pow _ _ (by omega)
    rw[P,List.length_append,Nat.pow_succ]
    omega
theorem inL (p:List Int) (j:Int) (i:Nat) (h:∀i':Nat,i' < i->rd p (i':Int)≠j) (hi:p.length<=i):j ∉ p:=fun hm=>by
  obtain⟨k,hk,e⟩:=mem_rd hm
  exact h k (by omega) e
section
variable {c:List Int} {d:List (List Int)}
theorem paths (h:BookP c d):∀(m:Nat) (p:List Int),PathP c.length d p->c.length + 1<=m + p.length->m<=4->Ev (fun k=>Fb.f k c d p) (P c.length d m p)
  | 0,p,hp,hm,_=>by have:=hp.len;omega
  | m + 1,p,hp,hm,hm4=>by
    have h4:=h.2.1
    have hdl:=h.2.2.1
    have hpl:=hp.len
    have hp0:=hp.1
    have hh:=hp.head
    have hl:=hp.last
    have hrl:=row_len h hl
    have hlw:Gy (wrap64 ((p.length:Int) - 1)=((p.length - 1:Nat):Int)):=⟨wpred hp0 (by omega)⟩
    have hla:rd p ((p.length - 1:Nat):Int)=la p:=rfl
    have h5:5 ^ m<=125:=by
      have:m<=3:=by omega
      calc 5 ^ m<=5 ^ 3:=Nat.pow_le_pow_right (by omega) this
        _=125:=rfl
    obtain⟨a,ha⟩:=Int.eq_ofNat_of_zero_le hh.1
    have haw:Gy (wrap64 (rd p 0 + 1)=((a + 1:Nat):Int)):=⟨by rw[ha];exact wsucc (n:=c.length) (by omega) (by omega)⟩
-- the banks that may follow
    have loop:∀(e j:Nat) (acc:List (List Int)),c.length - j=e->j<=c.length->a < j->acc.length + e * 5 ^ m<=1000->Ev (fun k=>Fb.l0 k p acc (la p) (j:Int) c d) (acc ++ rest (P c.length d m) d p e j):=by
      intro e
      induction e with
      | zero=>
        intro j acc he hj _ _
        refine Ev.step (fun k=>by rw[Fb.l0]) ?_
        exact evNeg (by omega) (evEq (Ev.now _) (by simp[rest]))
      | succ e ih=>
        intro j acc he hj haj hacc
        have hlt:j < c.length:=by omega
        have hj1:Gy (wrap64 ((j:Int) + 1)=((j + 1:Nat):Int)):=⟨wsucc hlt (by omega)⟩
        have hmul:acc.length + (e * 5 ^ m + 5 ^ m)<=1000:=by have z:=hacc;rw[Nat.succ_mul] at z;exact z
        have h1p:1<=5 ^ m:=Nat.one_le_pow _ _ (by omega)
        refine Ev.step (fun k=>by rw[Fb.l0]) ?_
        rw[hj1.out]
        refine evPos (by omega) (evPos hl.1 (evPos (by omega) (evPos (by omega) (evPos (by omega) ?_))))
        by_cases hz:rd (Jc d (la p)) (j:Int)=0
        · refine evPos hz (evEq (ih (j + 1) acc (by omega) (by omega) (by omega) (by omega)) ?_)
          rw[rest,if_pos (.inl hz),List.nil_append]
        · refine evNeg hz ?_
          have inner:∀(f i:Nat),p.length - i=f->i<=p.length->(∀i':Nat,i' < i->rd p (i':Int)≠(j:Int))->Ev (fun k=>Fb.l1 k p acc (la p) (j:Int) (i:Int) c d) (acc ++ rest (P c.length d m) d p (e + 1) j):=by
            intro f
            induction f with
            | zero=>
              intro i hf hi hno
              have hmem:=inL p (j:Int) i hno (by omega)
              have hge:=row_ge h hl (j:=(j:Int)) ⟨by omega,by omega⟩
              have hps:=hp.snoc (j:=j) (by omega) hlt hmem (by omega)
              refine Ev.step (fun k=>by rw[Fb.l1]) ?_
              rw[hj1.out]
              refine evNeg (by omega) (evBind0 rfl (evPos (by simp;omega) (evBind0 rfl (evBind0 rfl (evPos (by simp;omega) ?_)))))
              rw[List.nil_append]
              have hlen:(p ++ [(j:Int)]).length=p.length + 1:=by simp
              have hPl:=P_len h4 d m (p ++ [(j:Int)])
              refine Ev.bind (paths h m _ hps (by omega) (by omega)) (evPos (by omega) ?_)
              refine evEq (ih (j + 1) _ (by omega) (by omega) (by omega) (by rw[List.length_append];omega)) ?_
              rw[rest,if_neg (fun z=>z.elim hz hmem),List.append_assoc]
            | succ f ih2=>
              intro i hf hi hno
              have hi1:Gy (wrap64 ((i:Int) + 1)=((i + 1:Nat):Int)):=⟨wsucc (n:=p.length) (by omega) (by omega)⟩
              refine Ev.step (fun k=>by rw[Fb.l1]) ?_
              rw[hj1.out,hi1.out]
              refine evPos (by omega) (evPos (by omega) ?_)
              by_cases hij:rd p (i:Int)=(j:Int)
              · refine evPos hij (evEq (ih (j + 1) acc (by omega) (by omega) (by omega) (by omega)) ?_)
                rw[rest,if_pos (.inr (hij ▸ rd_mem (by omega))),List.nil_append]
              · refine evNeg hij (ih2 (i + 1) (by omega) (by omega) (fun i' hi'=>?_))
                by_cases e':i'=i
                · subst e';exact hij
                · exact hno i' (by omega)
          exact inner p.length 0 rfl (by omega) (fun i' hi'=>by omega)
    have ha':(rd p 0).toNat=a:=by rw[ha];rfl
    have he4:(c.length - (a + 1)) * 5 ^ m<=3 * 5 ^ m:=Nat.mul_le_mul_right _ (by omega)
    have tail:∀acc:List (List Int),acc.length<=1->Ev (fun k=>Fb.j1 k p acc (la p) c d) (acc ++ rest (P c.length d m) d p (c.length - ((rd p 0).toNat + 1)) ((rd p 0).toNat + 1)):=by
      intro acc hacc
      refine Ev.step (fun k=>by rw[Fb.j1]) ?_
      rw[haw.out,ha']
      refine evPos (by omega) (loop _ (a + 1) acc rfl (by omega) (by omega) (by omega))
    refine Ev.step (fun k=>by rw[Fb.f]) ?_
    rw[hlw.out,hla]
    refine evBind0 rfl (evPos (by omega) (evPos (by omega) ?_))
    rw[P]
    by_cases h1:1 < p.length
    · refine evPos (by omega) (evPos hl.1 (evPos (by omega) (evPos (by omega) (evPos hh.1 (evPos (by omega) ?_)))))
      refine Ev.step (fun k=>by rw[Fb.j0]) ?_
      by_cases hc:0 < rd (Jc d (la p)) (rd p 0)
      · refine evPos (decide_eq_true (by omega)) (evBind0 rfl (evPos (by simp;omega) (evBind0 rfl (evPos (by simp) ?_))))
        rw[List.nil_append,List.nil_append]
        have:self d p=[p]:=if_pos ⟨h1,hc⟩
        rw[this]
        exact tail [p] (by simp)
      · refine evNeg (by simpa using hc) ?_
        have:self d p=[]:=if_neg (fun z=>hc z.2)
        rw[this]
        exact tail [] (by simp)
    · refine evNeg (by omega) ?_
      refine Ev.step (fun k=>by rw[Fb.j0]) ?_
      refine evNeg (by decide) ?_
      have:self d p=[]:=if_neg (fun z=>h1 z.1)
      rw[this]
      exact tail [] (by simp)
end
def lexlt:List Int->List Int->Bool
  | a :: r,b :: s=>if a=b then lexlt r s else decide (a < b)
  | _,_=>false
def bef (a b:List Int):Bool:=if a.length=b.length then lexlt a b else decide (a.length < b.length)
theorem before (a b:List Int) (ha:a.length<=4611686018427387904):Ev (fun k=>Ga.f k a b) (bef a b):=by
  unfold Ga.f bef
  by_cases hl:a.length=b.length
  · rw[if_pos hl]
    refine evPos (by omega) ?_
    have key:∀(e i:Nat),a.length - i=e->i<=a.length->Ev (fun k=>Ga.l0 k a b (i:Int)) (lexlt (a.drop i) (b.drop i)):=by
      intro e
      induction e with
      | zero=>
        intro i he hi
        refine Ev.step (fun k=>by rw[Ga.l0]) ?_
        rw[List.drop_of_length_le (by omega)]
        exact evNeg (by omega) (evEq (Ev.now _) (by simp[lexlt]))
      | succ e ih=>
        intro i he hi
        have hi1:Gy (wrap64 ((i:Int) + 1)=((i + 1:Nat):Int)):=⟨wsucc (n:=a.length) (by omega) ha⟩
        refine Ev.step (fun k=>by rw[Ga.l0]) ?_
        rw[hi1.out]
        refine evPos (by omega) (evPos (by omega) (evPos (by omega) ?_))
        rw[drop_rd a i (by omega),drop_rd b i (by omega),lexlt]
        by_cases hc:rd a (i:Int)=rd b (i:Int)
        · rw[if_pos hc];exact evPos hc (ih (i + 1) (by omega) (by omega))
        · rw[if_neg hc];exact evNeg hc (Ev.now _)
    have:=key a.length 0 rfl (by omega)
    simpa using this
  · rw[if_neg hl]
    refine evNeg (by omega) (evEq (Ev.now _) ?_)
    rw[decide_eq_decide];omega
def ins (lt:List Int->List Int->Bool):Nat->List (List Int)->List (List Int)
  | 0,xs=>xs
  | j + 1,xs=>if lt (xs.getD (j + 1) []) (xs.getD j [])=true then ins lt j ((xs.set (j + 1) (xs.getD j [])).set j (xs.getD (j + 1) [])) else xs
def srt (lt:List Int->List Int->Bool):Nat->Nat->List (List Int)->List (List Int)
  | 0,_,xs=>xs
  | e + 1,i,xs=>srt lt e (i + 1) (ins lt i xs)
theorem ins_len (lt:List Int->List Int->Bool):∀(j:Nat) (xs:List (List Int)),(ins lt j xs).length=xs.length
  | 0,xs=>rfl
  | j + 1,xs=>by
    rw[ins];split
    · rw[ins_len];simp
    · rfl
theorem ins_mem (lt:List Int->List Int->Bool) {y:List Int}:∀(j:Nat) (xs:List (List Int)),j < xs.length->y ∈ ins lt j xs->y ∈ xs
  | 0,xs,_,h=>h
  | j + 1,xs,hj,h=>by
    rw[ins] at h;split at h
    · have h1:=ins_mem lt j _ (by simp;omega) h
      rcases List.mem_or_eq_of_mem_set h1 with h2|h2
      · rcases List.mem_or_eq_of_mem_set h2 with h3|h3
        · exact h3
        · rw[h3];exact getD_mem [] xs j (by omega)
      · rw[h2];exact getD_mem [] xs (j + 1) hj
    · exact h
theorem srt_len (lt:List Int->List Int->Bool):∀(e i:Nat) (xs:List (List Int)),(srt lt e i xs).length=xs.length
  | 0,_,xs=>rfl
  | e + 1,i,xs=>by rw[srt,srt_len,ins_len]
theorem srt_mem (lt:List Int->List Int->Bool) {y:List Int}:∀(e i:Nat) (xs:List (List Int)),i + e<=xs.length->y ∈ srt lt e i xs->y ∈ xs
  | 0,_,xs,_,h=>h
  | e + 1,i,xs,hi,h=>by
    rw[srt] at h
    exact ins_mem lt i xs (by omega) (srt_mem lt e (i + 1) _ (by rw[ins_len];omega) h)
def found (n:Nat) (d:List (List Int)):Nat->Nat->List (List Int)
  | 0,_=>[]
  | e + 1,i=>P n d 4 [(i:Int)] ++ found n d e (i + 1)
theorem found_len {n:Nat} (hn:n<=4) (d:List (List Int)):∀(e i:Nat),(found n d e i).length<=e * 625
  | 0,i=>by simp[found]
  | e + 1,i=>by
    have h1:=P_len hn d 4 [(i:Int)]
    have h2:=found_len hn d e (i + 1)
    rw[found,List.length_append,Nat.succ_mul];omega
def circ (c:List Int) (d:List (List Int)):List (List Int):=srt bef ((found c.length d c.length 0).length - 1) 1 (found c.length d c.length 0)
section
variable {c:List Int} {d:List (List Int)}
theorem mem_found (h:BookP c d) {y:List Int}:∀(e i:Nat),i + e=c.length->y ∈ found c.length d e i->CirP c.length d y
  | 0,i,_,hy=>by simp[found] at hy
  | e + 1,i,hi,hy=>by
    rw[found] at hy
    rcases List.mem_append.1 hy with hy|hy
    · exact mem_P h 4 _ (PathP.one (by omega)) hy
    · exact mem_found h e (i + 1) (by omega) hy
theorem circ_len (c:List Int) (d:List (List Int)):(circ c d).length=(found c.length d c.length 0).length:=srt_len _ _ _ _
theorem mem_circ (h:BookP c d) {y:List Int} (hy:y ∈ circ c d):CirP c.length d y:=by
  by_cases h0:(found c.length d c.length 0).length=0
  · have:=circ_len c d
    rw[h0,List.length_eq_zero_iff] at this
    rw[this] at hy;simp at hy
  · exact mem_found h c.length 0 (by omega) (srt_mem bef _ 1 _ (by omega) hy)
theorem sort_l2 {r:List (List Int)} (n:Nat) (hn:n<=100000) (x5:Int) (hrow:Nat) (hr4:hrow<=4611686018427387904):∀(j:Nat) (xs:List (List Int)),j < xs.length->xs.length=n->(∀y ∈ xs,y.length<=hrow) ->
    Ev (fun k=>Fe.l1 k (ins bef j xs) (wrap64 (x5 + 1))) r->Ev (fun k=>Fe.l2 k xs x5 (j:Int)) r
  | 0,xs,hj,hxn,hrw,hR=>by
    refine Ev.step (fun k=>by rw[Fe.l2]) ?_
    exact evNeg (by omega) hR
  | j + 1,xs,hj,hxn,hrw,hR=>by
    have hj1:Gy (wrap64 (((j + 1:Nat):Int) - 1)=(j:Int)):=⟨by rw[w64 (by omega) (by omega)];omega⟩
    refine Ev.step (fun k=>by rw[Fe.l2]) ?_
    rw[hj1.out]
    refine evPos (by omega) (evPos (by omega) (evPos (by omega) (evPos (by omega) (evPos (by omega) ?_))))
    have e1:Jc xs ((j + 1:Nat):Int)=xs.getD (j + 1) []:=rfl
    have e2:Jc xs (j:Int)=xs.getD j []:=rfl
    rw[e1,e2]
    have m1:=hrw _ (getD_mem [] xs (j + 1) hj)
    have m2:=hrw _ (getD_mem [] xs j (by omega))
    refine Ev.bind (before _ _ (by omega)) ?_
    rw[ins] at hR
    by_cases hb:bef (xs.getD (j + 1) []) (xs.getD j [])=true
    · rw[if_pos hb] at hR
      refine evPos hb ?_
      refine sort_l2 n hn x5 hrow hr4 j _ (by simp;omega) (by simp[hxn]) (fun y hy=>?_) hR
      rcases List.mem_or_eq_of_mem_set hy with h2|h2
      · rcases List.mem_or_eq_of_mem_set h2 with h3|h3
        · exact hrw y h3
        · rw[h3];exact m2
      · rw[h2];exact m1
    · rw[if_neg hb] at hR
      exact evNeg hb hR
theorem sort_l1 (n:Nat) (hn:n<=100000) (hrow:Nat) (hr4:hrow<=4611686018427387904):∀(e i:Nat) (xs:List (List Int)),xs.length=n->n - i=e->(∀y ∈ xs,y.length<=hrow)->Ev (fun k=>Fe.l1 k xs (i:Int)) (srt bef e i xs)
  | 0,i,xs,hxn,he,hrw=>by
    refine Ev.step (fun k=>by rw[Fe.l1]) ?_
    exact evNeg (by omega) (Ev.now _)
  | e + 1,i,xs,hxn,he,hrw=>by
    have hi1:wrap64 ((i:Int) + 1)=((i + 1:Nat):Int):=wsucc (n:=n) (by omega) (by omega)
    refine Ev.step (fun k=>by rw[Fe.l1]) ?_
    refine evPos (by omega) ?_
    refine sort_l2 n hn (i:Int) hrow hr4 i xs (by omega) hxn hrw ?_
    rw[hi1,srt]
    exact sort_l1 n hn hrow hr4 e (i + 1) _ (by rw[ins_len,hxn]) (by omega) (fun y hy=>hrw y (ins_mem bef i xs (by omega) hy))
theorem sCircles (h:BookP c d):Ev (fun k=>Fe.f k c d) (circ c d):=by
  have h4:=h.2.1
  unfold Fe.f circ
  have key:∀(e i:Nat) (acc:List (List Int)),c.length - i=e->i<=c.length->acc.length<=i * 625->acc ++ found c.length d e i=found c.length d c.length 0->Ev (fun k=>Fe.l0 k acc (i:Int) c d) (srt bef ((found c.length d c.length 0).length - 1) 1 (found c.length d c.length 0)):=by
    intro e
    induction e with
    | zero=>
      intro i acc he hi hacc hE
      refine Ev.step (fun k=>by rw[Fe.l0]) ?_
      refine evNeg (by omega) (Ev.step (fun k=>by rw[Fe.j1]) ?_)
      rw[found,List.append_nil] at hE
      have hfl:=found_len h4 d c.length 0
      rw[hE]
      exact sort_l1 (found c.length d c.length 0).length (by omega) c.length (by omega) _ 1 _ rfl rfl (fun y hy=>(mem_found h c.length 0 (by omega) hy).1.len)
    | succ e ih=>
      intro i acc he hi hacc hE
      have hlt:i < c.length:=by omega
      have hi1:Gy (wrap64 ((i:Int) + 1)=((i + 1:Nat):Int)):=⟨wsucc hlt (by omega)⟩
      have hPl:=P_len h4 d 4 [(i:Int)]
      refine Ev.step (fun k=>by rw[Fe.l0]) ?_
      rw[hi1.out]
      refine evPos (by omega) (Ev.bind ((bookOk c d).yes h) (evPos rfl (Ev.bind (paths h 4 _ (PathP.one hlt) (by simp;omega) (by omega)) (evPos (by omega) ?_))))
      refine ih (i + 1) _ (by omega) (by omega) (by rw[List.length_append,Nat.succ_mul];omega) ?_
      rw[List.append_assoc]
      rw[found] at hE
      exact hE
  exact key c.length 0 [] rfl (by omega) (by simp) (by simp)
end
end Go.Proofs.Ytfooakkhkehpiaa.Cr
namespace Go.Proofs.Ytfooakkhkehpiaa.Sk
open Go.RowKit Go.Proofs.Ytfooakkhkehpiaa.PU Go.Proofs.Ytfooakkhkehpiaa.Qh Go.Proofs.Ytfooakkhkehpiaa.Bk Go.Proofs.Ytfooakkhkehpiaa.Mx Go.Proofs.Ytfooakkhkehpiaa.Cr Go.Proofs.YtfooakkhkehpiaaW.PrintWords Go.Proofs.YtfooakkhkehpiaaW.PrintMore
set_option linter.unusedVariables false
set_option linter.unusedSimpArgs false
theorem mn_le (a b:Int):mn a b<=a/\mn a b<=b/\(mn a b=a ∨ mn a b=b):=by
  unfold mn
  split <;> omega
def nx (q:List Int) (k:Nat):Nat:=(k + 1) % q.length
def edge (d:List (List Int)) (q:List Int) (k:Nat):Int:=rd (Jc d (rd q (k:Int))) (rd q ((nx q k:Nat):Int))
def low (d:List (List Int)) (q:List Int):Nat->Nat->Int->Int
  | 0,_,x=>x
  | e + 1,k,x=>low d q e (k + 1) (mn x (edge d q k))
theorem low_le (d:List (List Int)) (q:List Int):∀(e k:Nat) (x:Int),low d q e k x<=x/\(∀i,k<=i->i < k + e->low d q e k x<=edge d q i)/\(low d q e k x=x ∨ ∃i,k<=i/\i < k + e/\low d q e k x=edge d q i)
  | 0,k,x=>⟨Int.le_refl _,fun i _ _=>by omega, .inl rfl⟩
  | e + 1,k,x=>by
    obtain⟨h1,h2,h3⟩:=low_le d q e (k + 1) (mn x (edge d q k))
    obtain⟨m1,m2,m3⟩:=mn_le x (edge d q k)
    refine⟨by rw[low];omega,fun i hi hi2=>?_,?_⟩
    · rw[low]
      by_cases e':i=k
      · subst e';omega
      · exact h2 i (by omega) (by omega)
    · rw[low]
      rcases h3 with h3 | ⟨i,i1,i2,i3⟩
      · rcases m3 with m3|m3
        · left;omega
        · right;exact⟨k,by omega,by omega,by omega⟩
      · right;exact⟨i,by omega,by omega,i3⟩
def lowest (d:List (List Int)) (q:List Int):Int:=low d q q.length 0 9
def hit (q:List Int) (k i j:Nat):Bool:=(List.range k).any (fun k'=>decide (rd q (k':Int)=(i:Int)/\rd q ((nx q k':Nat):Int)=(j:Int)))
theorem hit_iff {q:List Int} {k i j:Nat}:hit q k i j=true ↔ ∃k',k' < k/\rd q (k':Int)=(i:Int)/\rd q ((nx q k':Nat):Int)=(j:Int):=by
  unfold hit
  rw[List.any_eq_true]
  constructor
  · rintro⟨k',h1,h2⟩
    exact⟨k',List.mem_range.1 h1,(of_decide_eq_true h2).1,(of_decide_eq_true h2).2⟩
  · rintro⟨k',h1,h2,h3⟩
    exact⟨k',List.mem_range.2 h1,decide_eq_true ⟨h2,h3⟩⟩
def part (d:List (List Int)) (q:List Int) (k i j:Nat):Int:=if hit q k i j=true then db d i j - lowest d q else db d i j
def struck (c:List Int) (d:List (List Int)) (q:List Int):List (List Int):=mk c.length (part d q q.length)
section
variable {c:List Int} {d:List (List Int)} {q:List Int}
theorem nx_lt {q:List Int} (h:0 < q.length) (k:Nat):nx q k < q.length:=Nat.mod_lt _ h
theorem cir_at (hq:CirP c.length d q) {k:Nat} (hk:k < q.length):0<=rd q (k:Int)/\rd q (k:Int) < (c.length:Int):=by
  have:=hq.1.2.2.1 _ (rd_mem hk)
  exact⟨this.2.1,this.2.2⟩
theorem cir_inj (hq:CirP c.length d q) {k l:Nat} (hk:k < q.length) (hl:l < q.length) (h:rd q (k:Int)=rd q (l:Int)):k=l:=by
  rw[rd_get q k hk,rd_get q l hl] at h
  exact(List.getElem_inj hq.1.2.1).1 h
theorem nx_ne (hq:CirP c.length d q) {k:Nat} (hk:k < q.length):nx q k≠k:=by
  have:=hq.2.1
  unfold nx
  by_cases h:k + 1=q.length
  · rw[h,Nat.mod_self];omega
  · rw[Nat.mod_eq_of_lt (by omega)];omega
theorem edge_pos (hq:CirP c.length d q) {k:Nat} (hk:k < q.length):0 < edge d q k:=by
  unfold edge nx
  by_cases h:k + 1=q.length
  · rw[h,Nat.mod_self]
    have:k=q.length - 1:=by omega
    rw[this]
    exact hq.2.2
  · rw[Nat.mod_eq_of_lt (by omega)]
    exact hq.1.2.2.2 k (by omega)
theorem edge_le (h:BookP c d) (hq:CirP c.length d q) {k:Nat} (hk:k < q.length):edge d q k<=9:=
  (row_ge h (cir_at hq hk) (cir_at hq (nx_lt hq.1.1 k))).2
theorem lowest_pos (hq:CirP c.length d q):1<=lowest d q:=by
  have h0:=hq.1.1
  rcases(low_le d q q.length 0 9).2.2 with h | ⟨i,_,h2,h3⟩
  · unfold lowest;omega
  · have:=edge_pos hq (k:=i) (by omega)
    unfold lowest;omega
theorem lowest_le (hq:CirP c.length d q) {k:Nat} (hk:k < q.length):lowest d q<=edge d q k:=(low_le d q q.length 0 9).2.1 k (by omega) (by omega)
theorem hit_edge (hq:CirP c.length d q) {k i j:Nat} (hk:k<=q.length) (h:hit q k i j=true):lowest d q<=db d i j/\i≠j:=by
  obtain⟨k',h1,h2,h3⟩:=hit_iff.1 h
  have hk':k' < q.length:=by omega
  have:=lowest_le hq hk'
  refine⟨?_,fun e=>?_⟩
  · unfold edge at this
    rw[h2,h3] at this
    exact this
  · rw[<- e, <- h2] at h3
    exact nx_ne hq hk' (cir_inj hq (nx_lt hq.1.1 k') hk' h3)
theorem part_bd (h:BookP c d) (hq:CirP c.length d q) {k i j:Nat} (hk:k<=q.length) (hi:i < c.length) (hj:j < c.length):0<=part d q k i j/\part d q k i j<=db d i j:=by
  have hb:=(h.2.2.2 i hi).2.2.2.2 j hj
  have hp:=lowest_pos hq
  unfold part
  by_cases hh:hit q k i j=true
  · rw[if_pos hh]
    have:=(hit_edge hq hk hh).1
    omega
  · rw[if_neg hh];exact⟨hb.1,Int.le_refl _⟩
theorem struck_get {i j:Nat} (hi:i < c.length) (hj:j < c.length):db (struck c d q) i j=part d q q.length i j:=by
  show rd (Jc (mk c.length (part d q q.length)) (i:Int)) (j:Int)=_
  rw[mk_get hi,rd_rowF hj]
theorem struck_ok (h:BookP c d) (hq:CirP c.length d q):BookP c (struck c d q):=by
  refine⟨h.1,h.2.1,mk_len _ _,fun i hi=>?_⟩
  have hc:=h.2.2.2 i hi
  refine⟨hc.1,hc.2.1,?_,?_,fun j hj=>?_⟩
  · show(Jc (mk c.length (part d q q.length)) (i:Int)).length=_
    rw[mk_get hi,rowF_len]
  · refine(struck_get hi hi).trans ?_
    unfold part
    rw[if_neg (fun z=>(hit_edge hq (Nat.le_refl _) z).2 rfl)]
    exact hc.2.2.2.1
  · have h1:=struck_get (c:=c) (d:=d) (q:=q) hi hj
    have h2:=part_bd h hq (Nat.le_refl _) hi hj
    have h3:=hc.2.2.2.2 j hj
    show 0<=db (struck c d q) i j/\db (struck c d q) i j<=9
    have h4:db d i j<=9:=h3.2
    rw[h1];omega
theorem ki (q:List Int) (k:Nat) (h:k < q.length) (hq:q.length<=4):wrap64 ((k:Int) + 1)=((k + 1:Nat):Int):=wsucc h (by omega)
theorem tm (q:List Int) (k:Nat):Int.tmod ((k + 1:Nat):Int) (q.length:Int)=((nx q k:Nat):Int):=by
  unfold nx
  rw[Int.tmod_eq_emod_of_nonneg (by omega)]
  rfl
theorem st_l0 (h:BookP c d) (hq:CirP c.length d q) {r:List Int × List (List Int)} (hR:Ev (fun k=>Fk.l1 k q (lowest d q) 0 c d c d) r):∀(e k:Nat) (x:Int),q.length - k=e->k<=q.length->low d q e k x=lowest d q->Ev (fun n=>Fk.l0 n q x (k:Int) c d c d) r:=by
  have h4:=h.2.1
  have hdl:=h.2.2.1
  have hql:=hq.1.len
  have hq0:=hq.1.1
  intro e
  induction e with
  | zero=>
    intro k x he hk hx
    refine Ev.step (fun n=>by rw[Fk.l0]) ?_
    refine evNeg (by omega) ?_
    rw[low] at hx
    rw[hx]
    exact hR
  | succ e ih=>
    intro k x he hk hx
    have hlt:k < q.length:=by omega
    have hk1:Gy (wrap64 ((k:Int) + 1)=((k + 1:Nat):Int)):=⟨ki q k hlt (by omega)⟩
    have htm:Gy (Int.tmod ((k + 1:Nat):Int) (q.length:Int)=((nx q k:Nat):Int)):=⟨tm q k⟩
    have a1:=cir_at hq hlt
    have a2:=cir_at hq (nx_lt hq0 k)
    have hn:=nx_lt hq0 k
    have hrl:=row_len h a1
    refine Ev.step (fun n=>by rw[Fk.l0]) ?_
    rw[hk1.out,htm.out]
    refine evPos (by omega) (evPos (by omega) (evPos a1.1 (evPos (by omega) (evNeg (by omega) (evPos (by omega) (evPos (by omega) (evPos a2.1 (evPos (by omega) ?_))))))))
    exact ih (k + 1) _ (by omega) (by omega) (by rw[low] at hx;exact hx)
theorem st_l1 (h:BookP c d) (hq:CirP c.length d q):∀(e k:Nat),q.length - k=e->k<=q.length->Ev (fun n=>Fk.l1 n q (lowest d q) (k:Int) c d c (mk c.length (part d q k))) (c,struck c d q):=by
  have h4:=h.2.1
  have hdl:=h.2.2.1
  have hql:=hq.1.len
  have hq0:=hq.1.1
  intro e
  induction e with
  | zero=>
    intro k he hk
    refine Ev.step (fun n=>by rw[Fk.l1]) ?_
    have:k=q.length:=by omega
    subst this
    exact evNeg (by omega) (Ev.now _)
  | succ e ih=>
    intro k he hk
    have hlt:k < q.length:=by omega
    have hk1:Gy (wrap64 ((k:Int) + 1)=((k + 1:Nat):Int)):=⟨ki q k hlt (by omega)⟩
    have htm:Gy (Int.tmod ((k + 1:Nat):Int) (q.length:Int)=((nx q k:Nat):Int)):=⟨tm q k⟩
    have a1:=cir_at hq hlt
    have a2:=cir_at hq (nx_lt hq0 k)
    have hn:=nx_lt hq0 k
    have hrl:=row_len h a1
    have hml:=mk_len c.length (part d q k)
    have hle:=lowest_le hq hlt
    have hlp:=lowest_pos hq
    have hee:=edge_le h hq hlt
    obtain⟨a,ha⟩:=Int.eq_ofNat_of_zero_le a1.1
    obtain⟨b,hb⟩:=Int.eq_ofNat_of_zero_le a2.1
    have hac:a < c.length:=by omega
    have hbc:b < c.length:=by omega
    have hmr:(Jc (mk c.length (part d q k)) (rd q (k:Int))).length=c.length:=by rw[ha,mk_get hac,rowF_len]
    have hw:Gy (wrap64 (rd (Jc d (rd q (k:Int))) (rd q ((nx q k:Nat):Int)) - lowest d q)=db d a b - lowest d q):=⟨by
      have e1:rd (Jc d (rd q (k:Int))) (rd q ((nx q k:Nat):Int))=edge d q k:=rfl
      rw[e1,w64 (by omega) (by omega)]
      have e2:edge d q k=db d a b:=by unfold edge;rw[ha,hb]
      rw[e2]⟩
    refine Ev.step (fun n=>by rw[Fk.l1]) ?_
    rw[hk1.out,htm.out]
    refine evPos (by omega) (evPos (by omega) (evNeg (by omega) (evPos (by omega) (evPos (by omega) (evPos a1.1 (evPos (by omega) (evPos (by omega) (evPos a2.1 (evPos (by omega) (evPos (by omega) ?_))))))))))
    rw[hw.out,ha,hb,Int.toNat_natCast,Int.toNat_natCast,mk_set hac hbc]
    have:mk c.length (fun i' j'=>if i'=a/\j'=b then db d a b - lowest d q else part d q k i' j')=mk c.length (part d q (k + 1)):=mk_congr (fun i hi j hj=>by
      by_cases z:i=a/\j=b
      · rw[if_pos z]
        unfold part
        rw[if_pos (hit_iff.2 ⟨k,by omega,by rw[ha,z.1],by rw[hb,z.2]⟩),z.1,z.2]
      · rw[if_neg z]
        unfold part
        have:hit q (k + 1) i j=hit q k i j:=by
          rw[Bool.eq_iff_iff,hit_iff,hit_iff]
          constructor
          · rintro⟨k',h1,h2,h3⟩
            by_cases e':k'=k
            · subst e'
              rw[ha] at h2;rw[hb] at h3
              exact absurd ⟨by omega,by omega⟩ z
            · exact⟨k',by omega,h2,h3⟩
          · rintro⟨k',h1,h2⟩
            exact⟨k',by omega,h2⟩
        rw[this])
    rw[this]
    exact ih (k + 1) (by omega) (by omega)
theorem sStruck (h:BookP c d) (hq:CirP c.length d q):Ev (fun k=>Fk.f k c d q) (c,struck c d q):=by
  unfold Fk.f
  refine Ev.bind (scopy h) (st_l0 h hq ?_ q.length 0 9 rfl (by omega) rfl)
  have:=st_l1 h hq q.length 0 rfl (by omega)
  have e:mk c.length (part d q 0)=d:=(mk_congr (fun i _ j _=>by unfold part hit;simp)).trans (mk_of h).symm
  rw[e] at this
  exact this
def s1 (f:Nat->Int):Nat->Int
  | 0=>0
  | m + 1=>s1 f m + f m
theorem s1_le {f g:Nat->Int}:∀m:Nat,(∀i,i < m->f i<=g i)->s1 f m<=s1 g m
  | 0,_=>Int.le_refl _
  | m + 1,h=>by
    have:=s1_le m (fun i hi=>h i (by omega))
    have:=h m (by omega)
    simp only[s1];omega
theorem s1_lt {f g:Nat->Int}:∀m:Nat,(∀i,i < m->f i<=g i)->(∃i,i < m/\f i < g i)->s1 f m < s1 g m
  | 0,_,⟨i,hi,_⟩=>by omega
  | m + 1,h,⟨i,hi,hl⟩=>by
    have h1:=s1_le m (fun i hi=>h i (by omega))
    have h2:=h m (by omega)
    simp only[s1]
    by_cases e:i=m
    · subst e;omega
    · have:=s1_lt m (fun i hi=>h i (by omega)) ⟨i,by omega,hl⟩
      omega
theorem s1_ge {f:Nat->Int} {a b:Int}:∀m:Nat,(∀i,i < m->a<=f i/\f i<=b)->a * m<=s1 f m/\s1 f m<=b * m
  | 0,_=>by simp[s1]
  | m + 1,h=>by
    have h1:=s1_ge m (fun i hi=>h i (by omega))
    have h2:=h m (by omega)
    have e1:a * ((m + 1:Nat):Int)=a * m + a:=by rw[Int.natCast_add,Int.mul_add];simp
    have e2:b * ((m + 1:Nat):Int)=b * m + b:=by rw[Int.natCast_add,Int.mul_add];simp
    simp only[s1]
    rw[e1,e2];omega
def tot (c:List Int) (d:List (List Int)):Int:=s1 (fun i=>s1 (db d i) c.length) c.length
theorem tot_bd (h:BookP c d):0<=tot c d/\tot c d<=144:=by
  have h4:=h.2.1
  have hr:∀i,i < c.length->0<=s1 (db d i) c.length/\s1 (db d i) c.length<=36:=fun i hi=>by
    have:=s1_ge (f:=db d i) (a:=0) (b:=9) c.length (fun j hj=>(h.2.2.2 i hi).2.2.2.2 j hj)
    omega
  have:=s1_ge (f:=fun i=>s1 (db d i) c.length) (a:=0) (b:=36) c.length hr
  unfold tot
  omega
theorem struck_less (h:BookP c d) (hq:CirP c.length d q):tot c (struck c d q) < tot c d:=by
  have hb:∀i,i < c.length->∀j,j < c.length->db (struck c d q) i j<=db d i j:=fun i hi j hj=>by
    rw[struck_get hi hj];exact(part_bd h hq (Nat.le_refl _) hi hj).2
  have h0:=hq.1.1
  have a1:=cir_at hq h0
  have a2:=cir_at hq (nx_lt h0 0)
  obtain⟨a,ha⟩:=Int.eq_ofNat_of_zero_le a1.1
  obtain⟨b,hb2⟩:=Int.eq_ofNat_of_zero_le a2.1
  have hlp:=lowest_pos hq
  refine s1_lt c.length (fun i hi=>s1_le c.length (hb i hi)) ⟨a,by omega,s1_lt c.length (hb a (by omega)) ⟨b,by omega,?_⟩⟩
  rw[struck_get (by omega) (by omega)]
  unfold part
  rw[if_pos (hit_iff.2 ⟨0,h0,ha,hb2⟩)]
  omega
def woc (c:List Int):Nat->List (List Int)->Int->List (List Int) × Int
  | 0,d,n=>(d,n)
  | N + 1,d,n=>if (circ c d).length=0 then(d,n) else woc c N (struck c d ((circ c d).getD 0 [])) (n + 1)
theorem woc_ok:∀(N:Nat) (d:List (List Int)) (n:Int),BookP c d->BookP c (woc c N d n).1
  | 0,d,n,h=>h
  | N + 1,d,n,h=>by
    rw[woc]
    split
    · exact h
    · next hz=>exact woc_ok N _ _ (struck_ok h (mem_circ h (getD_mem [] _ 0 (by omega))))
theorem sWoc:∀(N:Nat) (d:List (List Int)) (n:Int),BookP c d->tot c d<=(N:Int)->0<=n->n + N<=1000->Ev (fun k=>Fc.l0 k n c d) (c,(woc c N d n).1,(woc c N d n).2):=by
  intro N
  induction N with
  | zero=>
    intro d n h ht hn hN
    have hb:=tot_bd h
    refine Ev.step (fun k=>by rw[Fc.l0]) ?_
    refine Ev.bind (sCircles h) ?_
    have hz:(circ c d).length=0:=by
      apply Classical.byContradiction
      intro hz
      have hq:=mem_circ h (getD_mem [] (circ c d) 0 (by omega))
      have h1:=struck_less h hq
      have h2:=tot_bd (struck_ok h hq)
      omega
    exact evPos (by omega) (Ev.now _)
  | succ N ih=>
    intro d n h ht hn hN
    refine Ev.step (fun k=>by rw[Fc.l0]) ?_
    refine Ev.bind (sCircles h) ?_
    by_cases hz:(circ c d).length=0
    · refine evPos (by omega) (evEq (Ev.now _) ?_)
      rw[woc,if_pos hz]
    · refine evNeg (by omega) (evPos (by omega) ?_)
      have hq:=mem_circ h (getD_mem [] (circ c d) 0 (by omega))
      have e1:Jc (circ c d) 0=(circ c d).getD 0 []:=rfl
      rw[e1]
      refine Ev.bind (sStruck h hq) ?_
      have hw:wrap64 (n + 1)=n + 1:=w64 (by omega) (by omega)
      rw[hw]
      have h1:=struck_less h hq
      refine evEq (ih _ (n + 1) (struck_ok h hq) (by show tot c (struck c d ((circ c d).getD 0 []))<=(N:Int);omega) (by omega) (by omega)) ?_
      rw[woc,if_neg hz]
def without (c:List Int) (d:List (List Int)):List (List Int) × Int:=woc c 144 d 0
theorem without_ok (h:BookP c d):BookP c (without c d).1:=woc_ok _ _ _ h
theorem sWithout (c:List Int) (d:List (List Int)):Ev (fun k=>Fc.f k c d) (@ite _ (BookP c d) (Classical.propDecidable _) (c,(without c d).1,(without c d).2) ([],[], -1)):=by
  unfold Fc.f
  by_cases h:BookP c d
  · rw[if_pos h]
    refine Ev.bind ((bookOk c d).yes h) (evPos rfl (Ev.bind (scopy h) ?_))
    exact sWoc 144 d 0 h (tot_bd h).2 (by omega) (by omega)
  · rw[if_neg h]
    exact Ev.bind ((bookOk c d).no h) (evNeg (by decide) (Ev.now _))
end
end Go.Proofs.Ytfooakkhkehpiaa.Sk
namespace Go.Proofs.Ytfooakkhkehpiaa.Nt
open Go.RowKit Go.Proofs.Ytfooakkhkehpiaa.PU Go.Proofs.Ytfooakkhkehpiaa.Qh Go.Proofs.Ytfooakkhkehpiaa.Bk Go.Proofs.Ytfooakkhkehpiaa.Mx Go.Proofs.YtfooakkhkehpiaaW.PrintWords Go.Proofs.YtfooakkhkehpiaaW.PrintMore
set_option linter.unusedVariables false
set_option linter.unusedSimpArgs false
def N (d:List (List Int)) (i j:Nat):Int:=db d i j - mn (db d i j) (db d j i)
def netL (c:List Int) (d:List (List Int)):List (List Int):=mk c.length (N d)
variable {c:List Int} {d:List (List Int)}
theorem db_bd (h:BookP c d) {i j:Nat} (hi:i < c.length) (hj:j < c.length):0<=db d i j/\db d i j<=9:=(h.2.2.2 i hi).2.2.2.2 j hj
theorem db_diag (h:BookP c d) {i:Nat} (hi:i < c.length):db d i i=0:=(h.2.2.2 i hi).2.2.2.1
theorem mn_le (a b:Int):mn a b<=a/\mn a b<=b/\(mn a b=a ∨ mn a b=b):=by
  unfold mn
  split <;> omega
theorem mn_comm (a b:Int):mn a b=mn b a:=by
  have h1:=mn_le a b
  have h2:=mn_le b a
  omega
theorem N_bd (h:BookP c d) {i j:Nat} (hi:i < c.length) (hj:j < c.length):0<=N d i j/\N d i j<=db d i j:=by
  have h1:=mn_le (db d i j) (db d j i)
  have h2:=db_bd h hi hj
  have h3:=db_bd h hj hi
  unfold N
  omega
theorem N_diag (h:BookP c d) {i:Nat} (hi:i < c.length):N d i i=0:=by
  have h1:=N_bd h hi hi
  have h2:=db_diag h hi
  omega
theorem net_len (c:List Int) (d:List (List Int)):(netL c d).length=c.length:=mk_len _ _
theorem net_get (h:BookP c d) {i j:Nat} (hi:i < c.length) (hj:j < c.length):db (netL c d) i j=N d i j:=by
  show rd (Jc (mk c.length (N d)) (i:Int)) (j:Int)=_
  rw[mk_get hi,rd_rowF hj]
theorem net_ok (h:BookP c d):BookP c (netL c d):=by
  refine⟨h.1,h.2.1,net_len c d,fun i hi=>?_⟩
  have hc:=h.2.2.2 i hi
  refine⟨hc.1,hc.2.1,?_,?_,fun j hj=>?_⟩
  · show(Jc (mk c.length (N d)) (i:Int)).length=_
    rw[mk_get hi,rowF_len]
  · exact(net_get h hi hi).trans (N_diag h hi)
  · have h1:=net_get h hi hj
    have h2:=N_bd h hi hj
    have h3:=db_bd h hi hj
    show 0<=db (netL c d) i j/\db (netL c d) i j<=9
    rw[h1];omega
def fi (d:List (List Int)) (i k:Nat) (i' j':Nat):Int:=if i' < i ∨ i'=i/\j' < k then N d i' j' else db d i' j'
theorem in_l1 (h:BookP c d) {i:Nat} (hi:i < c.length) {r:List Int × List (List Int)} (hR:Ev (fun n=>Fw.l0 n d (c.length:Int) ((i + 1:Nat):Int) c d c (mk c.length (fi d (i + 1) 0))) r):∀(e k:Nat),c.length - k=e->k<=c.length ->
    Ev (fun n=>Fw.l1 n (i:Int) d (c.length:Int) (i:Int) (Jc d (i:Int)) (c.length:Int) (k:Int) c d c (mk c.length (fi d i k))) r:=by
  have h4:=h.2.1
  have hdl:=h.2.2.1
  have hri:=(h.2.2.2 i hi).2.2.1
  have hs:Gy (wrap64 ((i:Int) + 1)=((i + 1:Nat):Int)):=⟨wsucc hi (by omega)⟩
  intro e
  induction e with
  | zero=>
    intro k he hk
    obtain rfl:k=c.length:=by omega
    refine Ev.step (fun n=>by rw[Fw.l1]) ?_
    rw[hs.out]
    refine evNeg (by omega) ?_
    have:mk c.length (fi d i c.length)=mk c.length (fi d (i + 1) 0):=mk_congr (fun a ha b hb=>by
      unfold fi
      by_cases z:a < i ∨ a=i/\b < c.length
      · rw[if_pos z,if_pos (by omega)]
      · rw[if_neg z,if_neg (by omega)])
    rw[this]
    exact hR
  | succ e ih=>
    intro k he hk
    have hlt:k < c.length:=by omega
    have hk1:Gy (wrap64 ((k:Int) + 1)=((k + 1:Nat):Int)):=⟨wsucc hlt (by omega)⟩
    have hrk:=(h.2.2.2 k hlt).2.2.1
    have hml:=mk_len c.length (fi d i k)
    have hmr:(Jc (mk c.length (fi d i k)) (i:Int)).length=c.length:=by rw[mk_get hi,rowF_len]
    have b1:=db_bd h hi hlt
    have b2:=N_bd h hi hlt
    have hw:Gy (wrap64 (rd (Jc d (i:Int)) (k:Int) - mn (rd (Jc d (i:Int)) (k:Int)) (rd (Jc d (k:Int)) (i:Int)))=N d i k):=⟨by
      have e1:rd (Jc d (i:Int)) (k:Int) - mn (rd (Jc d (i:Int)) (k:Int)) (rd (Jc d (k:Int)) (i:Int))=N d i k:=rfl
      rw[e1,w64 (by omega) (by omega)]⟩
    refine Ev.step (fun n=>by rw[Fw.l1]) ?_
    rw[hk1.out,hw.out,Int.toNat_natCast,Int.toNat_natCast,mk_set hi hlt]
    refine evPos (by omega) (evPos (by omega) (evPos (by omega) (evPos (by omega) (evPos (by omega) (evPos (by omega) (evPos (by omega) (evPos (by omega) ?_)))))))
    have:mk c.length (fun i' j'=>if i'=i/\j'=k then N d i k else fi d i k i' j')=mk c.length (fi d i (k + 1)):=mk_congr (fun a ha b hb=>by
      unfold fi
      by_cases z:a=i/\b=k
      · rw[if_pos z,if_pos (by omega),z.1,z.2]
      · rw[if_neg z]
        by_cases y:a < i ∨ a=i/\b < k
        · rw[if_pos y,if_pos (by omega)]
        · rw[if_neg y,if_neg (by omega)])
    rw[this]
    exact ih (k + 1) (by omega) (by omega)
theorem in_l0 (h:BookP c d):∀(e i:Nat),c.length - i=e->i<=c.length->Ev (fun n=>Fw.l0 n d (c.length:Int) (i:Int) c d c (mk c.length (fi d i 0))) (c,netL c d):=by
  have hdl:=h.2.2.1
  intro e
  induction e with
  | zero=>
    intro i he hi
    obtain rfl:i=c.length:=by omega
    refine Ev.step (fun n=>by rw[Fw.l0]) ?_
    refine evNeg (by omega) (evEq (Ev.now _) ?_)
    have:mk c.length (fi d c.length 0)=netL c d:=mk_congr (fun a ha b hb=>by unfold fi;rw[if_pos (by omega)])
    rw[this]
  | succ e ih=>
    intro i he hi
    have hlt:i < c.length:=by omega
    have hri:=(h.2.2.2 i hlt).2.2.1
    refine Ev.step (fun n=>by rw[Fw.l0]) ?_
    rw[hri]
    refine evPos (by omega) (evPos (by omega) (evPos (by omega) ?_))
    exact in_l1 h hlt (ih (i + 1) (by omega) (by omega)) c.length 0 rfl (by omega)
theorem inetted (h:BookP c d):Ev (fun n=>Fw.f n c d) (c,netL c d):=by
  have hdl:=h.2.2.1
  unfold Fw.f
  refine Ev.bind (icopy h) ?_
  have e:mk c.length (fi d 0 0)=d:=(mk_congr (fun a ha b hb=>by unfold fi;rw[if_neg (by omega)])).trans (mk_of h).symm
  have:=in_l0 h c.length 0 rfl (by omega)
  rw[e] at this
  show Ev (fun n=>Fw.l0 n d (d.length:Int) 0 c d c d) (c,netL c d)
  rw[hdl]
  exact this
def fs (d:List (List Int)) (i k:Nat) (a b:Nat):Int:=if a≠b/\(max a b < i ∨ max a b=i/\min a b < k) then N d a b else db d a b
theorem sn_l1 (h:BookP c d) {i:Nat} (hi:i < c.length) {r:List Int × List (List Int)} (hR:Ev (fun n=>Fj.l0 n ((i + 1:Nat):Int) c d c (mk c.length (fs d (i + 1) 0))) r):∀(e k:Nat),i - k=e->k<=i ->
    Ev (fun n=>Fj.l1 n (i:Int) (k:Int) c d c (mk c.length (fs d i k))) r:=by
  have h4:=h.2.1
  have hdl:=h.2.2.1
  have hri:=(h.2.2.2 i hi).2.2.1
  have hs:Gy (wrap64 ((i:Int) + 1)=((i + 1:Nat):Int)):=⟨wsucc hi (by omega)⟩
  intro e
  induction e with
  | zero=>
    intro k he hk
    obtain rfl:k=i:=by omega
    refine Ev.step (fun n=>by rw[Fj.l1]) ?_
    rw[hs.out]
    refine evNeg (by omega) ?_
    have:mk c.length (fs d k k)=mk c.length (fs d (k + 1) 0):=mk_congr (fun a ha b hb=>by
      unfold fs
      by_cases z:a≠b/\(max a b < k ∨ max a b=k/\min a b < k)
      · rw[if_pos z,if_pos (by omega)]
      · rw[if_neg z,if_neg (by omega)])
    rw[this]
    exact hR
  | succ e ih=>
    intro k he hk
    have hlt:k < c.length:=by omega
    have hk1:Gy (wrap64 ((k:Int) + 1)=((k + 1:Nat):Int)):=⟨wsucc hlt (by omega)⟩
    have hrk:=(h.2.2.2 k hlt).2.2.1
    have hml:=mk_len c.length (fs d i k)
    have hmr:(Jc (mk c.length (fs d i k)) (i:Int)).length=c.length:=by rw[mk_get hi,rowF_len]
    have b1:=db_bd h hi hlt
    have b2:=N_bd h hi hlt
    have b3:=db_bd h hlt hi
    have b4:=N_bd h hlt hi
    have hw:Gy (wrap64 (rd (Jc d (i:Int)) (k:Int) - mn (rd (Jc d (i:Int)) (k:Int)) (rd (Jc d (k:Int)) (i:Int)))=N d i k):=⟨by
      have e1:rd (Jc d (i:Int)) (k:Int) - mn (rd (Jc d (i:Int)) (k:Int)) (rd (Jc d (k:Int)) (i:Int))=N d i k:=rfl
      rw[e1,w64 (by omega) (by omega)]⟩
    have hw2:Gy (wrap64 (rd (Jc d (k:Int)) (i:Int) - mn (rd (Jc d (i:Int)) (k:Int)) (rd (Jc d (k:Int)) (i:Int)))=N d k i):=⟨by
      have e1:rd (Jc d (k:Int)) (i:Int) - mn (rd (Jc d (i:Int)) (k:Int)) (rd (Jc d (k:Int)) (i:Int))=N d k i:=by
        rw[mn_comm];rfl
      rw[e1,w64 (by omega) (by omega)]⟩
    refine Ev.step (fun n=>by rw[Fj.l1]) ?_
    rw[hk1.out,hw.out,hw2.out,Int.toNat_natCast,Int.toNat_natCast,mk_set hi hlt]
    refine evPos (by omega) (evPos (by omega) (evPos (by omega) (evPos (by omega) (evPos (by omega) (evPos (by omega) (evPos (by omega) (evPos (by omega) (evPos (by omega) (evBind0 rfl ?_)))))))))
    have hml2:=mk_len c.length (fun i' j'=>if i'=i/\j'=k then N d i k else fs d i k i' j')
    have hmr2:(Jc (mk c.length (fun i' j'=>if i'=i/\j'=k then N d i k else fs d i k i' j')) (k:Int)).length=c.length:=by rw[mk_get hlt,rowF_len]
    refine evPos (by omega) (evPos (by omega) ?_)
    rw[mk_set hlt hi]
    have:mk c.length (fun i' j'=>if i'=k/\j'=i then N d k i else if i'=i/\j'=k then N d i k else fs d i k i' j')=mk c.length (fs d i (k + 1)):=mk_congr (fun a ha b hb=>by
      unfold fs
      by_cases z:a=k/\b=i
      · rw[if_pos z,if_pos (by omega),z.1,z.2]
      · rw[if_neg z]
        by_cases z2:a=i/\b=k
        · rw[if_pos z2,if_pos (by omega),z2.1,z2.2]
        · rw[if_neg z2]
          by_cases y:a≠b/\(max a b < i ∨ max a b=i/\min a b < k)
          · rw[if_pos y,if_pos (by omega)]
          · rw[if_neg y,if_neg (by omega)])
    rw[this]
    exact ih (k + 1) (by omega) (by omega)
theorem sn_l0 (h:BookP c d):∀(e i:Nat),c.length - i=e->i<=c.length->Ev (fun n=>Fj.l0 n (i:Int) c d c (mk c.length (fs d i 0))) (c,netL c d):=by
  have hdl:=h.2.2.1
  intro e
  induction e with
  | zero=>
    intro i he hi
    obtain rfl:i=c.length:=by omega
    refine Ev.step (fun n=>by rw[Fj.l0]) ?_
    refine evNeg (by omega) (evEq (Ev.now _) ?_)
    have:mk c.length (fs d c.length 0)=netL c d:=mk_congr (fun a ha b hb=>by
      unfold fs
      by_cases z:a=b
      · subst z;rw[if_neg (by omega),db_diag h ha,N_diag h ha]
      · rw[if_pos (by omega)])
    rw[this]
  | succ e ih=>
    intro i he hi
    have hlt:i < c.length:=by omega
    refine Ev.step (fun n=>by rw[Fj.l0]) ?_
    refine evPos (by omega) ?_
    exact sn_l1 h hlt (ih (i + 1) (by omega) (by omega)) i 0 rfl (by omega)
theorem sNetted (c:List Int) (d:List (List Int)):Ev (fun n=>Fj.f n c d) (@ite _ (BookP c d) (Classical.propDecidable _) (c,netL c d) ([],[])):=by
  unfold Fj.f
  by_cases h:BookP c d
  · rw[if_pos h]
    refine Ev.bind ((bookOk c d).yes h) (evPos rfl (Ev.bind (scopy h) ?_))
    have e:mk c.length (fs d 0 0)=d:=(mk_congr (fun a ha b hb=>by unfold fs;rw[if_neg (by omega)])).trans (mk_of h).symm
    have:=sn_l0 h c.length 0 rfl (by omega)
    rw[e] at this
    exact this
  · rw[if_neg h];exact Ev.bind ((bookOk c d).no h) (evNeg (by decide) (Ev.now _))
end Go.Proofs.Ytfooakkhkehpiaa.Nt
namespace Go.Proofs.Ytfooakkhkehpiaa.Dk
open Go.RowKit Go.Proofs.Ytfooakkhkehpiaa.PU Go.Proofs.Ytfooakkhkehpiaa.Qh Go.Proofs.Ytfooakkhkehpiaa.Bk Go.Proofs.YtfooakkhkehpiaaW.PrintWords Go.Proofs.YtfooakkhkehpiaaW.PrintMore
set_option linter.unusedVariables false
set_option linter.unusedSimpArgs false
abbrev B:=S25
def OkB (n:Nat) (x:B):Prop:=BookP x.f0 x.f1/\x.f0.length=n
def DeskP (c:List Int) (d:List (List Int)) (ps:List B):Prop:=BookP c d/\ps.length<=8/\∀x ∈ ps,OkB c.length x
theorem bad (n:Nat):∀(l:List B) (i:Nat),∃q:Int,(q ≥ 0 ↔ ¬ ∀x ∈ l,OkB n x)/\Ev (fun k=>F2.bad k (n:Int) l i) q
  | [],i=>⟨-1,by simp,Ev.now _⟩
  | x :: r,i=>by
    obtain⟨b,hb,e⟩:=isBook x.f0 x.f1
    by_cases h1:BookP x.f0 x.f1
    · by_cases h2:x.f0.length=n
      · obtain⟨q,hq,eq⟩:=bad n r (i + 1)
        refine⟨q,hq.trans ⟨fun z w=>z (fun y hy=>w y (List.mem_cons_of_mem _ hy)),fun z w=>z (fun y hy=>?_)⟩,?_⟩
        · rcases List.mem_cons.mp hy with rfl|h
          · exact⟨h1,h2⟩
          · exact w y h
        · show Ev (fun k=>(Fg.f k x.f0 x.f1).bind fun t=>if t=true then(if (x.f0.length:Int)=(n:Int) then F2.bad k (n:Int) r (i + 1) else some (i:Int)) else some (i:Int)) q
          exact Ev.bind e (evPos (hb.2 h1) (evPos (by omega) eq))
      · refine⟨(i:Int),⟨fun _ w=>h2 (w x (List.mem_cons_self)).2,fun _=>by omega⟩,?_⟩
        show Ev (fun k=>(Fg.f k x.f0 x.f1).bind fun t=>if t=true then(if (x.f0.length:Int)=(n:Int) then F2.bad k (n:Int) r (i + 1) else some (i:Int)) else some (i:Int)) (i:Int)
        exact Ev.bind e (evPos (hb.2 h1) (evNeg (by omega) (Ev.now _)))
    · refine⟨(i:Int),⟨fun _ w=>h1 (w x (List.mem_cons_self)).1,fun _=>by omega⟩,?_⟩
      show Ev (fun k=>(Fg.f k x.f0 x.f1).bind fun t=>if t=true then(if (x.f0.length:Int)=(n:Int) then F2.bad k (n:Int) r (i + 1) else some (i:Int)) else some (i:Int)) (i:Int)
      exact Ev.bind e (evNeg (fun z=>h1 (hb.1 z)) (Ev.now _))
theorem isDesk (c:List Int) (d:List (List Int)) (ps:List B):EvB (fun k=>F2.f k c d ps) (DeskP c d ps):=by
  unfold F2.f
  obtain⟨b,hb,e⟩:=isBook c d
  refine EvB.bind e ?_
  by_cases h:BookP c d
  · refine EvB.pos (hb.2 h) ?_
    by_cases h8:(ps.length:Int)<=8
    · refine EvB.pos h8 ?_
      obtain⟨q,hq,eq⟩:=bad c.length ps 0
      refine EvB.bind eq ⟨_,?_,Ev.now _⟩
      constructor
      · intro z
        have z2:¬ q ≥ 0:=by simpa using z
        exact⟨h,by omega,Classical.byContradiction (fun w=>z2 (hq.2 w))⟩
      · intro z
        have:¬ q ≥ 0:=fun w=>hq.1 w z.2.2
        simpa using this
    · exact EvB.neg h8 (EvB.ff (fun z=>h8 (by have:=z.2.1;omega)))
  · exact EvB.neg (fun z=>h (hb.1 z)) (EvB.ff (fun z=>h z.1))
theorem rT (xs:List B) (i:Nat):Jd xs (i:Int)=xs.getD i z25:=rfl
theorem sd_l0 (c:List Int) (d:List (List Int)) (ps:List B) (hp:ps.length<=4611686018427387904):∀(e i:Nat),ps.length - i=e->i<=ps.length ->
    EvB (fun k=>Fz.l0 k (i:Int) c d ps) ((∀j:Nat,i<=j->j < ps.length->OkB c.length (Jd ps (j:Int)))/\BookP c d/\ps.length<=8):=by
  intro e
  induction e with
  | zero=>
    intro i he hi
    refine EvB.step (fun k=>by rw[Fz.l0]) ?_
    refine EvB.neg (by omega) ?_
    obtain⟨b,hb,eb⟩:=bookOk c d
    refine EvB.bind eb ?_
    by_cases h:BookP c d
    · refine EvB.pos (hb.2 h) ⟨_,?_,Ev.now _⟩
      constructor
      · intro z
        have:=of_decide_eq_true z
        exact⟨fun j h1 h2=>by omega,h,by omega⟩
      · intro z
        exact decide_eq_true (by have:=z.2.2;omega)
    · exact EvB.neg (fun z=>h (hb.1 z)) (EvB.ff (fun z=>h z.2.1))
  | succ e ih=>
    intro i he hi
    have hlt:i < ps.length:=by omega
    have hs:wrap64 ((i:Int) + 1)=((i + 1:Nat):Int):=wsucc hlt hp
    refine EvB.step (fun k=>by rw[Fz.l0]) ?_
    refine EvB.pos (by omega) (EvB.pos (by omega) ?_)
    obtain⟨b,hb,eb⟩:=bookOk (Jd ps (i:Int)).f0 (Jd ps (i:Int)).f1
    refine EvB.bind eb ?_
    by_cases h:BookP (Jd ps (i:Int)).f0 (Jd ps (i:Int)).f1
    · refine EvB.pos (hb.2 h) ?_
      by_cases h2:(Jd ps (i:Int)).f0.length=c.length
      · refine EvB.pos (by omega) ?_
        rw[hs]
        refine(ih (i + 1) (by omega) (by omega)).congr ⟨fun z=>⟨fun j h5 h6=>?_,z.2⟩,fun z=>⟨fun j h5 h6=>z.1 j (by omega) h6,z.2⟩⟩
        by_cases e':j=i
        · subst e';exact⟨h,h2⟩
        · exact z.1 j (by omega) h6
      · exact EvB.neg (by omega) (EvB.ff (fun z=>h2 (z.1 i (Nat.le_refl _) hlt).2))
    · exact EvB.neg (fun z=>h (hb.1 z)) (EvB.ff (fun z=>h (z.1 i (Nat.le_refl _) hlt).1))
theorem deskOk (c:List Int) (d:List (List Int)) (ps:List B) (hp:ps.length<=4611686018427387904):EvB (fun k=>Fz.f k c d ps) (DeskP c d ps):=by
  unfold Fz.f
  refine(sd_l0 c d ps hp ps.length 0 rfl (by omega)).congr ⟨fun z=>⟨z.2.1,z.2.2,fun x hx=>?_⟩,fun z=>⟨fun j _ h2=>z.2.2 _ ?_,z.1,z.2.1⟩⟩
  · obtain⟨i,hi,rfl⟩:=List.mem_iff_getElem.mp hx
    have:=z.1 i (by omega) hi
    rwa [rT,List.getD_eq_getElem?_getD,List.getElem?_eq_getElem hi] at this
  · rw[rT];exact getD_mem _ ps j h2
end Go.Proofs.Ytfooakkhkehpiaa.Dk
namespace Go.Proofs.Ytfooakkhkehpiaa.Dd
open Go.RowKit Go.Proofs.Ytfooakkhkehpiaa.PU Go.Proofs.Ytfooakkhkehpiaa.Qh Go.Proofs.Ytfooakkhkehpiaa.Bk Go.Proofs.Ytfooakkhkehpiaa.Mx Go.Proofs.Ytfooakkhkehpiaa.Nt Go.Proofs.Ytfooakkhkehpiaa.Dk Go.Proofs.Ytfooakkhkehpiaa.Sk Go.Proofs.YtfooakkhkehpiaaW.PrintWords Go.Proofs.YtfooakkhkehpiaaW.PrintMore
set_option linter.unusedVariables false
set_option linter.unusedSimpArgs false
section
variable {c c':List Int} {d d':List (List Int)}
theorem ext_book (h:BookP c d) (h':BookP c' d') (hl:c'.length=c.length) (e:∀i:Nat,i < c.length->rd c' (i:Int)=rd c (i:Int)/\∀j:Nat,j < c.length->db d' i j=db d i j):c'=c/\d'=d:=by
  constructor
  · exact ext_rd _ _ hl (fun i hi=>(e i (by omega)).1)
  · rw[mk_of h,mk_of h',hl]
    exact mk_congr (fun i hi j hj=>(e i hi).2 j hj)
theorem same (h:BookP c d) (h':BookP c' d') (hl:c'.length=c.length):EvB (fun k=>Fx.f k c' d' c d) (c'=c/\d'=d):=by
  have h4:=h.2.1
  have hd:=h.2.2.1
  have hd':=h'.2.2.1
  unfold Fx.f
  have l1:∀(i:Nat),i < c.length->∀ {R:Prop},EvB (fun k=>Fx.l0 k ((i + 1:Nat):Int) c' d' c d) R->∀(e j:Nat),c.length - j=e->j<=c.length->EvB (fun k=>Fx.l1 k (i:Int) (j:Int) c' d' c d) ((∀j':Nat,j<=j'->j' < c.length->db d' i j'=db d i j')/\R):=by
    intro i hi R hR e
    have hs:Gy (wrap64 ((i:Int) + 1)=((i + 1:Nat):Int)):=⟨wsucc hi (by omega)⟩
    have hri:=(h.2.2.2 i hi).2.2.1
    have hri':=(h'.2.2.2 i (by omega)).2.2.1
    induction e with
    | zero=>
      intro j he hj
      refine EvB.step (fun k=>by rw[Fx.l1]) ?_
      rw[hs.out]
      exact EvB.neg (by omega) (hR.congr ⟨fun z=>⟨fun j' h1 h2=>by omega,z⟩,fun z=>z.2⟩)
    | succ e ih=>
      intro j he hj
      have hlt:j < c.length:=by omega
      have hj1:Gy (wrap64 ((j:Int) + 1)=((j + 1:Nat):Int)):=⟨wsucc hlt (by omega)⟩
      refine EvB.step (fun k=>by rw[Fx.l1]) ?_
      rw[hj1.out]
      refine EvB.pos (by omega) (EvB.pos (by omega) (EvB.pos (by omega) (EvB.pos (by omega) (EvB.pos (by omega) (EvB.pos (by omega) (EvB.pos (by omega) ?_))))))
      by_cases he2:rd (Jc d' (i:Int)) (j:Int)=rd (Jc d (i:Int)) (j:Int)
      · refine EvB.pos he2 ((ih (j + 1) (by omega) (by omega)).congr ⟨fun z=>⟨fun j' h1 h2=>?_,z.2⟩,fun z=>⟨fun j' h1 h2=>z.1 j' (by omega) h2,z.2⟩⟩)
        by_cases e':j'=j
        · subst e';exact he2
        · exact z.1 j' (by omega) h2
      · exact EvB.neg he2 (EvB.ff (fun z=>he2 (z.1 j (Nat.le_refl _) hlt)))
  have l0:∀(e i:Nat),c.length - i=e->i<=c.length->EvB (fun k=>Fx.l0 k (i:Int) c' d' c d) (∀i':Nat,i<=i'->i' < c.length->rd c' (i':Int)=rd c (i':Int)/\∀j:Nat,j < c.length->db d' i' j=db d i' j):=by
    intro e
    induction e with
    | zero=>
      intro i he hi
      refine EvB.step (fun k=>by rw[Fx.l0]) ?_
      exact EvB.neg (by omega) (EvB.tt (fun i' h1 h2=>by omega))
    | succ e ih=>
      intro i he hi
      have hlt:i < c.length:=by omega
      refine EvB.step (fun k=>by rw[Fx.l0]) ?_
      refine EvB.pos (by omega) (EvB.pos (by omega) (EvB.pos (by omega) ?_))
      by_cases he2:rd c' (i:Int)=rd c (i:Int)
      · refine EvB.pos he2 ((l1 i hlt (ih (i + 1) (by omega) (by omega)) c.length 0 rfl (by omega)).congr ⟨fun z i' h1 h2=>?_,fun z=>⟨fun j' _ h2=>(z i (Nat.le_refl _) hlt).2 j' h2,fun i' h1 h2=>z i' (by omega) h2⟩⟩)
        by_cases e':i'=i
        · subst e';exact⟨he2,fun j hj=>z.1 j (by omega) hj⟩
        · exact z.2 i' (by omega) h2
      · exact EvB.neg he2 (EvB.ff (fun z=>he2 (z i (Nat.le_refl _) hlt).1))
  refine(l0 c.length 0 rfl (by omega)).congr ⟨fun z=>ext_book h h' hl (fun i hi=>z i (by omega) hi),fun z i' _ _=>?_⟩
  rw[z.1,z.2]
  exact⟨rfl,fun _ _=>rfl⟩
end
def made (c:List Int) (d:List (List Int)) (a0 a1 a2 a3:Int):Option (List Int × List (List Int)):=
  if a0=0/\(0<=a1/\a1 < (c.length:Int))/\a2=0/\0<=a3/\a3<=20 then some (c.set a1.toNat a3,d)
  else if a0=1/\(0<=a1/\a1 < (c.length:Int))/\(0<=a2/\a2 < (c.length:Int))/\a1≠a2/\0<=a3/\a3<=9 then some (c,d.set a1.toNat ((Jc d a1).set a2.toNat a3))
  else if a0=2/\a1=0/\a2=0/\a3=0 then some (c,netL c d)
  else if a0=3/\a1=0/\a2=0/\a3=0 then some (c,(without c d).1)
  else none
section
variable {c:List Int} {d:List (List Int)} {a0 a1 a2 a3:Int}
theorem cash_ok (h:BookP c d) (h1:0<=a1/\a1 < (c.length:Int)) (h2:0<=a3/\a3<=20):BookP (c.set a1.toNat a3) d:=by
  have hl:(c.set a1.toNat a3).length=c.length:=List.length_set
  refine⟨by rw[hl];exact h.1,by rw[hl];exact h.2.1,by rw[hl];exact h.2.2.1,fun i hi=>?_⟩
  rw[hl] at hi
  have hr:=h.2.2.2 i hi
  unfold RowP
  rw[hl,rd_set c a3 a1 (i:Int) h1.1 h1.2 (by omega)]
  refine⟨?_,?_,hr.2.2⟩
  · split
    · exact h2.1
    · exact hr.1
  · split
    · exact h2.2
    · exact hr.2.1
theorem debt_mk (h:BookP c d) (h1:0<=a1/\a1 < (c.length:Int)) (h2:0<=a2/\a2 < (c.length:Int)) (v:Int):d.set a1.toNat ((Jc d a1).set a2.toNat v)=mk c.length (fun i j=>if i=a1.toNat/\j=a2.toNat then v else db d i j):=by
  obtain⟨i,rfl⟩:=Int.eq_ofNat_of_zero_le h1.1
  obtain⟨j,rfl⟩:=Int.eq_ofNat_of_zero_le h2.1
  rw[Int.toNat_natCast,Int.toNat_natCast]
  have:=mk_set (n:=c.length) (i:=i) (j:=j) (f:=db d) (v:=v) (by omega) (by omega)
  rw[<- mk_of h] at this
  exact this
theorem mk_ok (h:BookP c d) (f:Nat->Nat->Int) (hf:∀i,i < c.length->f i i=0/\∀j,j < c.length->0<=f i j/\f i j<=9):BookP c (mk c.length f):=by
  refine⟨h.1,h.2.1,mk_len _ _,fun i hi=>?_⟩
  have hc:=h.2.2.2 i hi
  refine⟨hc.1,hc.2.1,?_,?_,fun j hj=>?_⟩
  · rw[mk_get hi,rowF_len]
  · rw[mk_get hi,rd_rowF hi];exact(hf i hi).1
  · rw[mk_get hi,rd_rowF hj];exact(hf i hi).2 j hj
theorem debt_ok (h:BookP c d) (h1:0<=a1/\a1 < (c.length:Int)) (h2:0<=a2/\a2 < (c.length:Int)) (hne:a1≠a2) (h3:0<=a3/\a3<=9):BookP c (d.set a1.toNat ((Jc d a1).set a2.toNat a3)):=by
  rw[debt_mk h h1 h2]
  refine mk_ok h _ (fun i hi=>⟨?_,fun j hj=>?_⟩)
  · rw[if_neg (fun z=>hne (by omega))]
    exact(h.2.2.2 i hi).2.2.2.1
  · have:=(h.2.2.2 i hi).2.2.2.2 j hj
    show 0<=(if i=a1.toNat/\j=a2.toNat then a3 else db d i j)/\(if i=a1.toNat/\j=a2.toNat then a3 else db d i j)<=9
    split
    · exact h3
    · exact this
theorem made_ok (h:BookP c d) {x:List Int × List (List Int)} (hm:made c d a0 a1 a2 a3=some x):BookP x.1 x.2/\x.1.length=c.length:=by
  unfold made at hm
  split at hm
  · next g=>obtain rfl:=Option.some.inj hm;exact⟨cash_ok h g.2.1 g.2.2.2,List.length_set⟩
  split at hm
  · next g=>obtain rfl:=Option.some.inj hm;exact⟨debt_ok h g.2.1 g.2.2.1 g.2.2.2.1 g.2.2.2.2,rfl⟩
  split at hm
  · obtain rfl:=Option.some.inj hm;exact⟨net_ok h,rfl⟩
  split at hm
  · obtain rfl:=Option.some.inj hm;exact⟨without_ok h,rfl⟩
  · cases hm
def Mp (c:List Int) (d:List (List Int)) (o:Option (List Int × List (List Int))) (g:Nat->Option (List Int × List (List Int) × Bool)):Prop:=
  ∃c' d' b,Ev g (c',d',b)/\(b=true ↔ ∃x,o=some x/\x≠(c,d))/\(b=true->o=some (c',d'))
theorem Mp.step {o:Option (List Int × List (List Int))} {g f:Nat->Option (List Int × List (List Int) × Bool)} (e:∀k,g (k + 1)=f k) (h:Mp c d o f):Mp c d o g:=by
  obtain⟨c',d',b,h1,h2⟩:=h
  exact⟨c',d',b,Ev.step e h1,h2⟩
theorem Mp.pos {o:Option (List Int × List (List Int))} {p:Prop} [Decidable p] {g f:Nat->Option (List Int × List (List Int) × Bool)} (hp:p) (h:Mp c d o g):Mp c d o (fun k=>if p then g k else f k):=by
  obtain⟨c',d',b,h1,h2⟩:=h
  exact⟨c',d',b,evPos hp h1,h2⟩
theorem Mp.neg {o:Option (List Int × List (List Int))} {p:Prop} [Decidable p] {g f:Nat->Option (List Int × List (List Int) × Bool)} (hp:¬ p) (h:Mp c d o f):Mp c d o (fun k=>if p then g k else f k):=by
  obtain⟨c',d',b,h1,h2⟩:=h
  exact⟨c',d',b,evNeg hp h1,h2⟩
theorem Mp.bind {β:Type} {o:Option (List Int × List (List Int))} {g:Nat->Option β} {f:Nat->β->Option (List Int × List (List Int) × Bool)} {a:β} (e:Ev g a) (h:Mp c d o (fun k=>f k a)):Mp c d o (fun k=>(g k).bind (f k)):=by
  obtain⟨c',d',b,h1,h2⟩:=h
  exact⟨c',d',b,Ev.bind e h1,h2⟩
theorem Mp.bind0 {β:Type} {o:Option (List Int × List (List Int))} {g:Option β} {f:Nat->β->Option (List Int × List (List Int) × Bool)} {a:β} (e:g=some a) (h:Mp c d o (fun k=>f k a)):Mp c d o (fun k=>g.bind (f k)):=by
  obtain⟨c',d',b,h1,h2⟩:=h
  exact⟨c',d',b,evBind0 e h1,h2⟩
theorem Mp.fin (h:BookP c d) {c':List Int} {d':List (List Int)} (h':BookP c' d') (hl:c'.length=c.length):Mp c d (some (c',d')) (fun k=>(Fx.f k c' d' c d).bind fun t=>(some (c',d', !t))):=by
  obtain⟨b,hb,he⟩:=same h h' hl
  refine⟨c',d', !b,Ev.bind he (Ev.now _),?_,fun _=>rfl⟩
  constructor
  · intro z
    refine⟨_,rfl,fun e=>?_⟩
    have:b=true:=hb.2 (by simpa using e)
    rw[this] at z;simp at z
  · rintro⟨x,hx,hne⟩
    obtain rfl:=Option.some.inj hx
    have:¬ b=true:=fun z=>hne (by have:=hb.1 z;rw[this.1,this.2])
    simpa using this
theorem Mp.none_:Mp c d none (fun _=>some ([],[],false)):=⟨[],[],false,Ev.now _,by simp,by simp⟩
theorem j1f (h:BookP c d) (h01:¬ (a0=0/\(0<=a1/\a1 < (c.length:Int))/\a2=0/\0<=a3/\a3<=20)) (h02:¬ (a0=1/\(0<=a1/\a1 < (c.length:Int))/\(0<=a2/\a2 < (c.length:Int))/\a1≠a2/\0<=a3/\a3<=9)) :
    Mp c d (made c d a0 a1 a2 a3) (fun k=>Fs.j1 k false c d a0 a1 a2 a3 c d):=by
  refine Mp.step (fun k=>by rw[Fs.j1]) ?_
  refine Mp.neg (by decide) ?_
  unfold made
  rw[if_neg h01,if_neg h02]
  by_cases g2:a0=2/\a1=0/\a2=0/\a3=0
  · rw[if_pos g2]
    refine Mp.pos (by simp[g2]) (Mp.bind (sNetted c d) ?_)
    rw[if_pos h]
    exact Mp.fin h (net_ok h) rfl
  rw[if_neg g2]
  refine Mp.neg (by simpa using g2) ?_
  by_cases g3:a0=3/\a1=0/\a2=0/\a3=0
  · rw[if_pos g3]
    refine Mp.pos (by simp[g3]) (Mp.bind (sWithout c d) ?_)
    rw[if_pos h]
    exact Mp.fin h (without_ok h) rfl
  rw[if_neg g3]
  exact Mp.neg (by simpa using g3) Mp.none_
theorem j0f (h:BookP c d) (h01:¬ (a0=0/\(0<=a1/\a1 < (c.length:Int))/\a2=0/\0<=a3/\a3<=20)) :
    Mp c d (made c d a0 a1 a2 a3) (fun k=>Fs.j0 k (c.length:Int) false c d a0 a1 a2 a3 c d):=by
  have h4:=h.2.1
  have h1l:=h.1
  have hdl:=h.2.2.1
  have hw:Gy (wrap64 ((c.length:Int) - 1)=(c.length:Int) - 1):=⟨w64 (by omega) (by omega)⟩
  refine Mp.step (fun k=>by rw[Fs.j0]) ?_
  rw[hw.out]
  refine Mp.neg (by decide) ?_
  by_cases k1:a0=1
  · refine Mp.pos k1 (Mp.bind0 (sIn _ _ _) ?_)
    by_cases k2:0<=a1/\a1<=(c.length:Int) - 1
    · refine Mp.pos (decide_eq_true k2) (Mp.bind0 (sIn _ _ _) ?_)
      by_cases k3:0<=a2/\a2<=(c.length:Int) - 1
      · refine Mp.pos (decide_eq_true k3) ?_
        by_cases k4:a1=a2
        · exact Mp.pos k4 (j1f h h01 (fun z=>z.2.2.2.1 k4))
        · refine Mp.neg k4 (Mp.bind0 (sIn _ _ _) ?_)
          by_cases k5:0<=a3/\a3<=9
          · rw[decide_eq_true k5]
            refine Mp.step (fun k=>by rw[Fs.j1]) ?_
            have hrl:=(Cr.row_len h (i:=a1) ⟨by omega,by omega⟩)
            refine Mp.pos rfl (Mp.pos (by omega) (Mp.pos (by omega) (Mp.pos (by omega) (Mp.pos (by omega) (Mp.bind0 rfl ?_)))))
            unfold made
            rw[if_neg h01,if_pos ⟨k1,⟨by omega,by omega⟩,⟨by omega,by omega⟩,k4,k5⟩]
            exact Mp.fin h (debt_ok h ⟨by omega,by omega⟩ ⟨by omega,by omega⟩ k4 k5) rfl
          · rw[decide_eq_false k5]
            exact j1f h h01 (fun z=>k5 z.2.2.2.2)
      · exact Mp.neg (by simpa using k3) (j1f h h01 (fun z=>k3 ⟨by omega,by omega⟩))
    · exact Mp.neg (by simpa using k2) (j1f h h01 (fun z=>k2 ⟨by omega,by omega⟩))
  · exact Mp.neg k1 (j1f h h01 (fun z=>k1 z.1))
theorem sMade (h:BookP c d):Mp c d (made c d a0 a1 a2 a3) (fun k=>Fs.f k c d a0 a1 a2 a3):=by
  have h4:=h.2.1
  have h1l:=h.1
  have hw:Gy (wrap64 ((c.length:Int) - 1)=(c.length:Int) - 1):=⟨w64 (by omega) (by omega)⟩
  unfold Fs.f
  refine Mp.bind (scopy h) ?_
  by_cases k1:a0=0
  · refine Mp.pos k1 ?_
    rw[hw.out]
    refine Mp.bind0 (sIn _ _ _) ?_
    by_cases k2:0<=a1/\a1<=(c.length:Int) - 1
    · refine Mp.pos (decide_eq_true k2) ?_
      by_cases k3:a2=0
      · refine Mp.pos k3 (Mp.bind0 (sIn _ _ _) ?_)
        by_cases k4:0<=a3/\a3<=20
        · rw[decide_eq_true k4]
          refine Mp.step (fun k=>by rw[Fs.j0]) ?_
          refine Mp.pos rfl (Mp.pos (by omega) (Mp.pos (by show a1 < (c.length:Int);omega) (Mp.bind0 rfl ?_)))
          unfold made
          rw[if_pos ⟨k1,⟨by omega,by omega⟩,k3,k4⟩]
          exact Mp.fin h (cash_ok h ⟨by omega,by omega⟩ k4) List.length_set
        · rw[decide_eq_false k4]
          exact j0f h (fun z=>k4 z.2.2.2)
      · exact Mp.neg k3 (j0f h (fun z=>k3 z.2.2.1))
    · exact Mp.neg (by simpa using k2) (j0f h (fun z=>k2 ⟨by omega,by omega⟩))
  · exact Mp.neg k1 (j0f h (fun z=>k1 z.1))
end
section
variable {c:List Int} {d:List (List Int)} {ps:List B} {a0 a1 a2 a3:Int}
theorem sDcopy (h:DeskP c d ps):Ev (fun k=>Fn.f k c d ps) (c,d,ps):=by
  unfold Fn.f
  refine Ev.bind (scopy h.1) ?_
  have h8:=h.2.1
  have key:∀(e i:Nat),ps.length - i=e->i<=ps.length->Ev (fun k=>Fn.l0 k (i:Int) c d ps c d (ps.take i)) (c,d,ps):=by
    intro e
    induction e with
    | zero=>
      intro i he hi
      obtain rfl:i=ps.length:=by omega
      refine Ev.step (fun k=>by rw[Fn.l0]) ?_
      rw[List.take_length]
      exact evNeg (by omega) (Ev.now _)
    | succ e ih=>
      intro i he hi
      have hlt:i < ps.length:=by omega
      have hs:Gy (wrap64 ((i:Int) + 1)=((i + 1:Nat):Int)):=⟨wsucc hlt (by omega)⟩
      have htl:(ps.take i).length=i:=by rw[List.length_take];omega
      have hmem:Jd ps (i:Int) ∈ ps:=by rw[rT];exact getD_mem _ ps i hlt
      have e2:ps.take i ++ [Jd ps (i:Int)]=ps.take (i + 1):=by
        rw[rT,List.getD_eq_getElem?_getD,List.getElem?_eq_getElem hlt,List.take_succ_eq_append_getElem hlt];rfl
      refine Ev.step (fun k=>by rw[Fn.l0]) ?_
      rw[hs.out]
      refine evPos (by omega) (evPos (by omega) (Ev.bind (scopy (h.2.2 _ hmem).1) (evPos (by omega) ?_)))
      show Ev (fun k=>Fn.l0 k ((i + 1:Nat):Int) c d ps c d (ps.take i ++ [Jd ps (i:Int)])) _
      rw[e2]
      exact ih (i + 1) (by omega) (by omega)
  exact key ps.length 0 rfl (by omega)
def push (c:List Int) (d:List (List Int)) (ps:List B):List B:=if ps.length + 1 > 8 then(ps ++ [(⟨c,d⟩:B)]).drop 1 else ps ++ [(⟨c,d⟩:B)]
open Classical in
noncomputable def dd (c:List Int) (d:List (List Int)) (ps:List B) (a0 a1 a2 a3:Int):List Int × List (List Int) × List B × Bool:=
  if DeskP c d ps then
    (if (a0=4/\a1=0/\a2=0/\a3=0)/\0 < ps.length then((Jd ps ((ps.length - 1:Nat):Int)).f0,(Jd ps ((ps.length - 1:Nat):Int)).f1,ps.take (ps.length - 1),true)
    else if made c d a0 a1 a2 a3=none ∨ made c d a0 a1 a2 a3=some (c,d) then(c,d,ps,false)
    else(((made c d a0 a1 a2 a3).getD (c,d)).1,((made c d a0 a1 a2 a3).getD (c,d)).2,push c d ps,true))
  else([],[],[],false)
theorem sDo (hp:ps.length<=4611686018427387904):Ev (fun k=>Gg.f k c d ps a0 a1 a2 a3) (dd c d ps a0 a1 a2 a3):=by
  unfold Gg.f dd
  have eA:((a0 == 4 && (a1 == 0 && (a2 == 0 && (a3 == 0))))=true)=(a0=4/\a1=0/\a2=0/\a3=0):=by simp
  by_cases h:DeskP c d ps
  · rw[if_pos h]
    have h8:=h.2.1
    by_cases hb:(a0=4/\a1=0/\a2=0/\a3=0)/\0 < ps.length
    · rw[if_pos hb]
      refine evPos (by rw[eA];exact hb) (Ev.bind ((deskOk c d ps hp).yes h) (evPos rfl (Ev.bind (sDcopy h) ?_)))
      exact evPos ⟨by show 0 < ps.length;exact hb.2,by show ps.length < 2932031007402;omega⟩ (Ev.now _)
    · rw[if_neg hb]
      refine evNeg (by rw[eA];exact hb) ?_
      unfold Ge.f
      refine Ev.bind ((deskOk c d ps hp).yes h) (evPos rfl (Ev.bind (sDcopy h) ?_))
      have key:Ev (fun k=>Ge.j0 k false c d ps a0 a1 a2 a3 c d ps) (if made c d a0 a1 a2 a3=none ∨ made c d a0 a1 a2 a3=some (c,d) then(c,d,ps,false) else(((made c d a0 a1 a2 a3).getD (c,d)).1,((made c d a0 a1 a2 a3).getD (c,d)).2,push c d ps,true)):=by
        obtain⟨c',d',b,h1,h2,h3⟩:=sMade (a0:=a0) (a1:=a1) (a2:=a2) (a3:=a3) h.1
        refine Ev.step (fun k=>by rw[Ge.j0]) ?_
        refine evNeg (by decide) (Ev.bind h1 ?_)
        by_cases hbt:b=true
        · have hm:=h3 hbt
          obtain⟨x,hx,hne⟩:=h2.1 hbt
          rw[hm] at hx
          obtain rfl:=Option.some.inj hx
          have hR:(if made c d a0 a1 a2 a3=none ∨ made c d a0 a1 a2 a3=some (c,d) then(c,d,ps,false) else(((made c d a0 a1 a2 a3).getD (c,d)).1,((made c d a0 a1 a2 a3).getD (c,d)).2,push c d ps,true))=(c',d',push c d ps,true):=by
            rw[hm]
            exact if_neg (fun z=>z.elim (fun z=>by cases z) (fun z=>hne (Option.some.inj z)))
          rw[hR]
          refine evPos hbt (evPos (by omega) (evBind0 rfl ?_))
          have hlen:(ps ++ [(⟨c,d⟩:B)]).length=ps.length + 1:=by simp
          unfold push
          by_cases h9:ps.length + 1 > 8
          · rw[if_pos h9]
            exact evPos (by omega) (evPos (by omega) (Ev.now _))
          · rw[if_neg h9]
            exact evNeg (by omega) (Ev.now _)
        · have hR:(if made c d a0 a1 a2 a3=none ∨ made c d a0 a1 a2 a3=some (c,d) then(c,d,ps,false) else(((made c d a0 a1 a2 a3).getD (c,d)).1,((made c d a0 a1 a2 a3).getD (c,d)).2,push c d ps,true))=(c,d,ps,false):=by
            refine if_pos ?_
            cases hm:made c d a0 a1 a2 a3 with
            | none=>exact .inl rfl
            | some x=>
              right
              apply Classical.byContradiction
              intro hne
              exact hbt (h2.2 ⟨x,hm,fun e=>hne (by rw[e])⟩)
          rw[hR]
          exact evNeg hbt (Ev.now _)
      by_cases hA:a0=4/\a1=0/\a2=0/\a3=0
      · have hz:decide ((ps.length:Int) > 0)=false:=decide_eq_false (fun z=>hb ⟨hA,by omega⟩)
        refine evPos (by rw[eA];exact hA) ?_
        rw[hz]
        exact key
      · exact evNeg (by rw[eA];exact hA) key
  · rw[if_neg h]
    by_cases hb:(a0=4/\a1=0/\a2=0/\a3=0)/\0 < ps.length
    · exact evPos (by rw[eA];exact hb) (Ev.bind ((deskOk c d ps hp).no h) (evNeg (by decide) (Ev.now _)))
    · refine evNeg (by rw[eA];exact hb) ?_
      unfold Ge.f
      exact Ev.bind ((deskOk c d ps hp).no h) (evNeg (by decide) (Ev.now _))
theorem push_len (h8:ps.length<=8):(push c d ps).length<=8/\(push c d ps).length<=ps.length + 1:=by
  unfold push
  split
  · simp;omega
  · simp;omega
theorem push_mem {x:B} (h:x ∈ push c d ps):x ∈ ps ∨ x=⟨c,d⟩:=by
  unfold push at h
  split at h
  · have:=List.mem_of_mem_drop h
    simpa using this
  · simpa using h
theorem dd_ok (h:DeskP c d ps):DeskP (dd c d ps a0 a1 a2 a3).1 (dd c d ps a0 a1 a2 a3).2.1 (dd c d ps a0 a1 a2 a3).2.2.1/\(dd c d ps a0 a1 a2 a3).1.length=c.length/\(dd c d ps a0 a1 a2 a3).2.2.1.length<=ps.length + 1:=by
  have h8:=h.2.1
  unfold dd
  rw[if_pos h]
  split
  · next hb=>
    have hmem:Jd ps ((ps.length - 1:Nat):Int) ∈ ps:=by rw[rT];exact getD_mem _ ps _ (by omega)
    have hk:=h.2.2 _ hmem
    refine⟨⟨hk.1,by simp;omega,fun x hx=>?_⟩,hk.2,by simp;omega⟩
    have:=h.2.2 x (List.mem_of_mem_take hx)
    exact⟨this.1,by rw[this.2,hk.2]⟩
  split
  · exact⟨h,rfl,by show ps.length<=_;omega⟩
  · next hm=>
    have hl:=push_len (c:=c) (d:=d) h8
    cases hq:made c d a0 a1 a2 a3 with
    | none=>exact absurd (.inl hq) hm
    | some x=>
      have hx:=made_ok h.1 hq
      refine⟨⟨hx.1,hl.1,fun y hy=>?_⟩,hx.2,hl.2⟩
      rcases push_mem hy with hy|rfl
      · have:=h.2.2 y hy
        exact⟨this.1,by rw[this.2];exact hx.2.symm⟩
      · exact⟨h.1,hx.2.symm⟩
end
end Go.Proofs.Ytfooakkhkehpiaa.Dd
namespace Go.Proofs.Ytfooakkhkehpiaa.Ow
open Go.RowKit Go.Proofs.Ytfooakkhkehpiaa.PU Go.Proofs.Ytfooakkhkehpiaa.Qh Go.Proofs.Ytfooakkhkehpiaa.Bk Go.Proofs.YtfooakkhkehpiaaW.PrintWords Go.Proofs.YtfooakkhkehpiaaW.PrintMore
set_option linter.unusedVariables false
set_option linter.unusedSimpArgs false
def sm (xs:List Int):Nat->Int
  | 0=>0
  | i + 1=>sm xs i + rd xs (i:Int)
def ow (c:List Int) (d:List (List Int)) (i:Nat):Int:=sm (Jc d (i:Int)) c.length
def owes (c:List Int) (d:List (List Int)):List Int:=(List.range c.length).map (ow c d)
theorem owes_len (c:List Int) (d:List (List Int)):(owes c d).length=c.length:=by simp[owes]
theorem rd_owes {c:List Int} {d:List (List Int)} {i:Nat} (hi:i < c.length):rd (owes c d) (i:Int)=ow c d i:=by
  rw[rd_get _ _ (by rw[owes_len];exact hi)];simp[owes]
theorem sm_bd {c:List Int} {d:List (List Int)} (h:BookP c d) {i:Nat} (hi:i < c.length):∀j:Nat,j<=c.length->0<=sm (Jc d (i:Int)) j/\sm (Jc d (i:Int)) j<=9 * j
  | 0,_=>by simp[sm]
  | j + 1,hj=>by
    have:=sm_bd h hi j (by omega)
    have:=(h.2.2.2 i hi).2.2.2.2 j (by omega)
    simp only[sm];omega
theorem ow_bd {c:List Int} {d:List (List Int)} (h:BookP c d) {i:Nat} (hi:i < c.length):0<=ow c d i/\ow c d i<=36:=by
  have:=sm_bd h hi c.length (Nat.le_refl _);have:=h.2.1;unfold ow;omega
def mid (c:List Int) (d:List (List Int)) (i:Nat) (s:Int):List Int:=(List.range c.length).map (fun k=>if k < i then ow c d k else if k=i then s else 0)
theorem mid_len (c:List Int) (d:List (List Int)) (i:Nat) (s:Int):(mid c d i s).length=c.length:=by simp[mid]
theorem mid_get {c:List Int} {d:List (List Int)} {i:Nat} {s:Int} (hi:i < c.length):rd (mid c d i s) (i:Int)=s:=by
  rw[rd_get _ _ (by rw[mid_len];exact hi)];simp[mid]
theorem mid_set {c:List Int} {d:List (List Int)} {i:Nat} {s v:Int} (hi:i < c.length):(mid c d i s).set ((i:Int)).toNat v=mid c d i v:=by
  apply List.ext_getElem (by simp[mid])
  intro k h1 h2
  simp only[mid,List.getElem_set,List.getElem_map,List.getElem_range,Int.toNat_natCast]
  by_cases e:i=k
  · subst e;simp
  · rw[if_neg e]
    by_cases e2:k < i
    · simp[e2]
    · simp[e2,Ne.symm e,show ¬ k=i from fun h=>e h.symm]
theorem mid_next {c:List Int} {d:List (List Int)} (i:Nat):mid c d i (ow c d i)=mid c d (i + 1) 0:=by
  unfold mid
  apply List.map_congr_left
  intro k _
  by_cases e:k < i
  · simp[e,show k < i + 1 by omega]
  · by_cases e2:k=i
    · subst e2;simp
    · simp[e,e2,show ¬ k < i + 1 by omega]
theorem mid_start (c:List Int) (d:List (List Int)):List.replicate c.length (0:Int)=mid c d 0 0:=by
  apply List.ext_getElem (by simp[mid])
  intro k h1 h2
  simp[mid]
theorem mid_end (c:List Int) (d:List (List Int)):mid c d c.length 0=owes c d:=by
  unfold mid owes
  apply List.map_congr_left
  intro k hk
  simp[List.mem_range.mp hk]
theorem io_l1 {c:List Int} {d:List (List Int)} (h:BookP c d) {i:Nat} (hi:i < c.length) {r:List Int} (hR:Ev (fun k=>F8.l0 k (mid c d (i + 1) 0) d (d.length:Int) ((i + 1:Nat):Int)) r) :
    ∀(e j:Nat),c.length - j=e->j<=c.length->Ev (fun k=>F8.l1 k (mid c d i (sm (Jc d (i:Int)) j)) (i:Int) d (d.length:Int) (i:Int) (Jc d (i:Int)) ((Jc d (i:Int)).length:Int) (j:Int)) r:=by
  have h4:=h.2.1
  have hdl:=h.2.2.1
  have hrl:=(h.2.2.2 i hi).2.2.1
  have hs:wrap64 ((i:Int) + 1)=((i + 1:Nat):Int):=wsucc hi (by omega)
  intro e
  induction e with
  | zero=>
    intro j he hj
    obtain rfl:j=c.length:=by omega
    refine Ev.step (fun k=>by rw[F8.l1]) ?_
    rw[hs]
    refine evNeg (by omega) ?_
    have:mid c d i (sm (Jc d (i:Int)) c.length)=mid c d (i + 1) 0:=mid_next i
    rw[this]
    exact hR
  | succ e ih=>
    intro j he hj
    have hlt:j < c.length:=by omega
    have hj1:wrap64 ((j:Int) + 1)=((j + 1:Nat):Int):=wsucc hlt (by omega)
    have hb:=sm_bd h hi j (by omega)
    have hx:=(h.2.2.2 i hi).2.2.2.2 j hlt
    have hw:wrap64 (sm (Jc d (i:Int)) j + rd (Jc d (i:Int)) (j:Int))=sm (Jc d (i:Int)) (j + 1):=by rw[w64 (by omega) (by omega)];rfl
    have hml:=mid_len c d i (sm (Jc d (i:Int)) j)
    refine Ev.step (fun k=>by rw[F8.l1]) ?_
    refine evPos (by omega) (evPos (by omega) (evPos (by omega) (evPos (by omega) (evPos (by omega) ?_))))
    rw[mid_get hi,hw,hj1,mid_set hi]
    exact ih (j + 1) (by omega) (by omega)
theorem io_l0 {c:List Int} {d:List (List Int)} (h:BookP c d):∀(e i:Nat),c.length - i=e->i<=c.length->Ev (fun k=>F8.l0 k (mid c d i 0) d (d.length:Int) (i:Int)) (owes c d):=by
  have hdl:=h.2.2.1
  intro e
  induction e with
  | zero=>
    intro i he hi
    obtain rfl:i=c.length:=by omega
    refine Ev.step (fun k=>by rw[F8.l0]) ?_
    exact evNeg (by omega) (evEq (Ev.now _) (mid_end c d))
  | succ e ih=>
    intro i he hi
    refine Ev.step (fun k=>by rw[F8.l0]) ?_
    refine evPos (by omega) (evPos (by omega) (evPos (by omega) ?_))
    exact io_l1 h (by omega) (ih (i + 1) (by omega) (by omega)) _ 0 rfl (by omega)
theorem iowes {c:List Int} {d:List (List Int)} (h:BookP c d):Ev (fun k=>F8.f k c d) (owes c d):=by
  have h4:=h.2.1
  unfold F8.f
  refine evPos (by omega) (evPos (by omega) ?_)
  rw[Int.toNat_natCast,mid_start c d]
  exact io_l0 h _ 0 rfl (by omega)
end Go.Proofs.Ytfooakkhkehpiaa.Ow
namespace Go.Proofs.Ytfooakkhkehpiaa.Ne
open Go.RowKit Go.Proofs.Ytfooakkhkehpiaa.PU Go.Proofs.Ytfooakkhkehpiaa.Qh Go.Proofs.Ytfooakkhkehpiaa.Bk Go.Proofs.Ytfooakkhkehpiaa.Mx Go.Proofs.Ytfooakkhkehpiaa.Ow Go.Proofs.YtfooakkhkehpiaaW.PrintWords Go.Proofs.YtfooakkhkehpiaaW.PrintMore
set_option linter.unusedVariables false
set_option linter.unusedSimpArgs false
variable {c:List Int} {d:List (List Int)}
theorem db_bd (h:BookP c d) {i j:Nat} (hi:i < c.length) (hj:j < c.length):0<=db d i j/\db d i j<=9:=(h.2.2.2 i hi).2.2.2.2 j hj
def cs (d:List (List Int)):Nat->Nat->Int
  | 0,_=>0
  | i + 1,j=>cs d i j + db d i j
theorem cs_bd (h:BookP c d) {j:Nat} (hj:j < c.length):∀i:Nat,i<=c.length->0<=cs d i j/\cs d i j<=9 * i
  | 0,_=>by simp[cs]
  | i + 1,hi=>by
    have:=cs_bd h hj i (by omega)
    have:=db_bd h (show i < c.length by omega) hj
    simp only[cs];omega
def fo (d:List (List Int)) (i k:Nat) (j:Nat):Int:=if j < k then cs d (i + 1) j else cs d i j
theorem od_l1 (h:BookP c d) {i:Nat} (hi:i < c.length) {r:List Int} (hR:Ev (fun n=>F9.l0 n (rowF c.length (fo d (i + 1) 0)) d (d.length:Int) ((i + 1:Nat):Int)) r):∀(e k:Nat),c.length - k=e->k<=c.length ->
    Ev (fun n=>F9.l1 n (rowF c.length (fo d i k)) d (d.length:Int) (i:Int) (Jc d (i:Int)) ((Jc d (i:Int)).length:Int) (k:Int)) r:=by
  have h4:=h.2.1
  have hdl:=h.2.2.1
  have hrl:=(h.2.2.2 i hi).2.2.1
  have hs:Gy (wrap64 ((i:Int) + 1)=((i + 1:Nat):Int)):=⟨wsucc hi (by omega)⟩
  intro e
  induction e with
  | zero=>
    intro k he hk
    obtain rfl:k=c.length:=by omega
    refine Ev.step (fun n=>by rw[F9.l1]) ?_
    rw[hs.out]
    refine evNeg (by omega) ?_
    have:rowF c.length (fo d i c.length)=rowF c.length (fo d (i + 1) 0):=rowF_congr (fun j hj=>by unfold fo;rw[if_pos hj,if_neg (by omega)])
    rw[this]
    exact hR
  | succ e ih=>
    intro k he hk
    have hlt:k < c.length:=by omega
    have hk1:Gy (wrap64 ((k:Int) + 1)=((k + 1:Nat):Int)):=⟨wsucc hlt (by omega)⟩
    have b1:=cs_bd h hlt i (by omega)
    have b2:=db_bd h hi hlt
    have b3:rd (Jc d (i:Int)) (k:Int)=db d i k:=rfl
    have hfl:=rowF_len c.length (fo d i k)
    have hw:wrap64 (rd (rowF c.length (fo d i k)) (k:Int) + rd (Jc d (i:Int)) (k:Int))=cs d (i + 1) k:=by
      rw[rd_rowF hlt]
      have:fo d i k k=cs d i k:=by unfold fo;rw[if_neg (by omega)]
      rw[this,b3,w64 (by omega) (by omega)]
      rfl
    refine Ev.step (fun n=>by rw[F9.l1]) ?_
    rw[hk1.out,hw,Int.toNat_natCast,rowF_set hlt]
    refine evPos (by omega) (evPos (by omega) (evPos (by omega) (evPos (by omega) ?_)))
    have:rowF c.length (fun j=>if j=k then cs d (i + 1) k else fo d i k j)=rowF c.length (fo d i (k + 1)):=rowF_congr (fun j hj=>by
      unfold fo
      by_cases z:j=k
      · subst z;rw[if_pos rfl,if_pos (by omega)]
      · rw[if_neg z]
        by_cases y:j < k
        · rw[if_pos y,if_pos (by omega)]
        · rw[if_neg y,if_neg (by omega)])
    rw[this]
    exact ih (k + 1) (by omega) (by omega)
theorem od_l0 (h:BookP c d):∀(e i:Nat),c.length - i=e->i<=c.length->Ev (fun n=>F9.l0 n (rowF c.length (fo d i 0)) d (d.length:Int) (i:Int)) (rowF c.length (cs d c.length)):=by
  have hdl:=h.2.2.1
  intro e
  induction e with
  | zero=>
    intro i he hi
    obtain rfl:i=c.length:=by omega
    refine Ev.step (fun n=>by rw[F9.l0]) ?_
    exact evNeg (by omega) (evEq (Ev.now _) (rowF_congr (fun j _=>by unfold fo;rw[if_neg (by omega)])))
  | succ e ih=>
    intro i he hi
    refine Ev.step (fun n=>by rw[F9.l0]) ?_
    refine evPos (by omega) (evPos (by omega) (evPos (by omega) ?_))
    exact od_l1 h (by omega) (ih (i + 1) (by omega) (by omega)) _ 0 rfl (by omega)
theorem owed (h:BookP c d):Ev (fun n=>F9.f n c d) (rowF c.length (cs d c.length)):=by
  have h4:=h.2.1
  unfold F9.f
  refine evPos (by omega) (evPos (by omega) ?_)
  have:List.replicate c.length (0:Int)=rowF c.length (fo d 0 0):=by
    apply List.ext_getElem (by simp[rowF])
    intro k h1 h2
    simp[rowF,fo,cs]
  rw[Int.toNat_natCast,this]
  exact od_l0 h _ 0 rfl (by omega)
def nt (c:List Int) (d:List (List Int)) (j:Nat):Int:=cs d c.length j - ow c d j
def fn (c:List Int) (d:List (List Int)) (k j:Nat):Int:=if j < k then nt c d j else cs d c.length j
theorem ne_l (h:BookP c d):∀(e k:Nat),c.length - k=e->k<=c.length->Ev (fun n=>Gq.l0 n (rowF c.length (fn c d k)) (owes c d) ((owes c d).length:Int) (k:Int)) (rowF c.length (nt c d)):=by
  have h4:=h.2.1
  have hol:=owes_len c d
  intro e
  induction e with
  | zero=>
    intro k he hk
    obtain rfl:k=c.length:=by omega
    refine Ev.step (fun n=>by rw[Gq.l0]) ?_
    exact evNeg (by omega) (evEq (Ev.now _) (rowF_congr (fun j hj=>by unfold fn;rw[if_pos hj])))
  | succ e ih=>
    intro k he hk
    have hlt:k < c.length:=by omega
    have hk1:Gy (wrap64 ((k:Int) + 1)=((k + 1:Nat):Int)):=⟨wsucc hlt (by omega)⟩
    have b1:=cs_bd h hlt c.length (by omega)
    have b2:=ow_bd h hlt
    have hfl:=rowF_len c.length (fn c d k)
    have hw:wrap64 (rd (rowF c.length (fn c d k)) (k:Int) - rd (owes c d) (k:Int))=nt c d k:=by
      rw[rd_rowF hlt,rd_owes hlt]
      have:fn c d k k=cs d c.length k:=by unfold fn;rw[if_neg (by omega)]
      rw[this,w64 (by omega) (by omega)]
      rfl
    refine Ev.step (fun n=>by rw[Gq.l0]) ?_
    rw[hk1.out,hw,Int.toNat_natCast,rowF_set hlt]
    refine evPos (by omega) (evPos (by omega) (evPos (by omega) (evPos (by omega) ?_)))
    have:rowF c.length (fun j=>if j=k then nt c d k else fn c d k j)=rowF c.length (fn c d (k + 1)):=rowF_congr (fun j hj=>by
      unfold fn
      by_cases z:j=k
      · subst z;rw[if_pos rfl,if_pos (by omega)]
      · rw[if_neg z]
        by_cases y:j < k
        · rw[if_pos y,if_pos (by omega)]
        · rw[if_neg y,if_neg (by omega)])
    rw[this]
    exact ih (k + 1) (by omega) (by omega)
theorem nets (h:BookP c d):Ev (fun n=>Gj.f n c d) (rowF c.length (nt c d)):=by
  unfold Gj.f Gq.f
  refine Ev.bind ((isBook c d).yes h) (evPos rfl (Ev.bind (Ev.bind (owed h) (Ev.bind (iowes h) ?_)) (Ev.now _)))
  have:rowF c.length (cs d c.length)=rowF c.length (fn c d 0):=rowF_congr (fun j _=>by unfold fn;rw[if_neg (by omega)])
  rw[this]
  exact ne_l h _ 0 rfl (by omega)
end Go.Proofs.Ytfooakkhkehpiaa.Ne
namespace Go.Proofs.Ytfooakkhkehpiaa.Sn
open Go.RowKit Go.Proofs.Ytfooakkhkehpiaa.PU Go.Proofs.Ytfooakkhkehpiaa.Qh Go.Proofs.Ytfooakkhkehpiaa.Bk Go.Proofs.Ytfooakkhkehpiaa.Mx Go.Proofs.Ytfooakkhkehpiaa.Ow Go.Proofs.Ytfooakkhkehpiaa.Cr Go.Proofs.Ytfooakkhkehpiaa.Sk Go.Proofs.YtfooakkhkehpiaaW.PrintWords Go.Proofs.YtfooakkhkehpiaaW.PrintMore
set_option linter.unusedVariables false
set_option linter.unusedSimpArgs false
open Go.Proofs.Ytfooakkhkehpiaa.Ne (nt cs)
variable {c:List Int} {d d':List (List Int)} {q:List Int}
theorem cs_s1 (d:List (List Int)) (j:Nat):∀m:Nat,cs d m j=s1 (fun i=>db d i j) m
  | 0=>rfl
  | m + 1=>by simp only[cs,s1];rw[cs_s1 d j m]
theorem sm_s1 (xs:List Int):∀m:Nat,sm xs m=s1 (fun i=>rd xs (i:Int)) m
  | 0=>rfl
  | m + 1=>by simp only[sm,s1];rw[sm_s1 xs m]
theorem ow_s1 (c:List Int) (d:List (List Int)) (j:Nat):ow c d j=s1 (db d j) c.length:=sm_s1 _ _
theorem s1_congr {f g:Nat->Int}:∀m:Nat,(∀i,i < m->f i=g i)->s1 f m=s1 g m
  | 0,_=>rfl
  | m + 1,h=>by simp only[s1];rw[s1_congr m (fun i hi=>h i (by omega)),h m (by omega)]
theorem s1_one {f g:Nat->Int} {a:Nat} {v:Int}:∀m:Nat,(∀i,i < m->g i=f i - (if i=a then v else 0))->s1 g m=s1 f m - (if a < m then v else 0)
  | 0,_=>by simp[s1]
  | m + 1,h=>by
    have h1:=s1_one m (fun i hi=>h i (by omega))
    have h2:=h m (by omega)
    simp only[s1]
    rw[h1,h2]
    by_cases e:m=a
    · subst e;rw[if_pos rfl,if_neg (by omega),if_pos (by omega)];omega
    · rw[if_neg e]
      by_cases y:a < m
      · rw[if_pos y,if_pos (by omega)];omega
      · rw[if_neg y,if_neg (by omega)];omega
def pv (q:List Int) (k:Nat):Nat:=if k=0 then q.length - 1 else k - 1
theorem pv_nx {k:Nat} (hq:1 < q.length) (hk:k < q.length):pv q k < q.length/\nx q (pv q k)=k/\∀k',k' < q.length->nx q k'=k->k'=pv q k:=by
  unfold pv nx
  by_cases h:k=0
  · rw[if_pos h]
    refine⟨by omega,?_,fun k' h1 h2=>?_⟩
    · rw[show q.length - 1 + 1=q.length by omega,Nat.mod_self];omega
    · by_cases e:k' + 1=q.length
      · omega
      · rw[Nat.mod_eq_of_lt (by omega)] at h2;omega
  · rw[if_neg h]
    refine⟨by omega,?_,fun k' h1 h2=>?_⟩
    · rw[show k - 1 + 1=k by omega,Nat.mod_eq_of_lt hk]
    · by_cases e:k' + 1=q.length
      · rw[e,Nat.mod_self] at h2;omega
      · rw[Nat.mod_eq_of_lt (by omega)] at h2;omega
theorem nt_struck (hq:CirP c.length d q) {j:Nat} (hj:j < c.length):nt c (struck c d q) j=nt c d j:=by
  have hq0:=hq.1.1
  unfold nt
  rw[cs_s1,cs_s1,ow_s1,ow_s1]
  by_cases hm:∃k,k < q.length/\rd q (k:Int)=(j:Int)
  · obtain⟨k,hk,hkj⟩:=hm
    obtain⟨p1,p2,p3⟩:=pv_nx hq.2.1 hk
    have a1:=cir_at hq p1
    have a2:=cir_at hq (nx_lt hq0 k)
    obtain⟨a,ha⟩:=Int.eq_ofNat_of_zero_le a1.1
    obtain⟨b,hb⟩:=Int.eq_ofNat_of_zero_le a2.1
    have e1:s1 (fun i=>db (struck c d q) i j) c.length=s1 (fun i=>db d i j) c.length - (if a < c.length then lowest d q else 0):=s1_one _ (fun i hi=>by
      rw[struck_get hi hj]
      unfold Sk.part
      by_cases z:i=a
      · rw[if_pos (hit_iff.2 ⟨pv q k,p1,by rw[ha,z],by rw[p2,hkj]⟩),if_pos z]
      · rw[if_neg z,if_neg (fun y=>by
          obtain⟨k',h1,h2,h3⟩:=hit_iff.1 y
          have e3:=cir_inj hq (nx_lt hq0 k') hk (by rw[h3,hkj])
          have e4:=p3 k' h1 e3
          rw[e4,ha] at h2
          omega)]
        omega)
    have e2:s1 (db (struck c d q) j) c.length=s1 (db d j) c.length - (if b < c.length then lowest d q else 0):=s1_one _ (fun i hi=>by
      rw[struck_get hj hi]
      unfold Sk.part
      by_cases z:i=b
      · rw[if_pos (hit_iff.2 ⟨k,hk,hkj,by rw[hb,z]⟩),if_pos z]
      · rw[if_neg z,if_neg (fun y=>by
          obtain⟨k',h1,h2,h3⟩:=hit_iff.1 y
          have e3:=cir_inj hq h1 hk (by rw[h2,hkj])
          rw[e3,hb] at h3
          omega)]
        omega)
    rw[e1,e2,if_pos (by omega),if_pos (by omega)]
    omega
  · have no:∀k',k' < q.length->rd q (k':Int)≠(j:Int):=fun k' h1 h2=>hm ⟨k',h1,h2⟩
    rw[s1_congr (f:=fun i=>db (struck c d q) i j) (g:=fun i=>db d i j) _ (fun i hi=>by
      rw[struck_get hi hj]
      unfold Sk.part
      rw[if_neg (fun y=>by
        obtain⟨k',h1,h2,h3⟩:=hit_iff.1 y
        exact no _ (nx_lt hq0 k') h3)])]
    rw[s1_congr (f:=db (struck c d q) j) (g:=db d j) _ (fun i hi=>by
      rw[struck_get hj hi]
      unfold Sk.part
      rw[if_neg (fun y=>by
        obtain⟨k',h1,h2,h3⟩:=hit_iff.1 y
        exact no _ h1 h2)])]
end Go.Proofs.Ytfooakkhkehpiaa.Sn
namespace Go.Proofs.Ytfooakkhkehpiaa.Si
open Go.RowKit Go.Proofs.Ytfooakkhkehpiaa.PU Go.Proofs.Ytfooakkhkehpiaa.Qh Go.Proofs.Ytfooakkhkehpiaa.Bk Go.Proofs.Ytfooakkhkehpiaa.Mx Go.Proofs.Ytfooakkhkehpiaa.Cr Go.Proofs.Ytfooakkhkehpiaa.Sk Go.Proofs.YtfooakkhkehpiaaW.PrintWords Go.Proofs.YtfooakkhkehpiaaW.PrintMore
set_option linter.unusedVariables false
set_option linter.unusedSimpArgs false
variable {c:List Int} {d:List (List Int)} {q:List Int}
theorem is_l0 (h:BookP c d) (hq:CirP c.length d q) {r:List Int × List (List Int)} (hR:Ev (fun k=>Fi.l1 k q (lowest d q) q (q.length:Int) 0 c d) r):∀(e k:Nat) (x:Int),q.length - k=e->k<=q.length->low d q e k x=lowest d q->Ev (fun n=>Fi.l0 n q x q (q.length:Int) (k:Int) c d c d) r:=by
  have h4:=h.2.1
  have hdl:=h.2.2.1
  have hql:=hq.1.len
  have hq0:=hq.1.1
  intro e
  induction e with
  | zero=>
    intro k x he hk hx
    refine Ev.step (fun n=>by rw[Fi.l0]) ?_
    refine evNeg (by omega) ?_
    rw[low] at hx
    rw[hx]
    exact hR
  | succ e ih=>
    intro k x he hk hx
    have hlt:k < q.length:=by omega
    have hk1:Gy (wrap64 ((k:Int) + 1)=((k + 1:Nat):Int)):=⟨ki q k hlt (by omega)⟩
    have htm:Gy (Int.tmod ((k + 1:Nat):Int) (q.length:Int)=((nx q k:Nat):Int)):=⟨tm q k⟩
    have a1:=cir_at hq hlt
    have a2:=cir_at hq (nx_lt hq0 k)
    have hn:=nx_lt hq0 k
    have hrl:=row_len h a1
    refine Ev.step (fun n=>by rw[Fi.l0]) ?_
    rw[hk1.out,htm.out]
    refine evPos (by omega) (evPos (by omega) (evPos (by omega) (evPos a1.1 (evPos (by omega) (evNeg (by omega) (evPos (by omega) (evPos (by omega) (evPos a2.1 (evPos (by omega) ?_)))))))))
    exact ih (k + 1) _ (by omega) (by omega) (by rw[low] at hx;exact hx)
theorem is_l1 (h:BookP c d) (hq:CirP c.length d q):∀(e k:Nat),q.length - k=e->k<=q.length->Ev (fun n=>Fi.l1 n q (lowest d q) q (q.length:Int) (k:Int) c (mk c.length (Sk.part d q k))) (c,struck c d q):=by
  have h4:=h.2.1
  have hdl:=h.2.2.1
  have hql:=hq.1.len
  have hq0:=hq.1.1
  intro e
  induction e with
  | zero=>
    intro k he hk
    refine Ev.step (fun n=>by rw[Fi.l1]) ?_
    have:k=q.length:=by omega
    subst this
    exact evNeg (by omega) (Ev.now _)
  | succ e ih=>
    intro k he hk
    have hlt:k < q.length:=by omega
    have hk1:Gy (wrap64 ((k:Int) + 1)=((k + 1:Nat):Int)):=⟨ki q k hlt (by omega)⟩
    have htm:Gy (Int.tmod ((k + 1:Nat):Int) (q.length:Int)=((nx q k:Nat):Int)):=⟨tm q k⟩
    have a1:=cir_at hq hlt
    have a2:=cir_at hq (nx_lt hq0 k)
    have hn:=nx_lt hq0 k
    have hml:=mk_len c.length (Sk.part d q k)
    have hle:=lowest_le hq hlt
    have hlp:=lowest_pos hq
    have hee:=edge_le h hq hlt
    obtain⟨a,ha⟩:=Int.eq_ofNat_of_zero_le a1.1
    obtain⟨b,hb⟩:=Int.eq_ofNat_of_zero_le a2.1
    have hac:a < c.length:=by omega
    have hbc:b < c.length:=by omega
    have hmr:(Jc (mk c.length (Sk.part d q k)) (rd q (k:Int))).length=c.length:=by rw[ha,mk_get hac,rowF_len]
    have hnot:¬ hit q k a b=true:=fun z=>by
      obtain⟨k',h1,h2,_⟩:=hit_iff.1 z
      have:=cir_inj hq (show k' < q.length by omega) hlt (by rw[h2,ha])
      omega
    have hw:Gy (wrap64 (rd (Jc (mk c.length (Sk.part d q k)) (rd q (k:Int))) (rd q ((nx q k:Nat):Int)) - lowest d q)=db d a b - lowest d q):=⟨by
      have e2:edge d q k=db d a b:=by unfold edge;rw[ha,hb]
      rw[ha,hb,mk_get hac,rd_rowF hbc]
      have e3:Sk.part d q k a b=db d a b:=if_neg hnot
      rw[e3, <- e2,w64 (by omega) (by omega)]⟩
    refine Ev.step (fun n=>by rw[Fi.l1]) ?_
    rw[hk1.out,htm.out]
    refine evPos (by omega) (evPos (by omega) (evPos (by omega) (evPos a1.1 (evPos (by omega) (evNeg (by omega) (evPos (by omega) (evPos (by omega) (evPos a2.1 (evPos (by omega) ?_)))))))))
    rw[hw.out,ha,hb,Int.toNat_natCast,Int.toNat_natCast,mk_set hac hbc]
    have:mk c.length (fun i' j'=>if i'=a/\j'=b then db d a b - lowest d q else Sk.part d q k i' j')=mk c.length (Sk.part d q (k + 1)):=mk_congr (fun i hi j hj=>by
      by_cases z:i=a/\j=b
      · rw[if_pos z]
        unfold Sk.part
        rw[if_pos (hit_iff.2 ⟨k,by omega,by rw[ha,z.1],by rw[hb,z.2]⟩),z.1,z.2]
      · rw[if_neg z]
        unfold Sk.part
        have:hit q (k + 1) i j=hit q k i j:=by
          rw[Bool.eq_iff_iff,hit_iff,hit_iff]
          constructor
          · rintro⟨k',h1,h2,h3⟩
            by_cases e':k'=k
            · subst e'
              rw[ha] at h2;rw[hb] at h3
              exact absurd ⟨by omega,by omega⟩ z
            · exact⟨k',by omega,h2,h3⟩
          · rintro⟨k',h1,h2⟩
            exact⟨k',by omega,h2⟩
        rw[this])
    rw[this]
    exact ih (k + 1) (by omega) (by omega)
theorem iStruck (h:BookP c d) (hq:CirP c.length d q):Ev (fun k=>Fi.f k c d q) (c,struck c d q):=by
  unfold Fi.f
  refine Ev.bind (icopy h) (is_l0 h hq ?_ q.length 0 9 rfl (by omega) rfl)
  have:=is_l1 h hq q.length 0 rfl (by omega)
  have e:mk c.length (Sk.part d q 0)=d:=(mk_congr (fun i _ j _=>by unfold Sk.part hit;simp)).trans (mk_of h).symm
  rw[e] at this
  exact this
end Go.Proofs.Ytfooakkhkehpiaa.Si
namespace Go.Proofs.Ytfooakkhkehpiaa.Cq
open Go.RowKit Go.Proofs.Ytfooakkhkehpiaa.PU Go.Proofs.Ytfooakkhkehpiaa.Qh Go.Proofs.Ytfooakkhkehpiaa.Bk Go.Proofs.Ytfooakkhkehpiaa.Mx Go.Proofs.Ytfooakkhkehpiaa.Cr Go.Proofs.YtfooakkhkehpiaaW.PrintWords Go.Proofs.YtfooakkhkehpiaaW.PrintMore
set_option linter.unusedVariables false
set_option linter.unusedSimpArgs false
open Go.Proofs.Ytfooakkhkehpiaa.PU.Circ (walkI rowI stepI lastI foundI cmpI lexc cmpl insL srtL)
variable {c:List Int} {d:List (List Int)}
theorem row_lead {F:List Int->List (List Int)} {p row:List Int} {n a:Nat} (ha:rd p 0=(a:Int)) (han:a < n):∀(e j:Nat),j + e=n->j<=a->rowI F p row e j=rowI F p row (n - a) a
  | 0,j,he,hj=>by omega
  | e + 1,j,he,hj=>by
    by_cases h:j=a
    · subst h
      have:n - j=e + 1:=by omega
      rw[this]
    · rw[rowI]
      have hs:stepI F p row j=[]:=by unfold stepI;rw[if_pos (.inr (by rw[ha];omega))]
      rw[hs,List.nil_append]
      exact row_lead ha han e (j + 1) (by omega) (by omega)
theorem walk_eq (h:BookP c d):∀(m m':Nat) (p:List Int),PathP c.length d p->c.length < m + p.length->c.length < m' + p.length->walkI d m p=P c.length d m' p
  | 0,_,p,hp,hm,_=>by have:=hp.len;omega
  | _,0,p,hp,_,hm=>by have:=hp.len;omega
  | m + 1,m' + 1,p,hp,hm,hm'=>by
    have hh:=hp.head
    have hl:=hp.last
    have hrl:=row_len h hl
    obtain⟨a,ha⟩:=Int.eq_ofNat_of_zero_le hh.1
    have han:a < c.length:=by omega
    have e1:d.getD (lastI p).toNat []=Jc d (la p):=rfl
    rw[walkI,P,e1,hrl,row_lead ha han c.length 0 (by omega) (by omega)]
    have e2:c.length - a=(c.length - (a + 1)) + 1:=by omega
    rw[e2,rowI]
    have ha':(rd p 0).toNat=a:=by rw[ha];rfl
    rw[ha']
    have s0:stepI (walkI d m) p (Jc d (la p)) a=self d p:=by
      unfold stepI self
      have hge:=row_ge h hl (j:=(a:Int)) ⟨by omega,by omega⟩
      rw[ha]
      by_cases hz:rd (Jc d (la p)) (a:Int)=0
      · rw[if_pos (.inl hz),if_neg (fun z=>by have:=z.2;omega)]
      · rw[if_neg (fun z=>z.elim hz (fun y=>by omega)),if_pos rfl]
        have h1:1 < p.length:=by
          apply Classical.byContradiction
          intro h1
          have hp0:=hp.1
          have hp1:p.length=1:=by omega
          have e3:la p=(a:Int):=by unfold la;rw[hp1];exact ha
          rw[e3] at hz
          exact hz (h.2.2.2 a han).2.2.2.1
        rw[if_pos ⟨h1,by omega⟩]
    rw[s0]
    congr 1
    have key:∀(e j:Nat),j + e=c.length->a < j->rowI (walkI d m) p (Jc d (la p)) e j=rest (P c.length d m') d p e j:=by
      intro e
      induction e with
      | zero=>intro j _ _;rfl
      | succ e ih=>
        intro j he hj
        rw[rowI,rest,ih (j + 1) (by omega) (by omega)]
        congr 1
        unfold stepI
        have hge:=row_ge h hl (j:=(j:Int)) ⟨by omega,by omega⟩
        rw[ha]
        by_cases hz:rd (Jc d (la p)) (j:Int)=0
        · rw[if_pos (.inl hz),if_pos (.inl hz)]
        · rw[if_neg (fun z=>z.elim hz (fun y=>by omega)),if_neg (by omega)]
          by_cases hm:(j:Int) ∈ p
          · rw[if_pos hm,if_pos (.inr hm)]
          · rw[if_neg hm,if_neg (fun z=>z.elim hz hm)]
            have hs:=hp.snoc (j:=j) (by omega) (by omega) hm (by omega)
            exact walk_eq h m m' _ hs (by rw[List.length_append,List.length_singleton];omega) (by rw[List.length_append,List.length_singleton];omega)
    exact key _ (a + 1) (by omega) (by omega)
theorem found_eq (h:BookP c d):∀(e i:Nat),i + e=c.length->foundI d e i=found c.length d e i
  | 0,_,_=>rfl
  | e + 1,i,hi=>by
    have h4:=h.2.1
    have hdl:=h.2.2.1
    rw[foundI,found,found_eq h e (i + 1) (by omega),walk_eq h d.length 4 [(i:Int)] (PathP.one (by omega)) (by rw[List.length_singleton];omega) (by rw[List.length_singleton];omega)]
def cR (F:List Int->Nat) (p:List Int):Nat->Nat->Nat
  | 0,_=>0
  | e + 1,j=>(if (j:Int) ∈ p then 0 else F (p ++ [(j:Int)])) + cR F p e (j + 1)
def cP (n:Nat):Nat->List Int->Nat
  | 0,_=>0
  | m + 1,p=>(if 1 < p.length then 1 else 0) + cR (cP n m) p (n - ((rd p 0).toNat + 1)) ((rd p 0).toNat + 1)
def cF (n:Nat):Nat->Nat->Nat
  | 0,_=>0
  | e + 1,i=>cP n 4 [(i:Int)] + cF n e (i + 1)
theorem cR_le {F:List Int->List (List Int)} {G:List Int->Nat} (hFG:∀q,(F q).length<=G q) (p:List Int):∀(e j:Nat),(rest F d p e j).length<=cR G p e j
  | 0,_=>Nat.le_refl _
  | e + 1,j=>by
    rw[rest,cR,List.length_append]
    have h1:=cR_le hFG p e (j + 1)
    have h2:(if rd (Jc d (la p)) (j:Int)=0 ∨ (j:Int) ∈ p then[] else F (p ++ [(j:Int)])).length<=(if (j:Int) ∈ p then 0 else G (p ++ [(j:Int)])):=by
      by_cases hm:(j:Int) ∈ p
      · rw[if_pos (.inr hm),if_pos hm];exact Nat.le_refl _
      · rw[if_neg hm]
        split
        · exact Nat.zero_le _
        · exact hFG _
    omega
theorem cP_le (n:Nat):∀(m:Nat) (p:List Int),(P n d m p).length<=cP n m p
  | 0,_=>Nat.le_refl _
  | m + 1,p=>by
    rw[P,cP,List.length_append]
    have h1:=cR_le (d:=d) (cP_le n m) p (n - ((rd p 0).toNat + 1)) ((rd p 0).toNat + 1)
    have h2:(self d p).length<=if 1 < p.length then 1 else 0:=by
      unfold self
      by_cases h:1 < p.length
      · rw[if_pos h];split <;> simp
      · rw[if_neg h,if_neg (fun z=>h z.1)];exact Nat.le_refl _
    omega
theorem cF_le (n:Nat):∀(e i:Nat),(found n d e i).length<=cF n e i
  | 0,_=>Nat.le_refl _
  | e + 1,i=>by
    rw[found,cF,List.length_append]
    have h1:=cP_le (d:=d) n 4 [(i:Int)]
    have h2:=cF_le n e (i + 1)
    omega
theorem cF4:∀n,n<=4->cF n n 0<=20
  | 0,_=>by decide
  | 1,_=>by decide
  | 2,_=>by decide
  | 3,_=>by decide
  | 4,_=>by decide
  | n + 5,h=>by omega
theorem cmpI_lt (a b:Int):(cmpI a b < 0 ↔ a < b)/\(cmpI a b=0 ↔ a=b):=by
  unfold cmpI
  by_cases h:a < b
  · rw[if_pos h];exact⟨⟨fun _=>h,fun _=>by decide⟩,⟨fun z=>by simp at z,fun z=>by omega⟩⟩
  · rw[if_neg h]
    by_cases h2:a > b
    · rw[if_pos h2];exact⟨⟨fun z=>by simp at z,fun z=>by omega⟩,⟨fun z=>by simp at z,fun z=>by omega⟩⟩
    · rw[if_neg h2];exact⟨⟨fun z=>by simp at z,fun z=>by omega⟩,⟨fun _=>by omega,fun _=>rfl⟩⟩
theorem lex_lt:∀(a b:List Int),a.length=b.length->(lexc a b < 0 ↔ lexlt a b=true)
  | [],[],_=>by simp[lexc,lexlt]
  | [],_ :: _,h=>by simp at h
  | _ :: _,[],h=>by simp at h
  | a :: r,b :: s,h=>by
    rw[lexc,lexlt]
    have hc:=cmpI_lt a b
    by_cases e:a=b
    · rw[if_pos (hc.2.2 e),if_pos e];exact lex_lt r s (by simpa using h)
    · rw[if_neg (fun z=>e (hc.2.1 z)),if_neg e,hc.1];simp
theorem cmp_bef (a b:List Int):cmpl a b < 0 ↔ bef a b=true:=by
  unfold cmpl bef
  have hc:=cmpI_lt (a.length:Int) (b.length:Int)
  by_cases e:a.length=b.length
  · rw[if_pos (hc.2.2 (by omega)),if_pos e];exact lex_lt a b e
  · rw[if_neg (fun z=>e (by have:=hc.2.1 z;omega)),if_neg e,hc.1];simp
theorem insL_eq:∀(j:Nat) (xs:List (List Int)),insL j xs=ins bef j xs
  | 0,_=>rfl
  | j + 1,xs=>by
    rw[insL,ins]
    by_cases h:bef (xs.getD (j + 1) []) (xs.getD j [])=true
    · rw[if_pos ((cmp_bef _ _).2 h),if_pos h];exact insL_eq j _
    · rw[if_neg (fun z=>h ((cmp_bef _ _).1 z)),if_neg h]
theorem srtL_eq:∀(e i:Nat) (xs:List (List Int)),srtL e i xs=srt bef e i xs
  | 0,_,_=>rfl
  | e + 1,i,xs=>by rw[srtL,srt,insL_eq,srtL_eq e]
theorem circ_20 (h:BookP c d):(circ c d).length<=20:=by
  rw[circ_len]
  exact Nat.le_trans (cF_le c.length c.length 0) (cF4 c.length h.2.1)
theorem iCircles (h:BookP c d):Ev (fun k=>Gr.f k c d) (circ c d):=by
  have h4:=h.2.1
  have hdl:=h.2.2.1
  have h20:=circ_20 h
  rw[circ_len] at h20
  have e:∀k,Gr.f k c d=some (circ c d):=fun k=>by
    unfold Gr.f
    rw[hdl,found_eq h c.length 0 (by omega),if_pos ⟨rfl,h4,fun i hi=>(h.2.2.2 i hi).2.2.1,h20⟩,srtL_eq]
    rfl
  simp only[e]
  exact Ev.now _
end Go.Proofs.Ytfooakkhkehpiaa.Cq
namespace Go.Proofs.Ytfooakkhkehpiaa.Wi
open Go.RowKit Go.Proofs.Ytfooakkhkehpiaa.PU Go.Proofs.Ytfooakkhkehpiaa.Qh Go.Proofs.Ytfooakkhkehpiaa.Bk Go.Proofs.Ytfooakkhkehpiaa.Mx Go.Proofs.Ytfooakkhkehpiaa.Ow Go.Proofs.Ytfooakkhkehpiaa.Cr Go.Proofs.Ytfooakkhkehpiaa.Sk Go.Proofs.Ytfooakkhkehpiaa.Sn Go.Proofs.YtfooakkhkehpiaaW.PrintWords Go.Proofs.YtfooakkhkehpiaaW.PrintMore
set_option linter.unusedVariables false
set_option linter.unusedSimpArgs false
open Go.Proofs.Ytfooakkhkehpiaa.Ne (nt cs)
variable {c:List Int} {d:List (List Int)}
theorem no_more (h:BookP c d) (ht:tot c d<=0):(circ c d).length=0:=by
  apply Classical.byContradiction
  intro hz
  have hq:=mem_circ h (getD_mem [] (circ c d) 0 (by omega))
  have h1:=struck_less h hq
  have h2:=tot_bd (struck_ok h hq)
  omega
theorem iWoc:∀(N:Nat) (d:List (List Int)) (n:Int),BookP c d->tot c d<=(N:Int)->0<=n->n + N<=1000->Ev (fun k=>Fd.l0 k n c d) (c,(woc c N d n).1,(woc c N d n).2):=by
  intro N
  induction N with
  | zero=>
    intro d n h ht hn hN
    refine Ev.step (fun k=>by rw[Fd.l0]) ?_
    refine Ev.bind (Cq.iCircles h) ?_
    have hz:=no_more h (by omega)
    exact evPos (by omega) (Ev.now _)
  | succ N ih=>
    intro d n h ht hn hN
    refine Ev.step (fun k=>by rw[Fd.l0]) ?_
    refine Ev.bind (Cq.iCircles h) ?_
    by_cases hz:(circ c d).length=0
    · refine evPos (by omega) (evEq (Ev.now _) ?_)
      rw[woc,if_pos hz]
    · refine evNeg (by omega) (evPos (by omega) ?_)
      have hq:=mem_circ h (getD_mem [] (circ c d) 0 (by omega))
      have e1:Jc (circ c d) 0=(circ c d).getD 0 []:=rfl
      rw[e1]
      refine Ev.bind (Si.iStruck h hq) ?_
      have hw:wrap64 (n + 1)=n + 1:=w64 (by omega) (by omega)
      rw[hw]
      have h1:=struck_less h hq
      refine evEq (ih _ (n + 1) (struck_ok h hq) (by show tot c (struck c d ((circ c d).getD 0 []))<=(N:Int);omega) (by omega) (by omega)) ?_
      rw[woc,if_neg hz]
theorem iwithout (h:BookP c d):Ev (fun k=>Fd.f k c d) (c,(without c d).1,(without c d).2):=by
  unfold Fd.f
  exact Ev.bind (icopy h) (iWoc 144 d 0 h (tot_bd h).2 (by omega) (by omega))
theorem woc_none:∀(N:Nat) (d:List (List Int)) (n:Int),BookP c d->tot c d<=(N:Int)->(circ c (woc c N d n).1).length=0
  | 0,d,n,h,ht=>by
    show(circ c d).length=0
    exact no_more h (by omega)
  | N + 1,d,n,h,ht=>by
    rw[woc]
    by_cases hz:(circ c d).length=0
    · rw[if_pos hz];exact hz
    · rw[if_neg hz]
      have hq:=mem_circ h (getD_mem [] (circ c d) 0 (by omega))
      have h1:=struck_less h hq
      exact woc_none N _ _ (struck_ok h hq) (by omega)
theorem woc_nt {j:Nat} (hj:j < c.length):∀(N:Nat) (d:List (List Int)) (n:Int),BookP c d->nt c (woc c N d n).1 j=nt c d j
  | 0,_,_,_=>rfl
  | N + 1,d,n,h=>by
    rw[woc]
    by_cases hz:(circ c d).length=0
    · rw[if_pos hz]
    · rw[if_neg hz]
      have hq:=mem_circ h (getD_mem [] (circ c d) 0 (by omega))
      rw[woc_nt hj N _ _ (struck_ok h hq),nt_struck hq hj]
theorem w_nets (h:BookP c d):rowF c.length (nt c (without c d).1)=rowF c.length (nt c d):=rowF_congr (fun _ hj=>woc_nt hj _ _ _ h)
end Go.Proofs.Ytfooakkhkehpiaa.Wi
namespace Go.Proofs.Ytfooakkhkehpiaa.Id
open Go.RowKit Go.Proofs.Ytfooakkhkehpiaa.PU Go.Proofs.Ytfooakkhkehpiaa.Qh Go.Proofs.Ytfooakkhkehpiaa.Bk Go.Proofs.Ytfooakkhkehpiaa.Mx Go.Proofs.Ytfooakkhkehpiaa.Nt Go.Proofs.Ytfooakkhkehpiaa.Dk Go.Proofs.Ytfooakkhkehpiaa.Sk Go.Proofs.Ytfooakkhkehpiaa.Dd Go.Proofs.YtfooakkhkehpiaaW.PrintWords Go.Proofs.YtfooakkhkehpiaaW.PrintMore
set_option linter.unusedVariables false
set_option linter.unusedSimpArgs false
section
variable {c c':List Int} {d d':List (List Int)} {ps:List B} {a0 a1 a2 a3:Int}
theorem isBank (c:List Int) (d:List (List Int)) (a:Int):EvB (fun k=>Gl.f k c d a) (BookP c d/\0<=a/\a < c.length):=by
  unfold Gl.f
  obtain⟨b,hb,e⟩:=isBook c d
  refine EvB.bind e ?_
  by_cases h:BookP c d
  · refine EvB.pos (hb.2 h) ?_
    by_cases h0:a ≥ 0
    · refine EvB.pos h0 ⟨_,?_,Ev.now _⟩
      rw[decide_eq_true_iff]
      exact⟨fun z=>⟨h,h0,z⟩,fun z=>z.2.2⟩
    · exact EvB.neg h0 (EvB.ff (fun z=>h0 z.2.1))
  · exact EvB.neg (fun z=>h (hb.1 z)) (EvB.ff (fun z=>h z.1))
theorem iDcopy (h:DeskP c d ps):Ev (fun k=>Fq.f k c d ps) (c,d,ps):=by
  unfold Fq.f
  refine Ev.bind (icopy h.1) ?_
  have h8:=h.2.1
  have key:∀(e i:Nat),ps.length - i=e->i<=ps.length->Ev (fun k=>Fq.l0 k ps (ps.length:Int) (i:Int) c d (ps.take i)) (c,d,ps):=by
    intro e
    induction e with
    | zero=>
      intro i he hi
      obtain rfl:i=ps.length:=by omega
      refine Ev.step (fun k=>by rw[Fq.l0]) ?_
      rw[List.take_length]
      exact evNeg (by omega) (Ev.now _)
    | succ e ih=>
      intro i he hi
      have hlt:i < ps.length:=by omega
      have hs:Gy (wrap64 ((i:Int) + 1)=((i + 1:Nat):Int)):=⟨wsucc hlt (by omega)⟩
      have htl:(ps.take i).length=i:=by rw[List.length_take];omega
      have hmem:Jd ps (i:Int) ∈ ps:=by rw[rT];exact getD_mem _ ps i hlt
      have e2:ps.take i ++ [Jd ps (i:Int)]=ps.take (i + 1):=by
        rw[rT,List.getD_eq_getElem?_getD,List.getElem?_eq_getElem hlt,List.take_succ_eq_append_getElem hlt];rfl
      refine Ev.step (fun k=>by rw[Fq.l0]) ?_
      rw[hs.out]
      refine evPos (by omega) (evPos (by omega) (evPos (by omega) (Ev.bind (icopy (h.2.2 _ hmem).1) (evPos (by omega) ?_))))
      show Ev (fun k=>Fq.l0 k ps (ps.length:Int) ((i + 1:Nat):Int) c d (ps.take i ++ [Jd ps (i:Int)])) _
      rw[e2]
      exact ih (i + 1) (by omega) (by omega)
  exact key ps.length 0 rfl (by omega)
theorem eqI_l (a b:List Int) (ha:a.length<=4611686018427387904) (hl:a.length=b.length):∀(e i:Nat),a.length - i=e->i<=a.length->EvB (fun k=>Fv.l0 k a b (a.length:Int) (i:Int)) (∀i':Nat,i<=i'->i' < a.length->rd a (i':Int)=rd b (i':Int)):=by
  intro e
  induction e with
  | zero=>
    intro i he hi
    refine EvB.step (fun k=>by rw[Fv.l0]) ?_
    exact EvB.neg (by omega) (EvB.tt (fun i' h1 h2=>by omega))
  | succ e ih=>
    intro i he hi
    have hlt:i < a.length:=by omega
    have hs:wrap64 ((i:Int) + 1)=((i + 1:Nat):Int):=wsucc hlt ha
    refine EvB.step (fun k=>by rw[Fv.l0]) ?_
    rw[hs]
    refine EvB.pos (by omega) (EvB.pos (by omega) (EvB.pos (by omega) (EvB.pos (by omega) ?_)))
    by_cases h:rd a (i:Int)=rd b (i:Int)
    · refine EvB.pos h ((ih (i + 1) (by omega) (by omega)).congr ⟨fun z i' h1 h2=>?_,fun z i' h1 h2=>z i' (by omega) h2⟩)
      by_cases e':i'=i
      · subst e';exact h
      · exact z i' (by omega) h2
    · exact EvB.neg h (EvB.ff (fun z=>h (z i (Nat.le_refl _) hlt)))
theorem eqI (a b:List Int) (ha:a.length<=4611686018427387904):EvB (fun k=>Fv.f k a b) (a=b):=by
  unfold Fv.f
  by_cases hl:a.length=b.length
  · exact EvB.pos (by omega) ((eqI_l a b ha hl _ 0 rfl (by omega)).congr ⟨fun z=>ext_rd a b hl (fun i hi=>z i (by omega) hi),fun z i' _ _=>by rw[z]⟩)
  · exact EvB.neg (by omega) (EvB.ff (fun z=>hl (by rw[z])))
theorem eqEl:∀(a b:List (List Int)),(∀x ∈ a,x.length<=4611686018427387904)->a.length=b.length->EvB (fun k=>F6.el k a b) (a=b)
  | [],[],_,_=>EvB.tt rfl
  | x :: r,y :: s,h,hl=>by
    show EvB (fun k=>(Fv.f k x y).bind fun t=>if t=true then F6.el k r s else some false) _
    obtain⟨t,ht,e⟩:=eqI x y (h x List.mem_cons_self)
    refine EvB.bind e ?_
    by_cases hx:x=y
    · refine EvB.pos (ht.2 hx) ((eqEl r s (fun z hz=>h z (List.mem_cons_of_mem _ hz)) (by simpa using hl)).congr ?_)
      rw[hx];simp
    · exact EvB.neg (fun z=>hx (ht.1 z)) (EvB.ff (fun z=>hx (by injection z)))
theorem sameB (h:BookP c' d') (c:List Int) (d:List (List Int)):EvB (fun k=>Gu.f k c' d' c d) (c'=c/\d'=d):=by
  have h4:=h.2.1
  have hdl:=h.2.2.1
  unfold Gu.f
  obtain⟨t,ht,e⟩:=eqI c' c (by omega)
  refine EvB.bind e ?_
  by_cases hc:c'=c
  · refine EvB.pos (ht.2 hc) ?_
    have key:EvB (fun k=>F6.f k d' d) (d'=d):=by
      unfold F6.f
      by_cases hl:d'.length=d.length
      · refine EvB.pos (by omega) (eqEl d' d (fun x hx=>?_) hl)
        obtain⟨i,hi,rfl⟩:=List.mem_iff_getElem.mp hx
        have:=(h.2.2.2 i (by omega)).2.2.1
        rw[rL,List.getD_eq_getElem?_getD,List.getElem?_eq_getElem hi] at this
        simp only[Option.getD_some] at this
        omega
      · exact EvB.neg (by omega) (EvB.ff (fun z=>hl (by rw[z])))
    obtain⟨u,hu,eu⟩:=key
    exact EvB.bind eu ⟨u,hu.trans ⟨fun z=>⟨hc,z⟩,fun z=>z.2⟩,Ev.now _⟩
  · exact EvB.neg (fun z=>hc (ht.1 z)) (EvB.ff (fun z=>hc z.1))
def Np (o:Option (List Int × List (List Int))) (g:Nat->Option (List Int × List (List Int) × Bool)):Prop:=
  ∃c' d' b,Ev g (c',d',b)/\(b=true->o=some (c',d'))/\(¬ b=true->o=none)
theorem Np.step {o:Option (List Int × List (List Int))} {g f:Nat->Option (List Int × List (List Int) × Bool)} (e:∀k,g (k + 1)=f k) (h:Np o f):Np o g:=by
  obtain⟨c',d',b,h1,h2⟩:=h
  exact⟨c',d',b,Ev.step e h1,h2⟩
theorem Np.pos {o:Option (List Int × List (List Int))} {p:Prop} [Decidable p] {g f:Nat->Option (List Int × List (List Int) × Bool)} (hp:p) (h:Np o g):Np o (fun k=>if p then g k else f k):=by
  obtain⟨c',d',b,h1,h2⟩:=h
  exact⟨c',d',b,evPos hp h1,h2⟩
theorem Np.neg {o:Option (List Int × List (List Int))} {p:Prop} [Decidable p] {g f:Nat->Option (List Int × List (List Int) × Bool)} (hp:¬ p) (h:Np o f):Np o (fun k=>if p then g k else f k):=by
  obtain⟨c',d',b,h1,h2⟩:=h
  exact⟨c',d',b,evNeg hp h1,h2⟩
theorem Np.bind {β:Type} {o:Option (List Int × List (List Int))} {g:Nat->Option β} {f:Nat->β->Option (List Int × List (List Int) × Bool)} {a:β} (e:Ev g a) (h:Np o (fun k=>f k a)):Np o (fun k=>(g k).bind (f k)):=by
  obtain⟨c',d',b,h1,h2⟩:=h
  exact⟨c',d',b,Ev.bind e h1,h2⟩
theorem Np.bind0 {β:Type} {o:Option (List Int × List (List Int))} {g:Option β} {f:Nat->β->Option (List Int × List (List Int) × Bool)} {a:β} (e:g=some a) (h:Np o (fun k=>f k a)):Np o (fun k=>g.bind (f k)):=by
  obtain⟨c',d',b,h1,h2⟩:=h
  exact⟨c',d',b,evBind0 e h1,h2⟩
theorem Np.yes:Np (some (c',d')) (fun _=>some (c',d',true)):=⟨c',d',true,Ev.now _,fun _=>rfl,fun z=>absurd rfl z⟩
theorem Np.no:Np none (fun _=>some ([],[],false)):=⟨[],[],false,Ev.now _,fun z=>by simp at z,fun _=>rfl⟩
theorem Np.book {o:Option (List Int × List (List Int))} (hp:BookP c' d'->o=some (c',d')) (hn:¬ BookP c' d'->o=none):Np o (fun k=>(Fg.f k c' d').bind fun t=>some (c',d',t)):=by
  obtain⟨b,hb,e⟩:=isBook c' d'
  exact⟨c',d',b,Ev.bind e (Ev.now _),fun z=>hp (hb.1 z),fun z=>hn (fun w=>z (hb.2 w))⟩
theorem j1f (h:BookP c d) (h0:¬ (a0=0/\(0<=a1/\a1 < (c.length:Int))/\a2=0)) (h1:¬ (a0=1/\(0<=a1/\a1 < (c.length:Int))/\(0<=a2/\a2 < (c.length:Int))/\a1≠a2)):Np (made c d a0 a1 a2 a3) (fun k=>Fr.j1 k false c d a0 a1 a2 a3):=by
  refine Np.step (fun k=>by rw[Fr.j1]) ?_
  refine Np.neg (by decide) ?_
  unfold made
  rw[if_neg (fun z=>h0 ⟨z.1,z.2.1,z.2.2.1⟩),if_neg (fun z=>h1 ⟨z.1,z.2.1,z.2.2.1,z.2.2.2.1⟩)]
  by_cases g2:a0=2/\a1=0/\a2=0/\a3=0
  · rw[if_pos g2]
    exact Np.pos (by simp[g2]) (Np.bind (inetted h) Np.yes)
  rw[if_neg g2]
  refine Np.neg (by simpa using g2) ?_
  by_cases g3:a0=3/\a1=0/\a2=0/\a3=0
  · rw[if_pos g3]
    exact Np.pos (by simp[g3]) (Np.bind (Wi.iwithout h) Np.yes)
  rw[if_neg g3]
  exact Np.neg (by simpa using g3) Np.no
theorem j0f (h:BookP c d) (h0:¬ (a0=0/\(0<=a1/\a1 < (c.length:Int))/\a2=0)):Np (made c d a0 a1 a2 a3) (fun k=>Fr.j0 k false c d a0 a1 a2 a3):=by
  have hdl:=h.2.2.1
  refine Np.step (fun k=>by rw[Fr.j0]) ?_
  refine Np.neg (by decide) ?_
  by_cases k1:a0=1
  · obtain⟨b1,hb1,e1⟩:=isBank c d a1
    refine Np.pos k1 (Np.bind e1 ?_)
    by_cases k2:0<=a1/\a1 < (c.length:Int)
    · obtain⟨b2,hb2,e2⟩:=isBank c d a2
      refine Np.pos (hb1.2 ⟨h,k2⟩) (Np.bind e2 ?_)
      by_cases k3:0<=a2/\a2 < (c.length:Int)
      · refine Np.pos (hb2.2 ⟨h,k3⟩) ?_
        by_cases k4:a1=a2
        · have:(a1 != a2)=false:=bne_eq_false_iff_eq.mpr k4
          rw[this]
          exact j1f h h0 (fun z=>z.2.2.2 k4)
        · have:(a1 != a2)=true:=bne_iff_ne.mpr k4
          rw[this]
          have hrl:=Cr.row_len h (i:=a1) ⟨by omega,by omega⟩
          refine Np.step (fun k=>by rw[Fr.j1]) ?_
          refine Np.pos rfl (Np.bind (icopy h) (Np.pos k2.1 (Np.pos (by show a1 < (d.length:Int);omega) (Np.pos k3.1 (Np.pos (by show a2 < ((Jc d a1).length:Int);omega) (Np.bind0 rfl ?_))))))
          unfold made
          rw[if_neg (fun z=>h0 ⟨z.1,z.2.1,z.2.2.1⟩)]
          refine Np.book (fun z=>?_) (fun z=>?_)
          · have hi:a1.toNat < c.length:=by omega
            have hj:a2.toNat < c.length:=by omega
            have z2:=(z.2.2.2 a1.toNat hi).2.2.2.2 a2.toNat hj
            rw[debt_mk h k2 k3,mk_get hi,rd_rowF hj,if_pos ⟨rfl,rfl⟩] at z2
            rw[if_pos ⟨k1,k2,k3,k4,z2⟩]
          · rw[if_neg (fun w=>z (debt_ok h w.2.1 w.2.2.1 w.2.2.2.1 w.2.2.2.2)),if_neg (by omega),if_neg (by omega)]
      · exact Np.neg (fun z=>k3 (hb2.1 z).2) (j1f h h0 (fun z=>k3 z.2.2.1))
    · exact Np.neg (fun z=>k2 (hb1.1 z).2) (j1f h h0 (fun z=>k2 z.2.1))
  · exact Np.neg k1 (j1f h h0 (fun z=>k1 z.1))
theorem nextBook (h:BookP c d):Np (made c d a0 a1 a2 a3) (fun k=>Fr.f k c d a0 a1 a2 a3):=by
  unfold Fr.f
  by_cases k0:a0=0
  · refine Np.pos k0 ?_
    by_cases k2:a2=0
    · obtain⟨b1,hb1,e1⟩:=isBank c d a1
      refine Np.pos k2 (Np.bind e1 ?_)
      by_cases k1:0<=a1/\a1 < (c.length:Int)
      · rw[hb1.2 ⟨h,k1⟩]
        refine Np.step (fun k=>by rw[Fr.j0]) ?_
        have hw:Ev (fun k=>Gw.f k c d a1 a3) (c.set a1.toNat a3,d):=by
          unfold Gw.f
          exact Ev.bind (icopy h) (evPos k1.1 (evPos k1.2 (Ev.now _)))
        refine Np.pos rfl (Np.bind hw ?_)
        unfold made
        refine Np.book (fun z=>?_) (fun z=>?_)
        · have hl:(c.set a1.toNat a3).length=c.length:=List.length_set
          have z2:=z.2.2.2 a1.toNat (by rw[hl];omega)
          have e:rd (c.set a1.toNat a3) (a1.toNat:Int)=a3:=by
            rw[rd_set c a3 a1 _ k1.1 k1.2 (by omega),if_pos (by omega)]
          have z3:=z2.1
          have z4:=z2.2.1
          rw[e] at z3 z4
          rw[if_pos ⟨k0,k1,k2,z3,z4⟩]
        · rw[if_neg (fun w=>z (cash_ok h w.2.1 w.2.2.2)),if_neg (by omega),if_neg (by omega),if_neg (by omega)]
      · have:b1=false:=by
          cases b1 with
          | false=>rfl
          | true=>exact absurd (hb1.1 rfl).2 k1
        rw[this]
        exact j0f h (fun z=>k1 z.2.1)
    · exact Np.neg k2 (j0f h (fun z=>k2 z.2.2))
  · exact Np.neg k0 (j0f h (fun z=>k0 z.1))
theorem made4:made c d 4 0 0 0=none:=by
  unfold made
  rw[if_neg (by omega),if_neg (by omega),if_neg (by omega),if_neg (by omega)]
theorem iDo (h:DeskP c d ps):Ev (fun k=>F4.f k c d ps a0 a1 a2 a3) (dd c d ps a0 a1 a2 a3):=by
  have h8:=h.2.1
  unfold F4.f dd
  rw[if_pos h]
  refine Ev.bind (iDcopy h) ?_
  have hw:Gy (wrap64 ((ps.length:Int) - 1)=(ps.length:Int) - 1):=⟨w64 (by omega) (by omega)⟩
  show Ev (fun k=>if (a0 == 4 && (a1 == 0 && (a2 == 0 && (a3 == 0))))=true then(if (wrap64 ((ps.length:Int) - 1)) < 0 then(some (c,d,ps,false)) else(if 0<=(wrap64 ((ps.length:Int) - 1)) then(if (wrap64 ((ps.length:Int) - 1)) < (ps.length:Int) then(if (wrap64 ((ps.length:Int) - 1))<=(ps.length:Int) then((Fq.f k ((Jd ps (wrap64 ((ps.length:Int) - 1))).f0) ((Jd ps (wrap64 ((ps.length:Int) - 1))).f1) (ps.take ((wrap64 ((ps.length:Int) - 1)):Int).toNat)).bind fun bt=>(some (bt.1,bt.2.1,bt.2.2,true))) else(none)) else(none)) else(none))) else((Fr.f k c d a0 a1 a2 a3).bind fun bt525=>(if bt525.2.2=true then((Gu.f k bt525.1 bt525.2.1 c d).bind fun cn3=>(F4.j0 k cn3 c d ps bt525.1 bt525.2.1)) else(F4.j0 k true c d ps bt525.1 bt525.2.1)))) _
  rw[hw.out]
  by_cases hA:a0=4/\a1=0/\a2=0/\a3=0
  · refine evPos (by simp[hA]) ?_
    by_cases hp:0 < ps.length
    · rw[if_pos ⟨hA,hp⟩]
      refine evNeg (by omega) (evPos (by omega) (evPos (by omega) (evPos (by omega) ?_)))
      have e1:(ps.length:Int) - 1=((ps.length - 1:Nat):Int):=by omega
      rw[e1,Int.toNat_natCast]
      have hmem:Jd ps ((ps.length - 1:Nat):Int) ∈ ps:=by rw[rT];exact getD_mem _ ps _ (by omega)
      have hk:=h.2.2 _ hmem
      refine Ev.bind (iDcopy ⟨hk.1,by rw[List.length_take];omega,fun x hx=>?_⟩) (Ev.now _)
      have:=h.2.2 x (List.mem_of_mem_take hx)
      exact⟨this.1,by rw[this.2,hk.2]⟩
    · obtain⟨rfl,rfl,rfl,rfl⟩:=hA
      rw[if_neg (fun z=>hp z.2),if_pos (.inl made4)]
      exact evPos (by omega) (Ev.now _)
  · rw[if_neg (fun z=>hA z.1)]
    refine evNeg (by simpa using hA) ?_
    obtain⟨c',d',b,e,hy,hn⟩:=nextBook (a0:=a0) (a1:=a1) (a2:=a2) (a3:=a3) h.1
    refine Ev.bind e ?_
    have stop:Ev (fun k=>F4.j0 k true c d ps c' d') (c,d,ps,false):=by
      refine Ev.step (fun k=>by rw[F4.j0]) ?_
      exact evPos rfl (Ev.now _)
    by_cases hb:b=true
    · have hm:=hy hb
      have hok:=made_ok h.1 hm
      obtain⟨t,ht,es⟩:=sameB hok.1 c d
      refine evPos hb (Ev.bind es ?_)
      by_cases hs:c'=c/\d'=d
      · rw[if_pos (.inr (by rw[hm,hs.1,hs.2])),ht.2 hs]
        exact stop
      · have htf:t=false:=by
          cases t with
          | false=>rfl
          | true=>exact absurd (ht.1 rfl) hs
        rw[if_neg (fun z=>z.elim (fun z=>by rw[hm] at z;cases z) (fun z=>hs (by rw[hm] at z;have:=Option.some.inj z;exact⟨congrArg Prod.fst this,congrArg Prod.snd this⟩))),htf,hm]
        refine Ev.step (fun k=>by rw[F4.j0]) ?_
        have hlen:(ps ++ [(⟨c,d⟩:B)]).length=ps.length + 1:=by simp
        have hD:DeskP c' d' (push c d ps):=by
          refine⟨hok.1,(push_len h8).1,fun x hx=>?_⟩
          rcases push_mem hx with hx|rfl
          · have:=h.2.2 x hx
            exact⟨this.1,by rw[this.2];exact hok.2.symm⟩
          · exact⟨h.1,hok.2.symm⟩
        refine evNeg (by decide) (evPos (by omega) (evBind0 rfl ?_))
        show Ev _ (c',d',push c d ps,true)
        by_cases h9:ps.length + 1 > 8
        · refine evPos (by omega) (evPos (by omega) ?_)
          have e1:push c d ps=(ps ++ [(⟨c,d⟩:B)]).drop (1:Int).toNat:=by unfold push;rw[if_pos h9];rfl
          rw[<- e1]
          exact Ev.bind (iDcopy hD) (Ev.now _)
        · refine evNeg (by omega) ?_
          have e1:push c d ps=ps ++ [(⟨c,d⟩:B)]:=by unfold push;rw[if_neg h9]
          rw[<- e1]
          exact Ev.bind (iDcopy hD) (Ev.now _)
    · rw[if_pos (.inl (hn hb))]
      exact evNeg hb stop
theorem iDeskDo:Ev (fun k=>Gv.f k c d ps a0 a1 a2 a3) (dd c d ps a0 a1 a2 a3):=by
  unfold Gv.f
  by_cases h:DeskP c d ps
  · exact Ev.bind ((isDesk c d ps).yes h) (evPos rfl (Ev.bind (iDo h) (Ev.now _)))
  · refine Ev.bind ((isDesk c d ps).no h) (evNeg (by decide) (evEq (Ev.now _) ?_))
    unfold dd
    rw[if_neg h]
end
end Go.Proofs.Ytfooakkhkehpiaa.Id
namespace Go.Proofs.Ytfooakkhkehpiaa.Nn
open Go.RowKit Go.Proofs.Ytfooakkhkehpiaa.PU Go.Proofs.Ytfooakkhkehpiaa.Qh Go.Proofs.Ytfooakkhkehpiaa.Bk Go.Proofs.Ytfooakkhkehpiaa.Mx Go.Proofs.Ytfooakkhkehpiaa.Nt Go.Proofs.Ytfooakkhkehpiaa.Ow Go.Proofs.YtfooakkhkehpiaaW.PrintWords Go.Proofs.YtfooakkhkehpiaaW.PrintMore
set_option linter.unusedVariables false
set_option linter.unusedSimpArgs false
open Go.Proofs.Ytfooakkhkehpiaa.Ne (nt cs)
variable {c:List Int} {d:List (List Int)}
theorem nt_step (h:BookP c d) {j:Nat} (hj:j < c.length):∀m:Nat,m<=c.length->cs (netL c d) m j - sm (Jc (netL c d) (j:Int)) m=cs d m j - sm (Jc d (j:Int)) m
  | 0,_=>by simp[cs,sm]
  | m + 1,hm=>by
    have ih:=nt_step h hj m (by omega)
    have hml:m < c.length:=by omega
    have e1:db (netL c d) m j=db d m j - mn (db d m j) (db d j m):=net_get h hml hj
    have e2:rd (Jc (netL c d) (j:Int)) (m:Int)=db d j m - mn (db d j m) (db d m j):=net_get h hj hml
    have e3:=mn_comm (db d m j) (db d j m)
    simp only[cs,sm]
    rw[e1,e2]
    show _=cs d m j + db d m j - (sm (Jc d (j:Int)) m + db d j m)
    omega
theorem nets_net (h:BookP c d):rowF c.length (nt c (netL c d))=rowF c.length (nt c d):=rowF_congr (fun j hj=>nt_step h hj c.length (Nat.le_refl _))
end Go.Proofs.Ytfooakkhkehpiaa.Nn
namespace Go.Proofs.Ytfooakkhkehpiaa.Dr
open Go.RowKit Go.Proofs.Ytfooakkhkehpiaa.PU Go.Proofs.Ytfooakkhkehpiaa.Qh Go.Proofs.YtfooakkhkehpiaaW.PrintWords Go.Proofs.YtfooakkhkehpiaaW.PrintMore
set_option linter.unusedVariables false
set_option linter.unusedSimpArgs false
theorem xor_nonneg (a b:Int) (ha:0<=a) (ha2:a < 4611686018427387904) (hb:0<=b) (hb2:b < 4611686018427387904):0<=Go.bits .xor .i64 a b:=by
  obtain⟨m,rfl⟩:=Int.eq_ofNat_of_zero_le ha
  obtain⟨n,rfl⟩:=Int.eq_ofNat_of_zero_le hb
  have hm:m < 2 ^ 62:=by omega
  have hn:n < 2 ^ 62:=by omega
  have hx:m ^^^ n < 2 ^ 62:=Nat.xor_lt_two_pow hm hn
  have e1:m % 2 ^ 64=m:=Nat.mod_eq_of_lt (by omega)
  have e2:n % 2 ^ 64=n:=Nat.mod_eq_of_lt (by omega)
  have:Go.bits .xor .i64 (m:Int) (n:Int)=((m ^^^ n:Nat):Int):=by
    simp only[Go.bits,BitVec.ofInt_natCast,BitVec.toNat_xor,BitVec.toNat_ofNat]
    show IntKind.i64.wrap (((m % 2 ^ 64) ^^^ (n % 2 ^ 64):Nat):Int)=_
    rw[e1,e2,IntKind.wrap_i64]
    omega
  rw[this]
  omega
def Bytes (b:List Int):Prop:=b.length<=2000/\∀x ∈ b,0<=x/\x<=255
theorem rd_byte {b:List Int} (h:Bytes b) (i:Int):0<=rd b i/\rd b i<=255:=by
  unfold rd
  by_cases hi:i.toNat < b.length
  · exact h.2 _ (getD_mem 0 b _ hi)
  · simp[List.getD_eq_getElem?_getD,List.getElem?_eq_none (by omega:b.length<=i.toNat)]
theorem pick {b:List Int} (hb:Bytes b) (p n:Int) (h0:0<=p) (h1:p<=1000000000) :
    ∃v,0<=v/\(1<=n->v < n)/\(n < 1->v=0)/\Ev (fun k=>Fa.f k b p n) (v,p + 1):=by
  have hp:wrap64 (p + 1)=p + 1:=w64 (by omega) (by omega)
  have hp1:wrap64 (p + 1 - 1)=p:=by rw[w64 (by omega) (by omega)];omega
  unfold Fa.f
  rw[hp]
  by_cases hn:n < 1
  · refine⟨0,by omega,by omega,fun _=>rfl,evPos hn ?_⟩
    refine Ev.step (fun k=>by rw[Fa.j0]) ?_
    exact evPos rfl (Ev.now _)
  by_cases hz:b.length=0
  · refine⟨0,by omega,by omega,fun h=>absurd h hn,evNeg hn ?_⟩
    refine Ev.step (fun k=>by rw[Fa.j0]) ?_
    exact evPos (by simp[hz]) (Ev.now _)
  have hlen:0 < (b.length:Int):=by omega
  by_cases hlt:p < (b.length:Int)
  · have hr:=rd_byte hb p
    refine⟨Int.tmod (rd b p) n,Int.tmod_nonneg _ hr.1,fun _=>Int.tmod_lt_of_pos _ (by omega),fun h=>absurd h hn,evNeg hn ?_⟩
    refine Ev.step (fun k=>by rw[Fa.j0]) ?_
    rw[hp1]
    refine evNeg (fun h=>by have:=beq_iff_eq.mp h;omega) (evPos hlt (evPos h0 (evNeg (by omega) ?_)))
    rw[w64 (by omega) (by omega)]
    exact Ev.now _
  · have hp7:wrap64 (p * 7)=p * 7:=w64 (by omega) (by omega)
    have hp73:wrap64 (p * 7 + 3)=p * 7 + 3:=w64 (by omega) (by omega)
    have hp29:wrap64 (p * 29)=p * 29:=w64 (by omega) (by omega)
    have i1:=Int.tmod_nonneg (b.length:Int) h0
    have i2:=Int.tmod_lt_of_pos p hlen
    have j1:=Int.tmod_nonneg (b.length:Int) (show 0<=p * 7 + 3 by omega)
    have j2:=Int.tmod_lt_of_pos (p * 7 + 3) hlen
    have d1:0<=Int.tdiv p (b.length:Int):=Int.tdiv_nonneg h0 (by omega)
    have d2:Int.tdiv p (b.length:Int)<=p:=Int.tdiv_le_self _ h0
    have r1:=rd_byte hb (Int.tmod p (b.length:Int))
    have r2:=rd_byte hb (Int.tmod (p * 7 + 3) (b.length:Int))
    have key:∃x,0<=x/\x < 4611686018427387904/\wrap64 ((wrap64 ((wrap64 ((wrap64 ((wrap64 (rd b (Int.tmod p (b.length:Int)))) * 131)) + (wrap64 ((wrap64 (rd b (Int.tmod (p * 7 + 3) (b.length:Int)))) * 1117)))) + (p * 29))) + (wrap64 ((wrap64 (Int.tdiv p (b.length:Int))) * 53)))=x:=by
      generalize rd b (Int.tmod p (b.length:Int))=u at *
      generalize rd b (Int.tmod (p * 7 + 3) (b.length:Int))=v at *
      generalize Int.tdiv p (b.length:Int)=d at *
      have e1:wrap64 u=u:=w64 (by omega) (by omega)
      have e2:wrap64 v=v:=w64 (by omega) (by omega)
      have e3:wrap64 d=d:=w64 (by omega) (by omega)
      have e4:wrap64 (u * 131)=u * 131:=w64 (by omega) (by omega)
      have e5:wrap64 (v * 1117)=v * 1117:=w64 (by omega) (by omega)
      have e6:wrap64 (d * 53)=d * 53:=w64 (by omega) (by omega)
      have e7:wrap64 (u * 131 + v * 1117)=u * 131 + v * 1117:=w64 (by omega) (by omega)
      have e8:wrap64 (u * 131 + v * 1117 + p * 29)=u * 131 + v * 1117 + p * 29:=w64 (by omega) (by omega)
      refine⟨u * 131 + v * 1117 + p * 29 + d * 53,by omega,by omega,?_⟩
      rw[e1,e2,e3,e4,e5,e6,e7,e8]
      exact w64 (by omega) (by omega)
    obtain⟨x,hx0,hx1,hx⟩:=key
    have t0:0<=Int.tdiv x 64:=Int.tdiv_nonneg hx0 (by omega)
    have t1:Int.tdiv x 64<=x:=Int.tdiv_le_self _ hx0
    have ht:wrap64 (Int.tdiv x 64)=Int.tdiv x 64:=w64 (by omega) (by omega)
    have hq:=xor_nonneg x (Int.tdiv x 64) hx0 hx1 t0 (by omega)
    refine⟨Int.tmod (Go.bits .xor .i64 x (Int.tdiv x 64)) n,Int.tmod_nonneg _ hq,fun _=>Int.tmod_lt_of_pos _ (by omega),fun h=>absurd h hn,evNeg hn ?_⟩
    refine Ev.step (fun k=>by rw[Fa.j0]) ?_
    rw[hp1,hp7,hp73,hp29,hx,ht]
    refine evNeg (fun h=>by have:=beq_iff_eq.mp h;omega) (evNeg hlt (evNeg (by omega) (evPos i1 (evPos i2 (evPos j1 (evPos j2 (evNeg (by omega) (Ev.now _))))))))
theorem open_ (l:List Int) (hu:∀x ∈ l,(Lit.int .u8 x).wf=true):∃b,Bytes b/\Gx.f l=some (b,0):=by
  have hb:∀x ∈ l,0<=x/\x<=255:=fun x hx=>by
    have:=hu x hx
    simp[Lit.wf,IntKind.min,IntKind.max,IntKind.bits,IntKind.signed] at this
    omega
  unfold Gx.f
  by_cases h:(l.length:Int) > 2000
  · exact⟨l.take 2000,⟨by rw[List.length_take];omega,fun x hx=>hb x (List.mem_of_mem_take hx)⟩,by rw[if_pos h,if_pos (by omega)]⟩
  · exact⟨l,⟨by omega,hb⟩,by rw[if_neg h]⟩
end Go.Proofs.Ytfooakkhkehpiaa.Dr
namespace Go.Proofs.Ytfooakkhkehpiaa.Db
open Go.RowKit Go.Proofs.Ytfooakkhkehpiaa.PU Go.Proofs.Ytfooakkhkehpiaa.Qh Go.Proofs.Ytfooakkhkehpiaa.Dr Go.Proofs.YtfooakkhkehpiaaW.PrintWords Go.Proofs.YtfooakkhkehpiaaW.PrintMore
set_option linter.unusedVariables false
set_option linter.unusedSimpArgs false
def EvX {α:Type} (g:Nat->Option α) (P:α->Prop):Prop:=∃r,P r/\Ev g r
section
variable {α β:Type} {P Q:α->Prop} {g f:Nat->Option α}
theorem EvX.imp (h:EvX g P) (k:∀r,P r->Q r):EvX g Q:=by obtain⟨r,h1,h2⟩:=h;exact⟨r,k r h1,h2⟩
theorem EvX.now {r:α} (h:P r):EvX (fun _=>some r) P:=⟨r,h,Ev.now _⟩
theorem EvX.step {g f:Nat->Option α} (h:∀k,g (k + 1)=f k) (k:EvX f P):EvX g P:=by obtain⟨r,h1,h2⟩:=k;exact⟨r,h1,Ev.step h h2⟩
theorem EvX.pos {c:Prop} [Decidable c] (h:c) (k:EvX g P):EvX (fun n=>if c then g n else f n) P:=by obtain⟨r,h1,h2⟩:=k;exact⟨r,h1,evPos h h2⟩
theorem EvX.neg {c:Prop} [Decidable c] (h:¬ c) (k:EvX f P):EvX (fun n=>if c then g n else f n) P:=by obtain⟨r,h1,h2⟩:=k;exact⟨r,h1,evNeg h h2⟩
theorem EvX.bind {g:Nat->Option β} {f:Nat->β->Option α} {a:β} (h:Ev g a) (k:EvX (fun n=>f n a) P):EvX (fun n=>(g n).bind (f n)) P:=by obtain⟨r,h1,h2⟩:=k;exact⟨r,h1,Ev.bind h h2⟩
theorem EvX.bind0 {g:Option β} {f:Nat->β->Option α} {a:β} (h:g=some a) (k:EvX (fun n=>f n a) P):EvX (fun n=>g.bind (f n)) P:=by obtain⟨r,h1,h2⟩:=k;exact⟨r,h1,evBind0 h h2⟩
theorem EvX.bindX {R:β->Prop} {g:Nat->Option β} {f:Nat->β->Option α} (h:EvX g R) (k:∀a,R a->EvX (fun n=>f n a) P):EvX (fun n=>(g n).bind (f n)) P:=by
  obtain⟨a,h1,h2⟩:=h;exact EvX.bind h2 (k a h1)
end
theorem podd {b:List Int} (hb:Bytes b) (p n:Int) (hn:1<=n) (hn2:n<=1000) (h0:0<=p) (h1:p<=1000000000):∃v,Ev (fun k=>F7.f k b p n) (v,p + 1):=by
  obtain⟨x,_,_,_,hx⟩:=pick hb p n h0 h1
  unfold F7.f
  exact⟨_,evPos (by omega) (Ev.bind hx (Ev.now _))⟩
end Go.Proofs.Ytfooakkhkehpiaa.Db
namespace Go.Proofs.Ytfooakkhkehpiaa.Dz
open Go.RowKit Go.Proofs.Ytfooakkhkehpiaa.PU Go.Proofs.Ytfooakkhkehpiaa.Qh Go.Proofs.Ytfooakkhkehpiaa.Bk Go.Proofs.Ytfooakkhkehpiaa.Dr Go.Proofs.Ytfooakkhkehpiaa.Db Go.Proofs.Ytfooakkhkehpiaa.Dk Go.Proofs.Ytfooakkhkehpiaa.Dd Go.Proofs.YtfooakkhkehpiaaW.PrintWords Go.Proofs.YtfooakkhkehpiaaW.PrintMore
set_option linter.unusedVariables false
set_option linter.unusedSimpArgs false
theorem rL2 (xs:List (List Int)) (i:Nat):Jc xs (i:Int)=xs.getD i []:=rfl
theorem odd0 (b:List Int) (p:Int):Ev (fun k=>F7.f k b p 0) (false,p):=by
  unfold F7.f
  exact evNeg (by omega) (Ev.now _)
def RowK (i j:Nat) (row:List Int):Prop:=row.length=j/\(∀j':Nat,j' < j->0<=rd row (j':Int)/\rd row (j':Int)<=9)/\(i < j->rd row (i:Int)=0)
theorem RowK.snoc {i j:Nat} {row:List Int} (h:RowK i j row) {v:Int} (h0:0<=v) (h9:v<=9) (hz:i=j->v=0):RowK i (j + 1) (row ++ [v]):=by
  have hl:=h.1
  refine⟨by simp[hl],fun j' hj=>?_,fun hi=>?_⟩
  · rw[rd_app]
    by_cases e:j' < row.length
    · rw[if_pos e];exact h.2.1 j' (by omega)
    · rw[if_neg e,if_pos (by omega)];exact⟨h0,h9⟩
  · rw[rd_app]
    by_cases e:i < row.length
    · rw[if_pos e];exact h.2.2 (by omega)
    · rw[if_neg e,if_pos (by omega)];exact hz (by omega)
theorem k_l1 {b:List Int} (hb:Bytes b) (m:Nat) (hm:m<=4) (kind:Int) (i:Nat) (hi:i < m) (cs:List Int) (ds:List (List Int)) (hds:ds.length=i) (P:List Int × List (List Int) × Int->Prop) (p0:Int) (hp0:0<=p0) (hp1:p0<=100000)
    (hR:∀(row:List Int) (p:Int),RowK i m row->p0<=p->p<=p0 + 2 * m->EvX (fun k=>Fm.l0 k 0 (m:Int) kind ((i + 1:Nat):Int) b p cs (ds ++ [row])) P) :
    ∀(e j:Nat) (row:List Int) (p:Int),m - j=e->j<=m->RowK i j row->p0<=p->p<=p0 + 2 * j ->
    EvX (fun k=>Fm.l1 k 0 (m:Int) kind (i:Int) row (j:Int) b p cs ds) P:=by
  have hs:Gy (wrap64 ((i:Int) + 1)=((i + 1:Nat):Int)):=⟨wsucc hi (by omega)⟩
  intro e
  induction e with
  | zero=>
    intro j row p he hj hr h0 h1
    obtain rfl:j=m:=by omega
    refine EvX.step (fun k=>by rw[Fm.l1]) ?_
    rw[hs.out]
    exact EvX.neg (by omega) (EvX.pos (by omega) (hR row p hr h0 h1))
  | succ e ih=>
    intro j row p he hj hr h0 h1
    have hlt:j < m:=by omega
    have hj1:Gy (wrap64 ((j:Int) + 1)=((j + 1:Nat):Int)):=⟨wsucc hlt (by omega)⟩
    refine EvX.step (fun k=>by rw[Fm.l1]) ?_
    rw[hj1.out]
    have hc:(j:Int) < (m:Int):=by clear ih hR;omega
    refine EvX.pos hc ?_
    have go:∀(v p':Int),0<=v->v<=9->(i=j->v=0)->p0<=p'->p'<=p0 + 2 * ((j + 1:Nat):Int)->EvX (fun k=>if row.length < 17592186044416 then Fm.l1 k 0 (m:Int) kind (i:Int) (row ++ [v]) ((j + 1:Nat):Int) b p' cs ds else none) P:=by
      intro v p' v0 v9 vz h2 h3
      have hl:row.length < 17592186044416:=by have:=hr.1;clear hj1 hs ih hR;omega
      have q1:m - (j + 1)=e:=by clear hj1 hs ih hR;omega
      exact EvX.pos hl (ih (j + 1) (row ++ [v]) p' q1 hlt (hr.snoc v0 v9 vz) h2 h3)
    by_cases hij:(i:Int)=(j:Int)
    · exact EvX.pos hij (go 0 p (by omega) (by omega) (fun _=>rfl) h0 (by omega))
    · refine EvX.neg hij ?_
      obtain⟨v,_,_,_,hv⟩:=pick hb p 3 (by omega) (by omega)
      refine EvX.bind hv ?_
      by_cases h2:v > 0
      · refine EvX.pos h2 ?_
        obtain⟨v2,a0,a1,_,hv2⟩:=pick hb (p + 1) 10 (by omega) (by omega)
        exact EvX.bind hv2 (go v2 (p + 1 + 1) a0 (by have:=a1 (by omega);omega) (fun z=>absurd (by rw[z]) hij) (by omega) (by omega))
      · exact EvX.neg h2 (go 0 (p + 1) (by omega) (by omega) (fun _=>rfl) (by omega) (by omega))
def BkK (m i:Nat) (cs:List Int) (ds:List (List Int)):Prop:=cs.length=i/\ds.length=i/\(∀j:Nat,j < i->0<=rd cs (j:Int)/\rd cs (j:Int)<=20)/\∀j:Nat,j < i->RowK j m (Jc ds (j:Int))
theorem BkK.book {m:Nat} {cs:List Int} {ds:List (List Int)} (h:BkK m m cs ds) (h1:1<=m) (h4:m<=4):BookP cs ds:=by
  obtain⟨a,b,c,d⟩:=h
  refine⟨by omega,by omega,by omega,fun i hi=>?_⟩
  have hr:=d i (by omega)
  exact⟨(c i (by omega)).1,(c i (by omega)).2,by rw[hr.1,a],hr.2.2 (by omega),fun j hj=>hr.2.1 j (by omega)⟩
theorem k_l0 {b:List Int} (hb:Bytes b) (m:Nat) (hm1:1<=m) (hm:m<=4) (kind:Int) (hk0:0<=kind) (hk1:kind < 3):∀(e i:Nat) (cs:List Int) (ds:List (List Int)) (p:Int),m - i=e->i<=m ->
    BkK m i cs ds->0<=p->p<=1000 + 10 * i ->
    EvX (fun k=>Fm.l0 k 0 (m:Int) kind (i:Int) b p cs ds) (fun r=>BookP r.1 r.2.1/\p<=r.2.2/\r.2.2<=p + 10 * e):=by
  intro e
  induction e with
  | zero=>
    intro i cs ds p he hi hK h0 h1
    obtain rfl:i=m:=by omega
    refine EvX.step (fun k=>by rw[Fm.l0]) ?_
    exact EvX.neg (by omega) (EvX.bind (odd0 b p) (EvX.neg (by simp) (EvX.now ⟨hK.book hm1 hm,by show p<=p;omega,by show p<=_;omega⟩)))
  | succ e ih=>
    intro i cs ds p he hi hK h0 h1
    have hlt:i < m:=by omega
    obtain⟨hcs,hds,hcv,hrw⟩:=hK
    refine EvX.step (fun k=>by rw[Fm.l0]) ?_
    refine EvX.pos (by omega) ?_
    obtain⟨v,v0,v1,_,hv⟩:=pick hb p 4 h0 (by omega)
    refine EvX.bind hv ?_
    obtain⟨w,w0,w1,_,hw⟩:=pick hb (p + 1) 21 (by omega) (by omega)
    have v3:=v1 (by omega)
    have w3:=w1 (by omega)
    refine EvX.bind hw (EvX.bind0 rfl (EvX.pos hk0 (EvX.pos (by simp;omega) (EvX.pos (by omega) ?_))))
    have hval:0<=rd [0,v,w] kind/\rd [0,v,w] kind<=20:=by
      rcases(by omega:kind=0 ∨ kind=1 ∨ kind=2) with z|z|z <;> subst z
      · exact⟨by show(0:Int)<=0;omega,by show(0:Int)<=20;omega⟩
      · exact⟨by show(0:Int)<=v;omega,by show v<=20;omega⟩
      · exact⟨by show(0:Int)<=w;omega,by show w<=20;omega⟩
    refine k_l1 hb m hm kind i hlt _ ds hds _ (p + 1 + 1) (by omega) (by omega) ?_ _ 0 [] (p + 1 + 1) rfl (by omega) ⟨rfl,fun j' hj=>by omega,fun z=>by omega⟩ (by omega) (by omega)
    intro row q hr hq0 hq1
    refine(ih (i + 1) _ (ds ++ [row]) q (by omega) (by omega) ⟨by simp;omega,by simp;omega,fun j hj=>?_,fun j hj=>?_⟩ (by omega) (by omega)).imp ?_
    · rw[rd_app]
      by_cases e':j < cs.length
      · rw[if_pos e'];exact hcv j (by omega)
      · rw[if_neg e',if_pos (by omega)];exact hval
    · rw[rL2,List.getD_eq_getElem?_getD,List.getElem?_append]
      by_cases hjl:j < ds.length
      · rw[if_pos hjl]
        have:=hrw j (by omega)
        rw[rL2,List.getD_eq_getElem?_getD] at this
        exact this
      · rw[if_neg hjl]
        have:j=ds.length:=by omega
        subst this
        rw[hds]
        simpa using hr
    · intro r hr
      exact⟨hr.1,by have:=hr.2.1;omega,by have:=hr.2.2;omega⟩
theorem book0 {b:List Int} (hb:Bytes b) (p:Int) (h0:0<=p) (h1:p<=100):EvX (fun k=>Fm.f k b p 0) (fun r=>BookP r.1 r.2.1/\p<=r.2.2/\r.2.2<=p + 50):=by
  unfold Fm.f
  obtain⟨v,v0,v1,_,hv⟩:=pick hb p 6 h0 (by omega)
  have v2:=v1 (by omega)
  obtain⟨w,w0,w1,_,hw⟩:=pick hb (p + 1) 3 (by omega) (by omega)
  have w2:=w1 (by omega)
  refine EvX.bind0 rfl (EvX.bind hv (EvX.pos v0 (EvX.pos (by simp;omega) (EvX.bind hw ?_))))
  have hm:∃m:Nat,1<=m/\m<=4/\rd [1,2,3,3,4,4] v=(m:Int):=by
    rcases(by omega:v=0 ∨ v=1 ∨ v=2 ∨ v=3 ∨ v=4 ∨ v=5) with z|z|z|z|z|z <;> subst z
    · exact⟨1,by omega,by omega,rfl⟩
    · exact⟨2,by omega,by omega,rfl⟩
    · exact⟨3,by omega,by omega,rfl⟩
    · exact⟨3,by omega,by omega,rfl⟩
    · exact⟨4,by omega,by omega,rfl⟩
    · exact⟨4,by omega,by omega,rfl⟩
  obtain⟨m,m1,m4,em⟩:=hm
  show EvX (fun k=>Fm.l0 k 0 (rd [1,2,3,3,4,4] v) w 0 b (p + 1 + 1) [] []) _
  rw[em]
  refine(k_l0 hb m m1 m4 w w0 (by omega) m 0 [] [] (p + 1 + 1) rfl (by omega) ⟨rfl,rfl,fun j hj=>by omega,fun j hj=>by omega⟩ (by omega) (by omega)).imp ?_
  intro r hr
  exact⟨hr.1,by have:=hr.2.1;omega,by have:=hr.2.2;omega⟩
theorem deed1 {b:List Int} (hb:Bytes b) (p q:Int) (h0:0<=p) (hq:q<=p) (h1:p<=q + 7) (hq0:q<=1000) (a0 a1 a2 a3:Int):EvX (fun k=>Fh.j1 k b p a0 a1 a2 a3) (fun r=>q<=r.2.2.2.2/\r.2.2.2.2<=q + 9):=by
  refine EvX.step (fun k=>by rw[Fh.j1]) ?_
  obtain⟨v,hv⟩:=podd hb p 40 (by omega) (by omega) h0 (by omega)
  refine EvX.bind hv ?_
  by_cases hvt:v=true
  · obtain⟨w,_,_,_,hw⟩:=pick hb (p + 1) 7 (by omega) (by omega)
    exact EvX.pos hvt (EvX.bind hw (EvX.now ⟨by show q<=p + 1 + 1;omega,by show p + 1 + 1<=_;omega⟩))
  · exact EvX.neg hvt (EvX.now ⟨by show q<=p + 1;omega,by show p + 1<=_;omega⟩)
theorem deed0 {b:List Int} (hb:Bytes b) (p q:Int) (h0:0<=p) (hq:q<=p) (h1:p<=q + 5) (hq0:q<=1000) (a0 a1 a2 a3:Int):EvX (fun k=>Fh.j0 k b p a0 a1 a2 a3) (fun r=>q<=r.2.2.2.2/\r.2.2.2.2<=q + 9):=by
  refine EvX.step (fun k=>by rw[Fh.j0]) ?_
  obtain⟨v,hv⟩:=podd hb p 40 (by omega) (by omega) h0 (by omega)
  refine EvX.bind hv ?_
  by_cases hvt:v=true
  · obtain⟨w,_,_,_,hw⟩:=pick hb (p + 1) 120 (by omega) (by omega)
    exact EvX.pos hvt (EvX.bind hw (deed1 hb _ q (by omega) (by omega) (by omega) hq0 _ _ _ _))
  · exact EvX.neg hvt (deed1 hb _ q (by omega) (by omega) (by omega) hq0 _ _ _ _)
theorem deed {b:List Int} (hb:Bytes b) (p:Int) (h0:0<=p) (h1:p<=1000) (c:List Int) (d:List (List Int)) (ps:List B):EvX (fun k=>Fh.f k b p c d ps) (fun r=>p<=r.2.2.2.2/\r.2.2.2.2<=p + 9):=by
  unfold Fh.f
  obtain⟨v,v0,v1,_,hv⟩:=pick hb p 9 h0 (by omega)
  have v2:=v1 (by omega)
  obtain⟨w,_,_,_,hw⟩:=pick hb (p + 1) 60 (by omega) (by omega)
  refine EvX.bind0 rfl (EvX.bind hv (EvX.pos v0 (EvX.pos (by simp;omega) (EvX.bind hw ?_))))
  obtain⟨x,_,_,_,hx⟩:=pick hb (p + 1 + 1) (mx (c.length:Int) 1) (by omega) (by omega)
  by_cases hA:wrap64 (rd [0,0,1,1,1,1,2,3,4] v + wrap64 (wrap64 (Int.tdiv w 59) * 5))=0
  · obtain⟨y,_,_,_,hy⟩:=pick hb (p + 1 + 1 + 1) 21 (by omega) (by omega)
    exact EvX.pos hA (EvX.bind hx (EvX.bind hy (deed0 hb _ p (by omega) (by omega) (by omega) h1 _ _ _ _)))
  refine EvX.neg hA ?_
  by_cases hB:wrap64 (rd [0,0,1,1,1,1,2,3,4] v + wrap64 (wrap64 (Int.tdiv w 59) * 5))=1
  · obtain⟨y,_,_,_,hy⟩:=pick hb (p + 1 + 1 + 1) (mx (c.length:Int) 1) (by omega) (by omega)
    obtain⟨z,_,_,_,hz⟩:=pick hb (p + 1 + 1 + 1 + 1) 10 (by omega) (by omega)
    exact EvX.pos hB (EvX.bind hx (EvX.bind hy (EvX.bind hz (deed0 hb _ p (by omega) (by omega) (by omega) h1 _ _ _ _))))
  · exact EvX.neg hB (deed0 hb _ p (by omega) (by omega) (by omega) h1 _ _ _ _)
def SmD (r:List Int × List (List Int) × List B × Int) (p m:Int):Prop:=r.2.2.1.length<=5/\p<=r.2.2.2/\r.2.2.2<=p + m
theorem desk_l0 {b:List Int} (hb:Bytes b) (n:Int) (hn:1<=n) (hn2:n<=1000):∀(m:Nat) (c:List Int) (d:List (List Int)) (ps:List B) (p:Int),DeskP c d ps->ps.length + m<=4->0<=p->p<=500 - 9 * m ->
    EvX (fun k=>Ft.l0 k n (m:Int) b p c d ps) (fun r=>SmD r p (9 * m + 2)):=by
  intro m
  induction m with
  | zero=>
    intro c d ps p h hm h0 h1
    refine EvX.step (fun k=>by rw[Ft.l0]) ?_
    refine EvX.neg (by omega) ?_
    obtain⟨v,hv⟩:=podd hb p n hn hn2 h0 (by omega)
    refine EvX.bind hv ?_
    by_cases hvt:v=true
    · refine EvX.pos hvt ?_
      obtain⟨w,_,_,_,hw⟩:=pick hb (p + 1) 3 (by omega) (by omega)
      refine EvX.bind hw ?_
      have hc1:=h.1.1
      by_cases e0:w=0
      · exact EvX.pos e0 (EvX.pos (by omega) (EvX.now ⟨by show ps.length<=5;omega,by show p<=p + 1 + 1;omega,by show p + 1 + 1<=_;omega⟩))
      refine EvX.neg e0 ?_
      by_cases e1:w=1
      · exact EvX.pos e1 (EvX.pos (by omega) (EvX.pos (by omega) (EvX.now ⟨by show(ps ++ [_]).length<=5;simp;omega,by show p<=p + 1 + 1;omega,by show p + 1 + 1<=_;omega⟩)))
      · exact EvX.neg e1 (EvX.now ⟨by show([]:List B).length<=5;simp,by show p<=p + 1 + 1;omega,by show p + 1 + 1<=_;omega⟩)
    · exact EvX.neg hvt (EvX.now ⟨by show ps.length<=5;omega,by show p<=p + 1;omega,by show p + 1<=_;omega⟩)
  | succ m ih=>
    intro c d ps p h hm h0 h1
    have hw:Gy (wrap64 (((m + 1:Nat):Int) - 1)=(m:Int)):=⟨by rw[w64 (by omega) (by omega)];omega⟩
    refine EvX.step (fun k=>by rw[Ft.l0]) ?_
    rw[hw.out]
    refine EvX.pos (by omega) (EvX.bindX (deed hb p h0 (by omega) c d ps) (fun a ha=>?_))
    have hq0:=ha.1
    have hq1:=ha.2
    have hdd:=dd_ok (a0:=a.1) (a1:=a.2.1) (a2:=a.2.2.1) (a3:=a.2.2.2.1) h
    refine EvX.bind (sDo (by have:=h.2.1;omega)) ?_
    have fin:∀r,SmD r a.2.2.2.2 (9 * m + 2)->SmD r p (9 * ((m + 1:Nat):Int) + 2):=fun r hr=>⟨hr.1,by have:=hr.2.1;omega,by have:=hr.2.2;omega⟩
    by_cases hok:(dd c d ps a.1 a.2.1 a.2.2.1 a.2.2.2.1).2.2.2=true
    · exact EvX.pos hok ((ih _ _ _ a.2.2.2.2 hdd.1 (by have:=hdd.2.2;omega) (by omega) (by omega)).imp fin)
    · exact EvX.neg hok ((ih c d ps a.2.2.2.2 h (by omega) (by omega) (by omega)).imp fin)
theorem desk {b:List Int} (hb:Bytes b) (n:Int) (hn:1<=n) (hn2:n<=1000) (p:Int) (h0:0<=p) (h1:p<=100):EvX (fun k=>Ft.f k b p n) (fun r=>SmD r p 100):=by
  unfold Ft.f
  refine EvX.bindX (book0 hb p h0 h1) (fun r hr=>?_)
  have r1:=hr.2.1
  have r2:=hr.2.2
  obtain⟨v,v0,v1,_,hv⟩:=pick hb r.2.2 5 (by omega) (by omega)
  have v2:=v1 (by omega)
  refine EvX.bind hv ?_
  obtain⟨m,rfl⟩:=Int.eq_ofNat_of_zero_le v0
  refine(desk_l0 hb n hn hn2 m r.1 r.2.1 [] (r.2.2 + 1) ⟨hr.1,by simp,fun x hx=>by simp at hx⟩ (by simp;omega) (by omega) (by omega)).imp ?_
  intro q hq
  exact⟨hq.1,by have:=hq.2.1;omega,by have:=hq.2.2;omega⟩
end Go.Proofs.Ytfooakkhkehpiaa.Dz
namespace Go.Proofs.Ytfooakkhkehpiaa.Al
open Go.RowKit Go.Proofs.Ytfooakkhkehpiaa.PU Go.Proofs.Ytfooakkhkehpiaa.Qh Go.Proofs.YtfooakkhkehpiaaW.PrintWords Go.Proofs.YtfooakkhkehpiaaW.PrintMore
set_option linter.unusedVariables false
set_option linter.unusedSimpArgs false
theorem alive:Ev (fun k=>Gn.f k) true:=Ev.of (fun k=>Gn.mono k) (k:=12) (by decide +kernel)
end Go.Proofs.Ytfooakkhkehpiaa.Al
namespace Go.Proofs.Ytfooakkhkehpiaa.Fdd
open Go.RowKit Go.Proofs.Ytfooakkhkehpiaa.PU Go.Proofs.Ytfooakkhkehpiaa.Qh Go.Proofs.Ytfooakkhkehpiaa.Bk Go.Proofs.Ytfooakkhkehpiaa.Mx Go.Proofs.Ytfooakkhkehpiaa.Nt Go.Proofs.Ytfooakkhkehpiaa.Dk Go.Proofs.Ytfooakkhkehpiaa.Sk Go.Proofs.Ytfooakkhkehpiaa.Dd Go.Proofs.Ytfooakkhkehpiaa.Id Go.Proofs.Ytfooakkhkehpiaa.Dz Go.Proofs.YtfooakkhkehpiaaW.PrintWords Go.Proofs.YtfooakkhkehpiaaW.PrintMore
set_option linter.unusedVariables false
set_option linter.unusedSimpArgs false
open Go.Proofs.Ytfooakkhkehpiaa.Ne (nt)
theorem iOk (c:List Int) (d:List (List Int)) (ps:List B):EvB (fun k=>Gk.f k c d ps) (DeskP c d ps):=by
  unfold Gk.f
  obtain⟨b,hb,e⟩:=isDesk c d ps
  exact⟨b,hb,Ev.bind e (Ev.now _)⟩
section
variable {c:List Int} {d:List (List Int)} {ps:List B} {a0 a1 a2 a3:Int}
theorem sameD_l (h:DeskP c d ps):∀(e i:Nat),ps.length - i=e->i<=ps.length->Ev (fun k=>Fp.l0 k (i:Int) c d ps c d ps) true:=by
  have h8:=h.2.1
  intro e
  induction e with
  | zero=>
    intro i he hi
    refine Ev.step (fun k=>by rw[Fp.l0]) ?_
    exact evNeg (by omega) (Ev.bind (sameOk h.1) (Ev.now _))
  | succ e ih=>
    intro i he hi
    have hlt:i < ps.length:=by omega
    have hs:wrap64 ((i:Int) + 1)=((i + 1:Nat):Int):=wsucc hlt (by omega)
    have hmem:Jd ps (i:Int) ∈ ps:=by rw[rT];exact getD_mem _ ps i hlt
    refine Ev.step (fun k=>by rw[Fp.l0]) ?_
    rw[hs]
    exact evPos (by omega) (evPos (by omega) (evPos (by omega) (Ev.bind (sameOk (h.2.2 _ hmem).1) (evPos rfl (ih (i + 1) (by omega) (by omega))))))
theorem sameD (h:DeskP c d ps):Ev (fun k=>Fp.f k c d ps c d ps) true:=by
  unfold Fp.f
  exact evPos rfl (sameD_l h _ 0 rfl (by omega))
theorem same0:Ev (fun k=>Fp.f k [] [] ([]:List B) [] [] []) true:=by
  unfold Fp.f
  refine evPos rfl (Ev.step (fun k=>by rw[Fp.l0]) ?_)
  exact evNeg (by simp) (Ev.bind (sameB [] [] (by simp) (by simp) (fun i hi=>by simp at hi)) (Ev.now _))
theorem same0x (c:List Int) (d:List (List Int)) (ps:List B):∃b,Ev (fun k=>Fp.f k [] [] ([]:List B) c d ps) b:=by
  unfold Fp.f
  by_cases hp:(([]:List B).length:Int)=(ps.length:Int)
  · have hI:∃b,Ev (fun k=>Fy.f k [] c) b:=by
      unfold Fy.f
      by_cases hc:(([]:List Int).length:Int)=(c.length:Int)
      · exact⟨true,evPos hc (Ev.step (fun k=>by rw[Fy.l0]) (evNeg (by simp) (Ev.now _)))⟩
      · exact⟨false,evNeg hc (Ev.now _)⟩
    have hR:∃b,Ev (fun k=>Gb.f k [] d) b:=by
      unfold Gb.f
      by_cases hc:(([]:List (List Int)).length:Int)=(d.length:Int)
      · exact⟨true,evPos hc (Ev.step (fun k=>by rw[Gb.l0]) (evNeg (by simp) (Ev.now _)))⟩
      · exact⟨false,evNeg hc (Ev.now _)⟩
    have hB:∃b,Ev (fun k=>Gi.f k [] [] c d) b:=by
      unfold Gi.f
      obtain⟨b,hb⟩:=hI
      obtain⟨b2,hb2⟩:=hR
      cases b with
      | true=>exact⟨b2,Ev.bind hb (evPos rfl (Ev.bind hb2 (Ev.now _)))⟩
      | false=>exact⟨false,Ev.bind hb (evNeg (by decide) (Ev.now _))⟩
    obtain⟨b,hb⟩:=hB
    exact⟨b,evPos hp (Ev.step (fun k=>by rw[Fp.l0]) (evNeg (by simp) (Ev.bind hb (Ev.now _))))⟩
  · exact⟨false,evNeg hp (Ev.now _)⟩
theorem dd_cases (h:DeskP c d ps):(∃x:B,dd c d ps a0 a1 a2 a3=(x.f0,x.f1,ps.take (ps.length - 1),true)/\a0=4) ∨ dd c d ps a0 a1 a2 a3=(c,d,ps,false) ∨ ∃c' d',made c d a0 a1 a2 a3=some (c',d')/\dd c d ps a0 a1 a2 a3=(c',d',push c d ps,true):=by
  unfold dd
  rw[if_pos h]
  by_cases h1:(a0=4/\a1=0/\a2=0/\a3=0)/\0 < ps.length
  · rw[if_pos h1];exact .inl ⟨_,rfl,h1.1.1⟩
  rw[if_neg h1]
  by_cases h2:made c d a0 a1 a2 a3=none ∨ made c d a0 a1 a2 a3=some (c,d)
  · rw[if_pos h2];exact .inr (.inl rfl)
  rw[if_neg h2]
  right;right
  cases hm:made c d a0 a1 a2 a3 with
  | none=>exact absurd (.inl hm) h2
  | some x=>exact⟨x.1,x.2,rfl,rfl⟩
theorem made_2 {x:List Int × List (List Int)} (h:made c d 2 a1 a2 a3=some x):x=(c,netL c d):=by
  unfold made at h
  rw[if_neg (by omega),if_neg (by omega)] at h
  split at h
  · exact(Option.some.inj h).symm
  · rw[if_neg (by omega)] at h;cases h
theorem made_3 {x:List Int × List (List Int)} (h:made c d 3 a1 a2 a3=some x):x=(c,(without c d).1):=by
  unfold made at h
  rw[if_neg (by omega),if_neg (by omega),if_neg (by omega)] at h
  split at h
  · exact(Option.some.inj h).symm
  · cases h
theorem dd_back {c':List Int} {d':List (List Int)} (h:DeskP c d ps) (h8:ps.length < 8) (h':DeskP c' d' (push c d ps)):dd c' d' (push c d ps) 4 0 0 0=(c,d,ps,true):=by
  have e1:push c d ps=ps ++ [(⟨c,d⟩:B)]:=by unfold push;rw[if_neg (by omega)]
  have hl:(push c d ps).length=ps.length + 1:=by rw[e1];simp
  unfold dd
  rw[if_pos h',if_pos ⟨⟨rfl,rfl,rfl,rfl⟩,by omega⟩,hl,e1,rT]
  simp[List.getD_eq_getElem?_getD]
theorem fin1 (b:Bool) (h:DeskP c d ps) {c':List Int} {d':List (List Int)} {ps':List B} (h':DeskP c' d' ps') {x:List Int × List (List Int) × List B × Bool} (hx:a0=4 ∨ 8<=ps.length ∨ (x=(c,d,ps,true)/\b=true)):Ev (fun k=>Fl.j1 k b false c d ps a0 a1 a2 a3 c' d' ps' x.1 x.2.1 x.2.2.1) true:=by
  refine Ev.step (fun k=>by rw[Fl.j1]) ?_
  refine evNeg (by decide) (Ev.bind ((iOk c' d' ps').yes h') (evPos rfl ?_))
  by_cases k4:a0=4
  · exact evPos k4 (Ev.now _)
  refine evNeg k4 ?_
  by_cases k8:(ps.length:Int) ≥ 8
  · exact evPos k8 (Ev.now _)
  refine evNeg k8 ?_
  rcases hx with z|z|z
  · exact absurd z k4
  · omega
  · obtain⟨rfl,rfl⟩:=z
    exact evPos rfl (Ev.bind (sameD h) (Ev.now _))
end
theorem holds:Fl.Pure:=by
  intro l0 _ _ hu
  refine Ev.rounds (g:=fun k=>Fl.f k l0) ?_
  unfold Fl.f
  by_cases a:(l0.length:Int) > 1048576
  · exact evPos a (Ev.now _)
  refine evNeg a ?_
  obtain⟨b,hb,ho⟩:=Dr.open_ l0 hu
  obtain⟨⟨c,d,ps,q⟩,hr,hdk⟩:=desk hb 12 (by omega) (by omega) 0 (by omega) (by omega)
  have hps:ps.length<=5:=hr.1
  have hq0:0<=q:=hr.2.1
  have hq1:q<=0 + 100:=hr.2.2
  obtain⟨⟨a0,a1,a2,a3,q2⟩,_,hde⟩:=deed hb q hq0 (by omega) c d ps
  have hd:Ev (fun k=>Gs.f k l0) (c,d,ps,a0,a1,a2,a3):=by
    unfold Gs.f
    exact evBind0 ho (Ev.bind hdk (Ev.bind hde (Ev.now _)))
  refine Ev.bind hd (Ev.bind iDeskDo (Ev.bind (sDo (show ps.length<=4611686018427387904 by omega)) ?_))
  have hbb:((dd c d ps a0 a1 a2 a3).2.2.2 != (dd c d ps a0 a1 a2 a3).2.2.2)=false:=by simp
  show Ev (fun k=>(Fp.f k (dd c d ps a0 a1 a2 a3).1 (dd c d ps a0 a1 a2 a3).2.1 (dd c d ps a0 a1 a2 a3).2.2.1 (dd c d ps a0 a1 a2 a3).1 (dd c d ps a0 a1 a2 a3).2.1 (dd c d ps a0 a1 a2 a3).2.2.1).bind fun t=>if t=true then(Fl.j0 k (dd c d ps a0 a1 a2 a3).2.2.2 ((dd c d ps a0 a1 a2 a3).2.2.2 != (dd c d ps a0 a1 a2 a3).2.2.2) c d ps a0 a1 a2 a3 (dd c d ps a0 a1 a2 a3).1 (dd c d ps a0 a1 a2 a3).2.1 (dd c d ps a0 a1 a2 a3).2.2.1) else _) true
  rw[hbb]
  by_cases h:DeskP c d ps
  · have hk:=(dd_ok (a0:=a0) (a1:=a1) (a2:=a2) (a3:=a3) h).1
    have hlen:=(dd_ok (a0:=a0) (a1:=a1) (a2:=a2) (a3:=a3) h).2.1
    refine Ev.bind (sameD hk) (evPos rfl (Ev.step (fun k=>by rw[Fl.j0]) (evNeg (by decide) ?_)))
    rcases dd_cases (a0:=a0) (a1:=a1) (a2:=a2) (a3:=a3) h with⟨x,hx,e4⟩|hx | ⟨c',d',hm,hx⟩
    · rw[hx] at hk |-
      refine evPos rfl (Ev.bind iDeskDo (evNeg (by omega) (evNeg (by omega) ?_)))
      exact fin1 _ h hk (.inl e4)
    · rw[hx] at hk |-
      exact evNeg (show ¬ false=true by decide) (Ev.bind (sameD h) (evPos rfl (Ev.bind Al.alive (Ev.now _))))
    · rw[hx] at hk |-
      refine evPos rfl (Ev.bind iDeskDo ?_)
      have hend:a0=4 ∨ 8<=ps.length ∨ (dd c' d' (push c d ps) 4 0 0 0=(c,d,ps,true)/\(dd c' d' (push c d ps) 4 0 0 0).2.2.2=true):=by
        by_cases h8:ps.length < 8
        · right;right
          rw[dd_back h h8 hk]
          exact⟨rfl,rfl⟩
        · exact .inr (.inl (by omega))
      have same:∀ {d2:List (List Int)},BookP c d2->rowF c.length (nt c d2)=rowF c.length (nt c d)->∀ {f:Nat->Bool->Option Bool},Ev (fun k=>f k true) true->Ev (fun k=>(Gj.f k c d2).bind fun x=>(Gj.f k c d).bind fun y=>(Fy.f k x y).bind fun t=>f k t) true:=by
        intro d2 h2 he f hf
        have n1:=Ne.nets h2
        rw[he] at n1
        have h4:=h.1.2.1
        exact Ev.bind n1 (Ev.bind (Ne.nets h.1) (Ev.bind (sameI _ (by rw[rowF_len];omega)) hf))
      by_cases k2:a0=2
      · subst k2
        obtain⟨rfl,rfl⟩:c'=c/\d'=netL c d:=by have:=made_2 hm;exact⟨congrArg Prod.fst this,congrArg Prod.snd this⟩
        exact evPos rfl (same (net_ok h.1) (Nn.nets_net h.1) (f:=fun k t=>Fl.j1 k (dd c' (netL c' d) (push c' d ps) 4 0 0 0).2.2.2 (!t) c' d ps 2 a1 a2 a3 c' (netL c' d) (push c' d ps) (dd c' (netL c' d) (push c' d ps) 4 0 0 0).1 (dd c' (netL c' d) (push c' d ps) 4 0 0 0).2.1 (dd c' (netL c' d) (push c' d ps) 4 0 0 0).2.2.1) (fin1 _ h hk hend))
      refine evNeg k2 ?_
      by_cases k3:a0=3
      · subst k3
        obtain⟨rfl,rfl⟩:c'=c/\d'=(without c d).1:=by have:=made_3 hm;exact⟨congrArg Prod.fst this,congrArg Prod.snd this⟩
        exact evPos rfl (same (without_ok h.1) (Wi.w_nets h.1) (f:=fun k t=>Fl.j1 k (dd c' (without c' d).1 (push c' d ps) 4 0 0 0).2.2.2 (!t) c' d ps 3 a1 a2 a3 c' (without c' d).1 (push c' d ps) (dd c' (without c' d).1 (push c' d ps) 4 0 0 0).1 (dd c' (without c' d).1 (push c' d ps) 4 0 0 0).2.1 (dd c' (without c' d).1 (push c' d ps) 4 0 0 0).2.2.1) (fin1 _ h hk hend))
      exact evNeg k3 (fin1 _ h hk hend)
  · have hz:dd c d ps a0 a1 a2 a3=([],[],[],false):=by unfold dd;rw[if_neg h]
    rw[hz]
    refine Ev.bind same0 (evPos rfl (Ev.step (fun k=>by rw[Fl.j0]) (evNeg (by decide) (evNeg (by decide) ?_))))
    obtain⟨t,ht⟩:=same0x c d ps
    refine Ev.bind ht ?_
    by_cases htt:t=true
    · exact evPos htt (Ev.bind Al.alive (Ev.now _))
    · exact evNeg htt (Ev.bind ((iOk c d ps).no h) (evNeg (by decide) (Ev.bind Al.alive (Ev.now _))))
end Go.Proofs.Ytfooakkhkehpiaa.Fdd
namespace Go.Proofs.Ytfooakkhkehpiaa.Pure
open Go.RowKit Go.Proofs.Ytfooakkhkehpiaa.PU
theorem FnDeskDo:Fl.Pure:=Go.Proofs.Ytfooakkhkehpiaa.Fdd.holds
end Go.Proofs.Ytfooakkhkehpiaa.Pure
namespace Go.Proofs.YtfooakkhkehpiaaW.PrintWords
open Go.ChangeShapes Go.WideShapes
theorem sized_ints {H:Type} {enc:TypeId × Value->H} {P:Program} {W:World} {base:Nat} {spare:Nat->Bool} {held:Bool} {t e:TypeId} {k:IntKind} {a:Option Addr} {len cap:Nat} {d:DataW H} {ps:List MemPlace} {ts:List TypeId} {ds:List (DataW H)} {j:Nat}
    (hsz:(DataW.weightsEach P ts ds).all (· <= reachBytes)=true) (ht:ts[j]? = some t) (hd:ds[j]? = some d) (hu:P.underlying t=some (.slice e)) (he:P.underlying e=some (.int k)) (hc:P.cellsOf e=1) {B:Nat} (hB:P.bytesOf e=B)
    (h:DataW.Trod enc P W base spare held t (.slice a len cap) d ps):len * B<=140737488351232:=by
  obtain⟨fuel,hf⟩:=h
  rcases open_ints hu he hc hf with⟨hcs,_⟩ | ⟨x,l,c,zs,hcs,_,hl,_,hz,hx,_,_⟩
  · simp[Value.cells] at hcs
    obtain⟨rfl,rfl,rfl⟩:=hcs
    simp
  · simp[Value.cells] at hcs
    obtain⟨rfl,rfl,rfl⟩:=hcs
    obtain⟨hx,_⟩:=Prod.mk.inj hx
    subst hx
    have z:=sized_slice hsz ht hd hu
    rw[hB] at z
    have hl2:len<=zs.length:=by
      rw[hz]
      split
      · exact hl
      · exact Nat.le_refl _
    have h1:(lits (H:=H) k (zs.take len)).length + (lits (H:=H) k (zs.drop len)).length=zs.length:=by
      simp[lits]
      omega
    rw[h1] at z
    exact Nat.le_trans (Nat.mul_le_mul_right _ hl2) z
end Go.Proofs.YtfooakkhkehpiaaW.PrintWords
namespace Go.Proofs.Ytfooakkhkehpiaa.fnDeskDo
open Go.ChangeShapes Go.WideShapes Go.ChangeAt Go.RowKit
open Go.ChangeMaps (open_string shut_string)
set_option linter.unusedVariables false
theorem own:ownKnob Try.prog.godebug=none:=by kernel_rfl
theorem laidOut:laidOutB Try.prog=true:=by kernel_rfl
def IsRow (k:IntKind) (w:World) (a:Option Addr) (len cap:Nat) (zs:List Int):Prop:=
  (a=none/\len=0/\cap=0/\zs=[]) ∨
  ∃x,a=some x/\len<=cap/\cap<=maxLen/\zs.length=cap/\(∀i,i < zs.length->w.cell? (x.add i)=some (.int k (zs.getD i 0)))/\∀n ∈ zs,(Lit.int k n).wf=true
set_option maxRecDepth 100000 in
theorem lifted (os:Os) (started:os.Started) (H:Type) (enc:TypeId × Value->H) :
    ReturnsInHanded {} Try.checked os 12 .any (Rows.fnDeskDoSpec.pre6 enc Try.prog Try.f12 Rows.fnDeskDoRow.domain false) (Rows.fnDeskDoSpec.post enc Try.prog Try.f12 false true false false):=by
  refine returnsInHanded_of_change_sized (C:=Try.checked) own started (by kernel_rfl) Try.func12
    (ChangeSpec.witness6 (enc:=enc) (C:=Try.checked) false ⟨#[],#[.slice none 0 0],[]⟩ 8 (by kernel_rfl) (by kernel_rfl) (by kernel_rfl) (by kernel_rfl)) ?_
  intro W base args ds gs before hval0 hW hcnd hsz0 _
  have hsz:(DataW.weightsEach Try.prog (Try.f12.params.toList ++ Rows.fnDeskDoSpec.plain.varTypes Try.prog) (ds ++ gs)).all (· <= reachBytes)=true:=hsz0
  have hval:∀(j:Nat) t v,Try.f12.params[j]? = some t->args[j]? = some v->Value.okWide Try.prog W .any base t v:=hval0
  have hW':=hW
  obtain⟨p,q,hA0,hV,rfl,hfz,hnd⟩:=hW
  have hA:DataW.TrodAll enc Try.prog W 0 (fun _=>true) true Try.f12.params.toList args.toList ds p:=hA0
  rw[Try.params12] at hA hval hsz
  obtain⟨v0,vs0,d0,ds0,p0,q0,hargs,rfl,rfl,h0,r0⟩:=trodAll_cons hA
  obtain⟨rfl,rfl,rfl⟩:=trodAll_nil r0
  obtain rfl:args=#[v0]:=by cases args;simp_all
  obtain⟨rfl,rfl⟩:=trodVars_none hV
  obtain⟨a0,len0,cap0,rfl⟩:=okWide_slice Try.underlying33 (hval 0 33 v0 rfl rfl)
  have k0:=h0
  have lt0:∀x ∈ p0,x.block < W.heap.size:=by obtain⟨m,hm⟩:=k0;exact DataW.trod_lt m _ _ _ hm
  obtain⟨z0,w0⟩:∃zs,IsRow .u8 W a0 len0 cap0 zs:=by
    obtain⟨fuel,hf⟩:=h0
    rcases open_ints Try.underlying33 Try.underlying5 (by kernel_rfl) hf with⟨hcs,_⟩ | ⟨x,l,c,zs,hcs,_,hl,hm,hz,_,hcell,hwz⟩
    · simp[Value.cells] at hcs
      obtain⟨rfl,rfl,rfl⟩:=hcs
      exact⟨[], .inl ⟨rfl,rfl,rfl,rfl⟩⟩
    · simp[Value.cells] at hcs
      obtain⟨rfl,rfl,rfl⟩:=hcs
      exact⟨zs, .inr ⟨_,rfl,hl,hm,by simpa using hz,hcell,hwz⟩⟩
  have y0:len0 * 1<=140737488351232:=Go.Proofs.YtfooakkhkehpiaaW.PrintWords.sized_ints hsz (j:=0) (t:=33) rfl rfl Try.underlying33 Try.underlying5 (by kernel_rfl) (by kernel_rfl) h0
  clear hA0 hval0 hsz0 hsz
  refine(PU.Fl.walk Pure.FnDeskDo a0 len0 cap0 z0 W w0 y0).mono fun e W' ⟨he,bel⟩=>?_
  subst he
  exact⟨_,rfl,_,_,_,[],_,[],hW',trodAll_mk1 (shut_bool Try.underlying4 _),(trodAll_cons_mk (Below.trod laidOut (by kernel_rfl) (of_decide_eq_true (by kernel_rfl)) k0 bel lt0) trodAll_mk0),rfl,bel.frame _,fun h=>by cases h⟩
theorem over:Rows.fnDeskDoRow.holds Try.pinned (OpenSpec.ofChange Rows.fnDeskDoSpec):=
  OpenClaim.holds_of_wide 12 Try.f12 rfl rfl rfl rfl rfl rfl rfl ⟨rfl,rfl,rfl,rfl,rfl⟩ rfl rfl rfl rfl rfl (by kernel_rfl) Try.func12 (by kernel_rfl)
    (of_decide_eq_true (by kernel_rfl)) (by unfold Func.isWrapper;first|(rw[if_pos (by decide +kernel)];kernel_rfl)|(rw[if_neg (by decide +kernel)];exact⟨rfl,rfl⟩))
    (fun os started H enc _=>lifted os started H enc)
theorem proved:Rows.FnDeskDoSaid:=over
end Go.Proofs.Ytfooakkhkehpiaa.fnDeskDo
namespace Go.Proofs.Ytfooakkhkehpiaa
theorem fnDeskDo_holds:Rows.FnDeskDoSaid:=fnDeskDo.proved
end Go.Proofs.Ytfooakkhkehpiaa
