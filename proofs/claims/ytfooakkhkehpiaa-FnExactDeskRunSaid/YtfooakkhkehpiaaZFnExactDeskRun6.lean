/- FnExactDeskRun: for every input the law holds, and each argument reads as it read before. No condition. -/
import Derived.Test.YtfooakkhkehpiaaZFnExactDeskRun1
import Derived.Test.YtfooakkhkehpiaaZFnExactDeskRun2
import Derived.Test.YtfooakkhkehpiaaZFnExactDeskRun3
import Derived.Test.YtfooakkhkehpiaaZFnExactDeskRun4
import Derived.Test.YtfooakkhkehpiaaZFnExactDeskRun5
import Derived.Test.YtfooakkhkehpiaaRows
import Derived.ProofKit
import Derived.OpenShut
import Derived.ShutString
import Derived.ChangeOld
import Derived.SizedLaws
namespace Go.Proofs.Ytfooakkhkehpiaa.CrE
open Go.RowKit Go.Proofs.Ytfooakkhkehpiaa.PE Go.Proofs.Ytfooakkhkehpiaa.Qh Go.Proofs.Ytfooakkhkehpiaa.BkE Go.Proofs.Ytfooakkhkehpiaa.MxE Go.Proofs.YtfooakkhkehpiaaW.PrintWords Go.Proofs.YtfooakkhkehpiaaW.PrintMore
set_option linter.unusedVariables false
set_option linter.unusedSimpArgs false
theorem wpred {n:Nat} (h:0 < n) (hn:n<=4611686018427387904):wrap64 ((n:Int) - 1)=((n - 1:Nat):Int):=by rw[w64 (by omega) (by omega)];omega
def la (p:List Int):Int:=rd p ((p.length - 1:Nat):Int)
def self (d:List (List Int)) (p:List Int):List (List Int):=if 1 < p.length/\0 < rd (Jr d (la p)) (rd p 0) then[p] else[]
def rest (F:List Int->List (List Int)) (d:List (List Int)) (p:List Int):Nat->Nat->List (List Int)
  | 0,_=>[]
  | e + 1,j=>(if rd (Jr d (la p)) (j:Int)=0 ∨ (j:Int) ∈ p then[] else F (p ++ [(j:Int)])) ++ rest F d p e (j + 1)
def P (n:Nat) (d:List (List Int)):Nat->List Int->List (List Int)
  | 0,_=>[]
  | m + 1,p=>self d p ++ rest (P n d m) d p (n - ((rd p 0).toNat + 1)) ((rd p 0).toNat + 1)
def PathP (n:Nat) (d:List (List Int)) (p:List Int):Prop:=
  0 < p.length/\p.Nodup/\(∀x ∈ p,rd p 0<=x/\0<=x/\x < (n:Int))/\∀i:Nat,i + 1 < p.length->0 < rd (Jr d (rd p (i:Int))) (rd p ((i + 1:Nat):Int))
theorem pigeon:∀(n:Nat) (p:List Int),p.Nodup->(∀x ∈ p,0<=x/\x < (n:Int))->p.length<=n
  | 0,p,_,h=>by
    cases p with
    | nil=>simp
    | cons a r=>have:=h a List.mem_cons_self;omega
  | n + 1,p,hd,h=>by
    by_cases hm:(n:Int) ∈ p
    · have h1:=pigeon n (p.erase (n:Int)) (hd.erase _) (fun x hx=>by
        have h2:=h x (List.mem_of_mem_erase hx)
        have h3:x≠(n:Int):=(List.Nodup.mem_erase_iff hd).1 hx |>.1
        omega)
      have h2:=List.length_erase_of_mem hm
      omega
    · have h1:=pigeon n p hd (fun x hx=>by
        have h2:=h x hx
        have h3:x≠(n:Int):=fun e=>hm (e ▸ hx)
        omega)
      omega
theorem rd_mem {p:List Int} {i:Nat} (h:i < p.length):rd p (i:Int) ∈ p:=by rw[rd_get p i h];exact List.getElem_mem h
theorem mem_rd {p:List Int} {x:Int} (h:x ∈ p):∃i:Nat,i < p.length/\rd p (i:Int)=x:=by
  obtain⟨i,hi,e⟩:=List.mem_iff_getElem.mp h
  exact⟨i,hi,by rw[rd_get p i hi];exact e⟩
theorem rd0 (p:List Int):rd p 0=rd p ((0:Nat):Int):=rfl
theorem la_mem {p:List Int} (h:0 < p.length):la p ∈ p:=rd_mem (by omega)
section
variable {n:Nat} {d:List (List Int)} {p:List Int}
theorem PathP.len (h:PathP n d p):p.length<=n:=pigeon n p h.2.1 (fun x hx=>(h.2.2.1 x hx).2)
theorem PathP.head (h:PathP n d p):0<=rd p 0/\rd p 0 < (n:Int):=by
  have:=h.2.2.1 (rd p 0) (by rw[rd0];exact rd_mem h.1)
  exact⟨this.2.1,this.2.2⟩
theorem PathP.last (h:PathP n d p):0<=la p/\la p < (n:Int):=by
  have:=h.2.2.1 (la p) (la_mem h.1)
  exact⟨this.2.1,this.2.2⟩
theorem PathP.one {i:Nat} (hi:i < n):PathP n d [(i:Int)]:=
  ⟨by simp,by simp,fun x hx=>by rw[List.mem_singleton.1 hx];exact⟨Int.le_refl _,by omega,by omega⟩,fun k hk=>by simp at hk⟩
theorem PathP.snoc (h:PathP n d p) {j:Nat} (hj:rd p 0 < (j:Int)) (hn:j < n) (hm:(j:Int) ∉ p) (he:0 < rd (Jr d (la p)) (j:Int)):PathP n d (p ++ [(j:Int)]):=by
  have h0:rd (p ++ [(j:Int)]) 0=rd p 0:=by rw[rd0,rd_app,if_pos h.1];rfl
  refine⟨by simp,?_,fun x hx=>?_,fun i hi=>?_⟩
  · rw[List.nodup_append]
    exact⟨h.2.1,by simp,fun a ha b hb e=>hm (by rw[List.mem_singleton.1 hb] at e;exact e ▸ ha)⟩
  · rw[h0]
    rcases List.mem_append.1 hx with hx|hx
    · exact h.2.2.1 x hx
    · rw[List.mem_singleton.1 hx];exact⟨by omega,by omega,by omega⟩
  · rw[List.length_append,List.length_singleton] at hi
    rw[rd_app,rd_app,if_pos (by omega)]
    by_cases hl:i + 1 < p.length
    · rw[if_pos hl];exact h.2.2.2 i hl
    · rw[if_neg hl,if_pos (by omega)]
      have:i=p.length - 1:=by omega
      rw[this]
      exact he
end
def CirP (n:Nat) (d:List (List Int)) (q:List Int):Prop:=PathP n d q/\1 < q.length/\0 < rd (Jr d (la q)) (rd q 0)
theorem mem_rest {F:List Int->List (List Int)} {d:List (List Int)} {p:List Int} {y:List Int}:∀(e j:Nat),y ∈ rest F d p e j->∃j':Nat,j<=j'/\j' < j + e/\rd (Jr d (la p)) (j':Int)≠0/\(j':Int) ∉ p/\y ∈ F (p ++ [(j':Int)])
  | 0,j,h=>by simp[rest] at h
  | e + 1,j,h=>by
    rw[rest] at h
    rcases List.mem_append.1 h with h|h
    · by_cases hc:rd (Jr d (la p)) (j:Int)=0 ∨ (j:Int) ∈ p
      · rw[if_pos hc] at h;simp at h
      · rw[if_neg hc] at h
        exact⟨j,by omega,by omega,fun z=>hc (.inl z),fun z=>hc (.inr z),h⟩
    · obtain⟨j',h1,h2,h3⟩:=mem_rest e (j + 1) h
      exact⟨j',by omega,by omega,h3⟩
theorem row_ge {c:List Int} {d:List (List Int)} (h:BookP c d) {i j:Int} (hi:0<=i/\i < (c.length:Int)) (hj:0<=j/\j < (c.length:Int)):0<=rd (Jr d i) j/\rd (Jr d i) j<=9:=by
  obtain⟨i,rfl⟩:=Int.eq_ofNat_of_zero_le hi.1
  obtain⟨j,rfl⟩:=Int.eq_ofNat_of_zero_le hj.1
  exact(h.2.2.2 i (by omega)).2.2.2.2 j (by omega)
theorem row_len {c:List Int} {d:List (List Int)} (h:BookP c d) {i:Int} (hi:0<=i/\i < (c.length:Int)):(Jr d i).length=c.length:=by
  obtain⟨i,rfl⟩:=Int.eq_ofNat_of_zero_le hi.1
  exact(h.2.2.2 i (by omega)).2.2.1
theorem mem_P {c:List Int} {d:List (List Int)} (h:BookP c d) {y:List Int}:∀(m:Nat) (p:List Int),PathP c.length d p->y ∈ P c.length d m p->CirP c.length d y
  | 0,p,_,hy=>by simp[P] at hy
  | m + 1,p,hp,hy=>by
    rw[P] at hy
    rcases List.mem_append.1 hy with hy|hy
    · unfold self at hy
      by_cases hc:1 < p.length/\0 < rd (Jr d (la p)) (rd p 0)
      · rw[if_pos hc] at hy
        rw[List.mem_singleton.1 hy]
        exact⟨hp,hc.1,hc.2⟩
      · rw[if_neg hc] at hy;simp at hy
    · obtain⟨j,h1,h2,h3,h4,h5⟩:=mem_rest _ _ hy
      have hh:=hp.head
      have hjn:j < c.length:=by omega
      have hge:=row_ge h hp.last (j:=(j:Int)) ⟨by omega,by omega⟩
      exact mem_P h m _ (hp.snoc (by omega) hjn h4 (by omega)) h5
theorem rest_len {F:List Int->List (List Int)} {d:List (List Int)} {p:List Int} {B:Nat} (hF:∀q,(F q).length<=B):∀(e j:Nat),(rest F d p e j).length<=e * B
  | 0,j=>by simp[rest]
  | e + 1,j=>by
    have ih:=rest_len hF (d:=d) (p:=p) e (j + 1)
    rw[rest,List.length_append,Nat.succ_mul]
    have:(if rd (Jr d (la p)) (j:Int)=0 ∨ (j:Int) ∈ p then[] else F (p ++ [(j:Int)])).length<=B:=by
      split
      · simp
      · exact hF _
    omega
theorem P_len {n:Nat} (hn:n<=4) (d:List (List Int)):∀(m:Nat) (p:List Int),(P n d m p).length<=5 ^ m
  | 0,p=>by simp[P]
  | m + 1,p=>by
    have h1:=rest_len (P_len hn d m) (d:=d) (p:=p) (n - ((rd p 0).toNat + 1)) ((rd p 0).toNat + 1)
    have h2:(self d p).length<=1:=by unfold self;split <;> simp
    have h3:(n - ((rd p 0).toNat + 1)) * 5 ^ m<=4 * 5 ^ m:=Nat.mul_le_mul_right _ (by omega)
    have h4:1<=5 ^ m:=Nat.one_le_pow _ _ (by omega)
    rw[P,List.length_append,Nat.pow_succ]
    omega
theorem inL (p:List Int) (j:Int) (i:Nat) (h:∀i':Nat,i' < i->rd p (i':Int)≠j) (hi:p.length<=i):j ∉ p:=fun hm=>by
  obtain⟨k,hk,e⟩:=mem_rd hm
  exact h k (by omega) e
section
variable {c:List Int} {d:List (List Int)}
theorem paths (h:BookP c d):∀(m:Nat) (p:List Int),PathP c.length d p->c.length + 1<=m + p.length->m<=4->Ev (fun k=>Fa.f k c d p) (P c.length d m p)
  | 0,p,hp,hm,_=>by have:=hp.len;omega
  | m + 1,p,hp,hm,hm4=>by
    have h4:=h.2.1
    have hdl:=h.2.2.1
    have hpl:=hp.len
    have hp0:=hp.1
    have hh:=hp.head
    have hl:=hp.last
    have hrl:=row_len h hl
    have hlw:Jc (wrap64 ((p.length:Int) - 1)=((p.length - 1:Nat):Int)):=⟨wpred hp0 (by omega)⟩
    have hla:rd p ((p.length - 1:Nat):Int)=la p:=rfl
    have h5:5 ^ m<=125:=by
      have:m<=3:=by omega
      calc 5 ^ m<=5 ^ 3:=Nat.pow_le_pow_right (by omega) this
        _=125:=rfl
    obtain⟨a,ha⟩:=Int.eq_ofNat_of_zero_le hh.1
    have haw:Jc (wrap64 (rd p 0 + 1)=((a + 1:Nat):Int)):=⟨by rw[ha];exact wsucc (n:=c.length) (by omega) (by omega)⟩
-- the banks that may follow
    have loop:∀(e j:Nat) (acc:List (List Int)),c.length - j=e->j<=c.length->a < j->acc.length + e * 5 ^ m<=1000->Ev (fun k=>Fa.l0 k p acc (la p) (j:Int) c d) (acc ++ rest (P c.length d m) d p e j):=by
      intro e
      induction e with
      | zero=>
        intro j acc he hj _ _
        refine Ev.step (fun k=>by rw[Fa.l0]) ?_
        exact evNeg (by omega) (evEq (Ev.now _) (by simp[rest]))
      | succ e ih=>
        intro j acc he hj haj hacc
        have hlt:j < c.length:=by omega
        have hj1:Jc (wrap64 ((j:Int) + 1)=((j + 1:Nat):Int)):=⟨wsucc hlt (by omega)⟩
        have hmul:acc.length + (e * 5 ^ m + 5 ^ m)<=1000:=by have z:=hacc;rw[Nat.succ_mul] at z;exact z
        have h1p:1<=5 ^ m:=Nat.one_le_pow _ _ (by omega)
        refine Ev.step (fun k=>by rw[Fa.l0]) ?_
        rw[hj1.out]
        refine evPos (by omega) (evPos hl.1 (evPos (by omega) (evPos (by omega) (evPos (by omega) ?_))))
        by_cases hz:rd (Jr d (la p)) (j:Int)=0
        · refine evPos hz (evEq (ih (j + 1) acc (by omega) (by omega) (by omega) (by omega)) ?_)
          rw[rest,if_pos (.inl hz),List.nil_append]
        · refine evNeg hz ?_
          have inner:∀(f i:Nat),p.length - i=f->i<=p.length->(∀i':Nat,i' < i->rd p (i':Int)≠(j:Int))->Ev (fun k=>Fa.l1 k p acc (la p) (j:Int) (i:Int) c d) (acc ++ rest (P c.length d m) d p (e + 1) j):=by
            intro f
            induction f with
            | zero=>
              intro i hf hi hno
              have hmem:=inL p (j:Int) i hno (by omega)
              have hge:=row_ge h hl (j:=(j:Int)) ⟨by omega,by omega⟩
              have hps:=hp.snoc (j:=j) (by omega) hlt hmem (by omega)
              refine Ev.step (fun k=>by rw[Fa.l1]) ?_
              rw[hj1.out]
              refine evNeg (by omega) (evBind0 rfl (evPos (by simp;omega) (evBind0 rfl (evBind0 rfl (evPos (by simp;omega) ?_)))))
              rw[List.nil_append]
              have hlen:(p ++ [(j:Int)]).length=p.length + 1:=by simp
              have hPl:=P_len h4 d m (p ++ [(j:Int)])
              refine Ev.bind (paths h m _ hps (by omega) (by omega)) (evPos (by omega) ?_)
              refine evEq (ih (j + 1) _ (by omega) (by omega) (by omega) (by rw[List.length_append];omega)) ?_
              rw[rest,if_neg (fun z=>z.elim hz hmem),List.append_assoc]
            | succ f ih2=>
              intro i hf hi hno
              have hi1:Jc (wrap64 ((i:Int) + 1)=((i + 1:Nat):Int)):=⟨wsucc (n:=p.length) (by omega) (by omega)⟩
              refine Ev.step (fun k=>by rw[Fa.l1]) ?_
              rw[hj1.out,hi1.out]
              refine evPos (by omega) (evPos (by omega) ?_)
              by_cases hij:rd p (i:Int)=(j:Int)
              · refine evPos hij (evEq (ih (j + 1) acc (by omega) (by omega) (by omega) (by omega)) ?_)
                rw[rest,if_pos (.inr (hij ▸ rd_mem (by omega))),List.nil_append]
              · refine evNeg hij (ih2 (i + 1) (by omega) (by omega) (fun i' hi'=>?_))
                by_cases e':i'=i
                · subst e';exact hij
                · exact hno i' (by omega)
          exact inner p.length 0 rfl (by omega) (fun i' hi'=>by omega)
    have ha':(rd p 0).toNat=a:=by rw[ha];rfl
    have he4:(c.length - (a + 1)) * 5 ^ m<=3 * 5 ^ m:=Nat.mul_le_mul_right _ (by omega)
    have tail:∀acc:List (List Int),acc.length<=1->Ev (fun k=>Fa.j1 k p acc (la p) c d) (acc ++ rest (P c.length d m) d p (c.length - ((rd p 0).toNat + 1)) ((rd p 0).toNat + 1)):=by
      intro acc hacc
      refine Ev.step (fun k=>by rw[Fa.j1]) ?_
      rw[haw.out,ha']
      refine evPos (by omega) (loop _ (a + 1) acc rfl (by omega) (by omega) (by omega))
    refine Ev.step (fun k=>by rw[Fa.f]) ?_
    rw[hlw.out,hla]
    refine evBind0 rfl (evPos (by omega) (evPos (by omega) ?_))
    rw[P]
    by_cases h1:1 < p.length
    · refine evPos (by omega) (evPos hl.1 (evPos (by omega) (evPos (by omega) (evPos hh.1 (evPos (by omega) ?_)))))
      refine Ev.step (fun k=>by rw[Fa.j0]) ?_
      by_cases hc:0 < rd (Jr d (la p)) (rd p 0)
      · refine evPos (decide_eq_true (by omega)) (evBind0 rfl (evPos (by simp;omega) (evBind0 rfl (evPos (by simp) ?_))))
        rw[List.nil_append,List.nil_append]
        have:self d p=[p]:=if_pos ⟨h1,hc⟩
        rw[this]
        exact tail [p] (by simp)
      · refine evNeg (by simpa using hc) ?_
        have:self d p=[]:=if_neg (fun z=>hc z.2)
        rw[this]
        exact tail [] (by simp)
    · refine evNeg (by omega) ?_
      refine Ev.step (fun k=>by rw[Fa.j0]) ?_
      refine evNeg (by decide) ?_
      have:self d p=[]:=if_neg (fun z=>h1 z.1)
      rw[this]
      exact tail [] (by simp)
end
def lexlt:List Int->List Int->Bool
  | a :: r,b :: s=>if a=b then lexlt r s else decide (a < b)
  | _,_=>false
def bef (a b:List Int):Bool:=if a.length=b.length then lexlt a b else decide (a.length < b.length)
theorem before (a b:List Int) (ha:a.length<=4611686018427387904):Ev (fun k=>Gg.f k a b) (bef a b):=by
  unfold Gg.f bef
  by_cases hl:a.length=b.length
  · rw[if_pos hl]
    refine evPos (by omega) ?_
    have key:∀(e i:Nat),a.length - i=e->i<=a.length->Ev (fun k=>Gg.l0 k a b (i:Int)) (lexlt (a.drop i) (b.drop i)):=by
      intro e
      induction e with
      | zero=>
        intro i he hi
        refine Ev.step (fun k=>by rw[Gg.l0]) ?_
        rw[List.drop_of_length_le (by omega)]
        exact evNeg (by omega) (evEq (Ev.now _) (by simp[lexlt]))
      | succ e ih=>
        intro i he hi
        have hi1:Jc (wrap64 ((i:Int) + 1)=((i + 1:Nat):Int)):=⟨wsucc (n:=a.length) (by omega) ha⟩
        refine Ev.step (fun k=>by rw[Gg.l0]) ?_
        rw[hi1.out]
        refine evPos (by omega) (evPos (by omega) (evPos (by omega) ?_))
        rw[drop_rd a i (by omega),drop_rd b i (by omega),lexlt]
        by_cases hc:rd a (i:Int)=rd b (i:Int)
        · rw[if_pos hc];exact evPos hc (ih (i + 1) (by omega) (by omega))
        · rw[if_neg hc];exact evNeg hc (Ev.now _)
    have:=key a.length 0 rfl (by omega)
    simpa using this
  · rw[if_neg hl]
    refine evNeg (by omega) (evEq (Ev.now _) ?_)
    rw[decide_eq_decide];omega
def ins (lt:List Int->List Int->Bool):Nat->List (List Int)->List (List Int)
  | 0,xs=>xs
  | j + 1,xs=>if lt (xs.getD (j + 1) []) (xs.getD j [])=true then ins lt j ((xs.set (j + 1) (xs.getD j [])).set j (xs.getD (j + 1) [])) else xs
def srt (lt:List Int->List Int->Bool):Nat->Nat->List (List Int)->List (List Int)
  | 0,_,xs=>xs
  | e + 1,i,xs=>srt lt e (i + 1) (ins lt i xs)
theorem ins_len (lt:List Int->List Int->Bool):∀(j:Nat) (xs:List (List Int)),(ins lt j xs).length=xs.length
  | 0,xs=>rfl
  | j + 1,xs=>by
    rw[ins];split
    · rw[ins_len];simp
    · rfl
theorem ins_mem (lt:List Int->List Int->Bool) {y:List Int}:∀(j:Nat) (xs:List (List Int)),j < xs.length->y ∈ ins lt j xs->y ∈ xs
  | 0,xs,_,h=>h
  | j + 1,xs,hj,h=>by
    rw[ins] at h;split at h
    · have h1:=ins_mem lt j _ (by simp;omega) h
      rcases List.mem_or_eq_of_mem_set h1 with h2|h2
      · rcases List.mem_or_eq_of_mem_set h2 with h3|h3
        · exact h3
        · rw[h3];exact getD_mem [] xs j (by omega)
      · rw[h2];exact getD_mem [] xs (j + 1) hj
    · exact h
theorem srt_len (lt:List Int->List Int->Bool):∀(e i:Nat) (xs:List (List Int)),(srt lt e i xs).length=xs.length
  | 0,_,xs=>rfl
  | e + 1,i,xs=>by rw[srt,srt_len,ins_len]
theorem srt_mem (lt:List Int->List Int->Bool) {y:List Int}:∀(e i:Nat) (xs:List (List Int)),i + e<=xs.length->y ∈ srt lt e i xs->y ∈ xs
  | 0,_,xs,_,h=>h
  | e + 1,i,xs,hi,h=>by
    rw[srt] at h
    exact ins_mem lt i xs (by omega) (srt_mem lt e (i + 1) _ (by rw[ins_len];omega) h)
def found (n:Nat) (d:List (List Int)):Nat->Nat->List (List Int)
  | 0,_=>[]
  | e + 1,i=>P n d 4 [(i:Int)] ++ found n d e (i + 1)
theorem found_len {n:Nat} (hn:n<=4) (d:List (List Int)):∀(e i:Nat),(found n d e i).length<=e * 625
  | 0,i=>by simp[found]
  | e + 1,i=>by
    have h1:=P_len hn d 4 [(i:Int)]
    have h2:=found_len hn d e (i + 1)
    rw[found,List.length_append,Nat.succ_mul];omega
def circ (c:List Int) (d:List (List Int)):List (List Int):=srt bef ((found c.length d c.length 0).length - 1) 1 (found c.length d c.length 0)
section
variable {c:List Int} {d:List (List Int)}
theorem mem_found (h:BookP c d) {y:List Int}:∀(e i:Nat),i + e=c.length->y ∈ found c.length d e i->CirP c.length d y
  | 0,i,_,hy=>by simp[found] at hy
  | e + 1,i,hi,hy=>by
    rw[found] at hy
    rcases List.mem_append.1 hy with hy|hy
    · exact mem_P h 4 _ (PathP.one (by omega)) hy
    · exact mem_found h e (i + 1) (by omega) hy
theorem circ_len (c:List Int) (d:List (List Int)):(circ c d).length=(found c.length d c.length 0).length:=srt_len _ _ _ _
theorem mem_circ (h:BookP c d) {y:List Int} (hy:y ∈ circ c d):CirP c.length d y:=by
  by_cases h0:(found c.length d c.length 0).length=0
  · have:=circ_len c d
    rw[h0,List.length_eq_zero_iff] at this
    rw[this] at hy;simp at hy
  · exact mem_found h c.length 0 (by omega) (srt_mem bef _ 1 _ (by omega) hy)
theorem sort_l2 {r:List (List Int)} (n:Nat) (hn:n<=100000) (x5:Int) (hrow:Nat) (hr4:hrow<=4611686018427387904):∀(j:Nat) (xs:List (List Int)),j < xs.length->xs.length=n->(∀y ∈ xs,y.length<=hrow) ->
    Ev (fun k=>Fg.l1 k (ins bef j xs) (wrap64 (x5 + 1))) r->Ev (fun k=>Fg.l2 k xs x5 (j:Int)) r
  | 0,xs,hj,hxn,hrw,hR=>by
    refine Ev.step (fun k=>by rw[Fg.l2]) ?_
    exact evNeg (by omega) hR
  | j + 1,xs,hj,hxn,hrw,hR=>by
    have hj1:Jc (wrap64 (((j + 1:Nat):Int) - 1)=(j:Int)):=⟨by rw[w64 (by omega) (by omega)];omega⟩
    refine Ev.step (fun k=>by rw[Fg.l2]) ?_
    rw[hj1.out]
    refine evPos (by omega) (evPos (by omega) (evPos (by omega) (evPos (by omega) (evPos (by omega) ?_))))
    have e1:Jr xs ((j + 1:Nat):Int)=xs.getD (j + 1) []:=rfl
    have e2:Jr xs (j:Int)=xs.getD j []:=rfl
    rw[e1,e2]
    have m1:=hrw _ (getD_mem [] xs (j + 1) hj)
    have m2:=hrw _ (getD_mem [] xs j (by omega))
    refine Ev.bind (before _ _ (by omega)) ?_
    rw[ins] at hR
    by_cases hb:bef (xs.getD (j + 1) []) (xs.getD j [])=true
    · rw[if_pos hb] at hR
      refine evPos hb ?_
      refine sort_l2 n hn x5 hrow hr4 j _ (by simp;omega) (by simp[hxn]) (fun y hy=>?_) hR
      rcases List.mem_or_eq_of_mem_set hy with h2|h2
      · rcases List.mem_or_eq_of_mem_set h2 with h3|h3
        · exact hrw y h3
        · rw[h3];exact m2
      · rw[h2];exact m1
    · rw[if_neg hb] at hR
      exact evNeg hb hR
theorem sort_l1 (n:Nat) (hn:n<=100000) (hrow:Nat) (hr4:hrow<=4611686018427387904):∀(e i:Nat) (xs:List (List Int)),xs.length=n->n - i=e->(∀y ∈ xs,y.length<=hrow)->Ev (fun k=>Fg.l1 k xs (i:Int)) (srt bef e i xs)
  | 0,i,xs,hxn,he,hrw=>by
    refine Ev.step (fun k=>by rw[Fg.l1]) ?_
    exact evNeg (by omega) (Ev.now _)
  | e + 1,i,xs,hxn,he,hrw=>by
    have hi1:wrap64 ((i:Int) + 1)=((i + 1:Nat):Int):=wsucc (n:=n) (by omega) (by omega)
    refine Ev.step (fun k=>by rw[Fg.l1]) ?_
    refine evPos (by omega) ?_
    refine sort_l2 n hn (i:Int) hrow hr4 i xs (by omega) hxn hrw ?_
    rw[hi1,srt]
    exact sort_l1 n hn hrow hr4 e (i + 1) _ (by rw[ins_len,hxn]) (by omega) (fun y hy=>hrw y (ins_mem bef i xs (by omega) hy))
theorem sCircles (h:BookP c d):Ev (fun k=>Fg.f k c d) (circ c d):=by
  have h4:=h.2.1
  unfold Fg.f circ
  have key:∀(e i:Nat) (acc:List (List Int)),c.length - i=e->i<=c.length->acc.length<=i * 625->acc ++ found c.length d e i=found c.length d c.length 0->Ev (fun k=>Fg.l0 k acc (i:Int) c d) (srt bef ((found c.length d c.length 0).length - 1) 1 (found c.length d c.length 0)):=by
    intro e
    induction e with
    | zero=>
      intro i acc he hi hacc hE
      refine Ev.step (fun k=>by rw[Fg.l0]) ?_
      refine evNeg (by omega) (Ev.step (fun k=>by rw[Fg.j1]) ?_)
      rw[found,List.append_nil] at hE
      have hfl:=found_len h4 d c.length 0
      rw[hE]
      exact sort_l1 (found c.length d c.length 0).length (by omega) c.length (by omega) _ 1 _ rfl rfl (fun y hy=>(mem_found h c.length 0 (by omega) hy).1.len)
    | succ e ih=>
      intro i acc he hi hacc hE
      have hlt:i < c.length:=by omega
      have hi1:Jc (wrap64 ((i:Int) + 1)=((i + 1:Nat):Int)):=⟨wsucc hlt (by omega)⟩
      have hPl:=P_len h4 d 4 [(i:Int)]
      refine Ev.step (fun k=>by rw[Fg.l0]) ?_
      rw[hi1.out]
      refine evPos (by omega) (Ev.bind ((bookOk c d).yes h) (evPos rfl (Ev.bind (paths h 4 _ (PathP.one hlt) (by simp;omega) (by omega)) (evPos (by omega) ?_))))
      refine ih (i + 1) _ (by omega) (by omega) (by rw[List.length_append,Nat.succ_mul];omega) ?_
      rw[List.append_assoc]
      rw[found] at hE
      exact hE
  exact key c.length 0 [] rfl (by omega) (by simp) (by simp)
end
end Go.Proofs.Ytfooakkhkehpiaa.CrE
namespace Go.Proofs.Ytfooakkhkehpiaa.SkE
open Go.RowKit Go.Proofs.Ytfooakkhkehpiaa.PE Go.Proofs.Ytfooakkhkehpiaa.Qh Go.Proofs.Ytfooakkhkehpiaa.BkE Go.Proofs.Ytfooakkhkehpiaa.MxE Go.Proofs.Ytfooakkhkehpiaa.CrE Go.Proofs.YtfooakkhkehpiaaW.PrintWords Go.Proofs.YtfooakkhkehpiaaW.PrintMore
set_option linter.unusedVariables false
set_option linter.unusedSimpArgs false
theorem mn_le (a b:Int):mn a b<=a/\mn a b<=b/\(mn a b=a ∨ mn a b=b):=by
  unfold mn
  split <;> omega
def nx (q:List Int) (k:Nat):Nat:=(k + 1) % q.length
def edge (d:List (List Int)) (q:List Int) (k:Nat):Int:=rd (Jr d (rd q (k:Int))) (rd q ((nx q k:Nat):Int))
def low (d:List (List Int)) (q:List Int):Nat->Nat->Int->Int
  | 0,_,x=>x
  | e + 1,k,x=>low d q e (k + 1) (mn x (edge d q k))
theorem low_le (d:List (List Int)) (q:List Int):∀(e k:Nat) (x:Int),low d q e k x<=x/\(∀i,k<=i->i < k + e->low d q e k x<=edge d q i)/\(low d q e k x=x ∨ ∃i,k<=i/\i < k + e/\low d q e k x=edge d q i)
  | 0,k,x=>⟨Int.le_refl _,fun i _ _=>by omega, .inl rfl⟩
  | e + 1,k,x=>by
    obtain⟨h1,h2,h3⟩:=low_le d q e (k + 1) (mn x (edge d q k))
    obtain⟨m1,m2,m3⟩:=mn_le x (edge d q k)
    refine⟨by rw[low];omega,fun i hi hi2=>?_,?_⟩
    · rw[low]
      by_cases e':i=k
      · subst e';omega
      · exact h2 i (by omega) (by omega)
    · rw[low]
      rcases h3 with h3 | ⟨i,i1,i2,i3⟩
      · rcases m3 with m3|m3
        · left;omega
        · right;exact⟨k,by omega,by omega,by omega⟩
      · right;exact⟨i,by omega,by omega,i3⟩
def lowest (d:List (List Int)) (q:List Int):Int:=low d q q.length 0 9
def hit (q:List Int) (k i j:Nat):Bool:=(List.range k).any (fun k'=>decide (rd q (k':Int)=(i:Int)/\rd q ((nx q k':Nat):Int)=(j:Int)))
theorem hit_iff {q:List Int} {k i j:Nat}:hit q k i j=true ↔ ∃k',k' < k/\rd q (k':Int)=(i:Int)/\rd q ((nx q k':Nat):Int)=(j:Int):=by
  unfold hit
  rw[List.any_eq_true]
  constructor
  · rintro⟨k',h1,h2⟩
    exact⟨k',List.mem_range.1 h1,(of_decide_eq_true h2).1,(of_decide_eq_true h2).2⟩
  · rintro⟨k',h1,h2,h3⟩
    exact⟨k',List.mem_range.2 h1,decide_eq_true ⟨h2,h3⟩⟩
def part (d:List (List Int)) (q:List Int) (k i j:Nat):Int:=if hit q k i j=true then db d i j - lowest d q else db d i j
def struck (c:List Int) (d:List (List Int)) (q:List Int):List (List Int):=mk c.length (part d q q.length)
section
variable {c:List Int} {d:List (List Int)} {q:List Int}
theorem nx_lt {q:List Int} (h:0 < q.length) (k:Nat):nx q k < q.length:=Nat.mod_lt _ h
theorem cir_at (hq:CirP c.length d q) {k:Nat} (hk:k < q.length):0<=rd q (k:Int)/\rd q (k:Int) < (c.length:Int):=by
  have:=hq.1.2.2.1 _ (rd_mem hk)
  exact⟨this.2.1,this.2.2⟩
theorem cir_inj (hq:CirP c.length d q) {k l:Nat} (hk:k < q.length) (hl:l < q.length) (h:rd q (k:Int)=rd q (l:Int)):k=l:=by
  rw[rd_get q k hk,rd_get q l hl] at h
  exact(List.getElem_inj hq.1.2.1).1 h
theorem nx_ne (hq:CirP c.length d q) {k:Nat} (hk:k < q.length):nx q k≠k:=by
  have:=hq.2.1
  unfold nx
  by_cases h:k + 1=q.length
  · rw[h,Nat.mod_self];omega
  · rw[Nat.mod_eq_of_lt (by omega)];omega
theorem edge_pos (hq:CirP c.length d q) {k:Nat} (hk:k < q.length):0 < edge d q k:=by
  unfold edge nx
  by_cases h:k + 1=q.length
  · rw[h,Nat.mod_self]
    have:k=q.length - 1:=by omega
    rw[this]
    exact hq.2.2
  · rw[Nat.mod_eq_of_lt (by omega)]
    exact hq.1.2.2.2 k (by omega)
theorem edge_le (h:BookP c d) (hq:CirP c.length d q) {k:Nat} (hk:k < q.length):edge d q k<=9:=
  (row_ge h (cir_at hq hk) (cir_at hq (nx_lt hq.1.1 k))).2
theorem lowest_pos (hq:CirP c.length d q):1<=lowest d q:=by
  have h0:=hq.1.1
  rcases(low_le d q q.length 0 9).2.2 with h | ⟨i,_,h2,h3⟩
  · unfold lowest;omega
  · have:=edge_pos hq (k:=i) (by omega)
    unfold lowest;omega
theorem lowest_le (hq:CirP c.length d q) {k:Nat} (hk:k < q.length):lowest d q<=edge d q k:=(low_le d q q.length 0 9).2.1 k (by omega) (by omega)
theorem hit_edge (hq:CirP c.length d q) {k i j:Nat} (hk:k<=q.length) (h:hit q k i j=true):lowest d q<=db d i j/\i≠j:=by
  obtain⟨k',h1,h2,h3⟩:=hit_iff.1 h
  have hk':k' < q.length:=by omega
  have:=lowest_le hq hk'
  refine⟨?_,fun e=>?_⟩
  · unfold edge at this
    rw[h2,h3] at this
    exact this
  · rw[<- e, <- h2] at h3
    exact nx_ne hq hk' (cir_inj hq (nx_lt hq.1.1 k') hk' h3)
theorem part_bd (h:BookP c d) (hq:CirP c.length d q) {k i j:Nat} (hk:k<=q.length) (hi:i < c.length) (hj:j < c.length):0<=part d q k i j/\part d q k i j<=db d i j:=by
  have hb:=(h.2.2.2 i hi).2.2.2.2 j hj
  have hp:=lowest_pos hq
  unfold part
  by_cases hh:hit q k i j=true
  · rw[if_pos hh]
    have:=(hit_edge hq hk hh).1
    omega
  · rw[if_neg hh];exact⟨hb.1,Int.le_refl _⟩
theorem struck_get {i j:Nat} (hi:i < c.length) (hj:j < c.length):db (struck c d q) i j=part d q q.length i j:=by
  show rd (Jr (mk c.length (part d q q.length)) (i:Int)) (j:Int)=_
  rw[mk_get hi,rd_rowF hj]
theorem struck_ok (h:BookP c d) (hq:CirP c.length d q):BookP c (struck c d q):=by
  refine⟨h.1,h.2.1,mk_len _ _,fun i hi=>?_⟩
  have hc:=h.2.2.2 i hi
  refine⟨hc.1,hc.2.1,?_,?_,fun j hj=>?_⟩
  · show(Jr (mk c.length (part d q q.length)) (i:Int)).length=_
    rw[mk_get hi,rowF_len]
  · refine(struck_get hi hi).trans ?_
    unfold part
    rw[if_neg (fun z=>(hit_edge hq (Nat.le_refl _) z).2 rfl)]
    exact hc.2.2.2.1
  · have h1:=struck_get (c:=c) (d:=d) (q:=q) hi hj
    have h2:=part_bd h hq (Nat.le_refl _) hi hj
    have h3:=hc.2.2.2.2 j hj
    show 0<=db (struck c d q) i j/\db (struck c d q) i j<=9
    have h4:db d i j<=9:=h3.2
    rw[h1];omega
theorem ki (q:List Int) (k:Nat) (h:k < q.length) (hq:q.length<=4):wrap64 ((k:Int) + 1)=((k + 1:Nat):Int):=wsucc h (by omega)
theorem tm (q:List Int) (k:Nat):Int.tmod ((k + 1:Nat):Int) (q.length:Int)=((nx q k:Nat):Int):=by
  unfold nx
  rw[Int.tmod_eq_emod_of_nonneg (by omega)]
  rfl
theorem st_l0 (h:BookP c d) (hq:CirP c.length d q) {r:List Int × List (List Int)} (hR:Ev (fun k=>Fm.l1 k q (lowest d q) 0 c d c d) r):∀(e k:Nat) (x:Int),q.length - k=e->k<=q.length->low d q e k x=lowest d q->Ev (fun n=>Fm.l0 n q x (k:Int) c d c d) r:=by
  have h4:=h.2.1
  have hdl:=h.2.2.1
  have hql:=hq.1.len
  have hq0:=hq.1.1
  intro e
  induction e with
  | zero=>
    intro k x he hk hx
    refine Ev.step (fun n=>by rw[Fm.l0]) ?_
    refine evNeg (by omega) ?_
    rw[low] at hx
    rw[hx]
    exact hR
  | succ e ih=>
    intro k x he hk hx
    have hlt:k < q.length:=by omega
    have hk1:Jc (wrap64 ((k:Int) + 1)=((k + 1:Nat):Int)):=⟨ki q k hlt (by omega)⟩
    have htm:Jc (Int.tmod ((k + 1:Nat):Int) (q.length:Int)=((nx q k:Nat):Int)):=⟨tm q k⟩
    have a1:=cir_at hq hlt
    have a2:=cir_at hq (nx_lt hq0 k)
    have hn:=nx_lt hq0 k
    have hrl:=row_len h a1
    refine Ev.step (fun n=>by rw[Fm.l0]) ?_
    rw[hk1.out,htm.out]
    refine evPos (by omega) (evPos (by omega) (evPos a1.1 (evPos (by omega) (evNeg (by omega) (evPos (by omega) (evPos (by omega) (evPos a2.1 (evPos (by omega) ?_))))))))
    exact ih (k + 1) _ (by omega) (by omega) (by rw[low] at hx;exact hx)
theorem st_l1 (h:BookP c d) (hq:CirP c.length d q):∀(e k:Nat),q.length - k=e->k<=q.length->Ev (fun n=>Fm.l1 n q (lowest d q) (k:Int) c d c (mk c.length (part d q k))) (c,struck c d q):=by
  have h4:=h.2.1
  have hdl:=h.2.2.1
  have hql:=hq.1.len
  have hq0:=hq.1.1
  intro e
  induction e with
  | zero=>
    intro k he hk
    refine Ev.step (fun n=>by rw[Fm.l1]) ?_
    have:k=q.length:=by omega
    subst this
    exact evNeg (by omega) (Ev.now _)
  | succ e ih=>
    intro k he hk
    have hlt:k < q.length:=by omega
    have hk1:Jc (wrap64 ((k:Int) + 1)=((k + 1:Nat):Int)):=⟨ki q k hlt (by omega)⟩
    have htm:Jc (Int.tmod ((k + 1:Nat):Int) (q.length:Int)=((nx q k:Nat):Int)):=⟨tm q k⟩
    have a1:=cir_at hq hlt
    have a2:=cir_at hq (nx_lt hq0 k)
    have hn:=nx_lt hq0 k
    have hrl:=row_len h a1
    have hml:=mk_len c.length (part d q k)
    have hle:=lowest_le hq hlt
    have hlp:=lowest_pos hq
    have hee:=edge_le h hq hlt
    obtain⟨a,ha⟩:=Int.eq_ofNat_of_zero_le a1.1
    obtain⟨b,hb⟩:=Int.eq_ofNat_of_zero_le a2.1
    have hac:a < c.length:=by omega
    have hbc:b < c.length:=by omega
    have hmr:(Jr (mk c.length (part d q k)) (rd q (k:Int))).length=c.length:=by rw[ha,mk_get hac,rowF_len]
    have hw:Jc (wrap64 (rd (Jr d (rd q (k:Int))) (rd q ((nx q k:Nat):Int)) - lowest d q)=db d a b - lowest d q):=⟨by
      have e1:rd (Jr d (rd q (k:Int))) (rd q ((nx q k:Nat):Int))=edge d q k:=rfl
      rw[e1,w64 (by omega) (by omega)]
      have e2:edge d q k=db d a b:=by unfold edge;rw[ha,hb]
      rw[e2]⟩
    refine Ev.step (fun n=>by rw[Fm.l1]) ?_
    rw[hk1.out,htm.out]
    refine evPos (by omega) (evPos (by omega) (evNeg (by omega) (evPos (by omega) (evPos (by omega) (evPos a1.1 (evPos (by omega) (evPos (by omega) (evPos a2.1 (evPos (by omega) (evPos (by omega) ?_))))))))))
    rw[hw.out,ha,hb,Int.toNat_natCast,Int.toNat_natCast,mk_set hac hbc]
    have:mk c.length (fun i' j'=>if i'=a/\j'=b then db d a b - lowest d q else part d q k i' j')=mk c.length (part d q (k + 1)):=mk_congr (fun i hi j hj=>by
      by_cases z:i=a/\j=b
      · rw[if_pos z]
        unfold part
        rw[if_pos (hit_iff.2 ⟨k,by omega,by rw[ha,z.1],by rw[hb,z.2]⟩),z.1,z.2]
      · rw[if_neg z]
        unfold part
        have:hit q (k + 1) i j=hit q k i j:=by
          rw[Bool.eq_iff_iff,hit_iff,hit_iff]
          constructor
          · rintro⟨k',h1,h2,h3⟩
            by_cases e':k'=k
            · subst e'
              rw[ha] at h2;rw[hb] at h3
              exact absurd ⟨by omega,by omega⟩ z
            · exact⟨k',by omega,h2,h3⟩
          · rintro⟨k',h1,h2⟩
            exact⟨k',by omega,h2⟩
        rw[this])
    rw[this]
    exact ih (k + 1) (by omega) (by omega)
theorem sStruck (h:BookP c d) (hq:CirP c.length d q):Ev (fun k=>Fm.f k c d q) (c,struck c d q):=by
  unfold Fm.f
  refine Ev.bind (scopy h) (st_l0 h hq ?_ q.length 0 9 rfl (by omega) rfl)
  have:=st_l1 h hq q.length 0 rfl (by omega)
  have e:mk c.length (part d q 0)=d:=(mk_congr (fun i _ j _=>by unfold part hit;simp)).trans (mk_of h).symm
  rw[e] at this
  exact this
def s1 (f:Nat->Int):Nat->Int
  | 0=>0
  | m + 1=>s1 f m + f m
theorem s1_le {f g:Nat->Int}:∀m:Nat,(∀i,i < m->f i<=g i)->s1 f m<=s1 g m
  | 0,_=>Int.le_refl _
  | m + 1,h=>by
    have:=s1_le m (fun i hi=>h i (by omega))
    have:=h m (by omega)
    simp only[s1];omega
theorem s1_lt {f g:Nat->Int}:∀m:Nat,(∀i,i < m->f i<=g i)->(∃i,i < m/\f i < g i)->s1 f m < s1 g m
  | 0,_,⟨i,hi,_⟩=>by omega
  | m + 1,h,⟨i,hi,hl⟩=>by
    have h1:=s1_le m (fun i hi=>h i (by omega))
    have h2:=h m (by omega)
    simp only[s1]
    by_cases e:i=m
    · subst e;omega
    · have:=s1_lt m (fun i hi=>h i (by omega)) ⟨i,by omega,hl⟩
      omega
theorem s1_ge {f:Nat->Int} {a b:Int}:∀m:Nat,(∀i,i < m->a<=f i/\f i<=b)->a * m<=s1 f m/\s1 f m<=b * m
  | 0,_=>by simp[s1]
  | m + 1,h=>by
    have h1:=s1_ge m (fun i hi=>h i (by omega))
    have h2:=h m (by omega)
    have e1:a * ((m + 1:Nat):Int)=a * m + a:=by rw[Int.natCast_add,Int.mul_add];simp
    have e2:b * ((m + 1:Nat):Int)=b * m + b:=by rw[Int.natCast_add,Int.mul_add];simp
    simp only[s1]
    rw[e1,e2];omega
def tot (c:List Int) (d:List (List Int)):Int:=s1 (fun i=>s1 (db d i) c.length) c.length
theorem tot_bd (h:BookP c d):0<=tot c d/\tot c d<=144:=by
  have h4:=h.2.1
  have hr:∀i,i < c.length->0<=s1 (db d i) c.length/\s1 (db d i) c.length<=36:=fun i hi=>by
    have:=s1_ge (f:=db d i) (a:=0) (b:=9) c.length (fun j hj=>(h.2.2.2 i hi).2.2.2.2 j hj)
    omega
  have:=s1_ge (f:=fun i=>s1 (db d i) c.length) (a:=0) (b:=36) c.length hr
  unfold tot
  omega
theorem struck_less (h:BookP c d) (hq:CirP c.length d q):tot c (struck c d q) < tot c d:=by
  have hb:∀i,i < c.length->∀j,j < c.length->db (struck c d q) i j<=db d i j:=fun i hi j hj=>by
    rw[struck_get hi hj];exact(part_bd h hq (Nat.le_refl _) hi hj).2
  have h0:=hq.1.1
  have a1:=cir_at hq h0
  have a2:=cir_at hq (nx_lt h0 0)
  obtain⟨a,ha⟩:=Int.eq_ofNat_of_zero_le a1.1
  obtain⟨b,hb2⟩:=Int.eq_ofNat_of_zero_le a2.1
  have hlp:=lowest_pos hq
  refine s1_lt c.length (fun i hi=>s1_le c.length (hb i hi)) ⟨a,by omega,s1_lt c.length (hb a (by omega)) ⟨b,by omega,?_⟩⟩
  rw[struck_get (by omega) (by omega)]
  unfold part
  rw[if_pos (hit_iff.2 ⟨0,h0,ha,hb2⟩)]
  omega
def woc (c:List Int):Nat->List (List Int)->Int->List (List Int) × Int
  | 0,d,n=>(d,n)
  | N + 1,d,n=>if (circ c d).length=0 then(d,n) else woc c N (struck c d ((circ c d).getD 0 [])) (n + 1)
theorem woc_ok:∀(N:Nat) (d:List (List Int)) (n:Int),BookP c d->BookP c (woc c N d n).1
  | 0,d,n,h=>h
  | N + 1,d,n,h=>by
    rw[woc]
    split
    · exact h
    · next hz=>exact woc_ok N _ _ (struck_ok h (mem_circ h (getD_mem [] _ 0 (by omega))))
theorem sWoc:∀(N:Nat) (d:List (List Int)) (n:Int),BookP c d->tot c d<=(N:Int)->0<=n->n + N<=1000->Ev (fun k=>Fd.l0 k n c d) (c,(woc c N d n).1,(woc c N d n).2):=by
  intro N
  induction N with
  | zero=>
    intro d n h ht hn hN
    have hb:=tot_bd h
    refine Ev.step (fun k=>by rw[Fd.l0]) ?_
    refine Ev.bind (sCircles h) ?_
    have hz:(circ c d).length=0:=by
      apply Classical.byContradiction
      intro hz
      have hq:=mem_circ h (getD_mem [] (circ c d) 0 (by omega))
      have h1:=struck_less h hq
      have h2:=tot_bd (struck_ok h hq)
      omega
    exact evPos (by omega) (Ev.now _)
  | succ N ih=>
    intro d n h ht hn hN
    refine Ev.step (fun k=>by rw[Fd.l0]) ?_
    refine Ev.bind (sCircles h) ?_
    by_cases hz:(circ c d).length=0
    · refine evPos (by omega) (evEq (Ev.now _) ?_)
      rw[woc,if_pos hz]
    · refine evNeg (by omega) (evPos (by omega) ?_)
      have hq:=mem_circ h (getD_mem [] (circ c d) 0 (by omega))
      have e1:Jr (circ c d) 0=(circ c d).getD 0 []:=rfl
      rw[e1]
      refine Ev.bind (sStruck h hq) ?_
      have hw:wrap64 (n + 1)=n + 1:=w64 (by omega) (by omega)
      rw[hw]
      have h1:=struck_less h hq
      refine evEq (ih _ (n + 1) (struck_ok h hq) (by show tot c (struck c d ((circ c d).getD 0 []))<=(N:Int);omega) (by omega) (by omega)) ?_
      rw[woc,if_neg hz]
def without (c:List Int) (d:List (List Int)):List (List Int) × Int:=woc c 144 d 0
theorem without_ok (h:BookP c d):BookP c (without c d).1:=woc_ok _ _ _ h
theorem sWithout (c:List Int) (d:List (List Int)):Ev (fun k=>Fd.f k c d) (@ite _ (BookP c d) (Classical.propDecidable _) (c,(without c d).1,(without c d).2) ([],[], -1)):=by
  unfold Fd.f
  by_cases h:BookP c d
  · rw[if_pos h]
    refine Ev.bind ((bookOk c d).yes h) (evPos rfl (Ev.bind (scopy h) ?_))
    exact sWoc 144 d 0 h (tot_bd h).2 (by omega) (by omega)
  · rw[if_neg h]
    exact Ev.bind ((bookOk c d).no h) (evNeg (by decide) (Ev.now _))
end
end Go.Proofs.Ytfooakkhkehpiaa.SkE
namespace Go.Proofs.Ytfooakkhkehpiaa.NtE
open Go.RowKit Go.Proofs.Ytfooakkhkehpiaa.PE Go.Proofs.Ytfooakkhkehpiaa.Qh Go.Proofs.Ytfooakkhkehpiaa.BkE Go.Proofs.Ytfooakkhkehpiaa.MxE Go.Proofs.YtfooakkhkehpiaaW.PrintWords Go.Proofs.YtfooakkhkehpiaaW.PrintMore
set_option linter.unusedVariables false
set_option linter.unusedSimpArgs false
def N (d:List (List Int)) (i j:Nat):Int:=db d i j - mn (db d i j) (db d j i)
def netL (c:List Int) (d:List (List Int)):List (List Int):=mk c.length (N d)
variable {c:List Int} {d:List (List Int)}
theorem db_bd (h:BookP c d) {i j:Nat} (hi:i < c.length) (hj:j < c.length):0<=db d i j/\db d i j<=9:=(h.2.2.2 i hi).2.2.2.2 j hj
theorem db_diag (h:BookP c d) {i:Nat} (hi:i < c.length):db d i i=0:=(h.2.2.2 i hi).2.2.2.1
theorem mn_le (a b:Int):mn a b<=a/\mn a b<=b/\(mn a b=a ∨ mn a b=b):=by
  unfold mn
  split <;> omega
theorem mn_comm (a b:Int):mn a b=mn b a:=by
  have h1:=mn_le a b
  have h2:=mn_le b a
  omega
theorem N_bd (h:BookP c d) {i j:Nat} (hi:i < c.length) (hj:j < c.length):0<=N d i j/\N d i j<=db d i j:=by
  have h1:=mn_le (db d i j) (db d j i)
  have h2:=db_bd h hi hj
  have h3:=db_bd h hj hi
  unfold N
  omega
theorem N_diag (h:BookP c d) {i:Nat} (hi:i < c.length):N d i i=0:=by
  have h1:=N_bd h hi hi
  have h2:=db_diag h hi
  omega
theorem net_len (c:List Int) (d:List (List Int)):(netL c d).length=c.length:=mk_len _ _
theorem net_get (h:BookP c d) {i j:Nat} (hi:i < c.length) (hj:j < c.length):db (netL c d) i j=N d i j:=by
  show rd (Jr (mk c.length (N d)) (i:Int)) (j:Int)=_
  rw[mk_get hi,rd_rowF hj]
theorem net_ok (h:BookP c d):BookP c (netL c d):=by
  refine⟨h.1,h.2.1,net_len c d,fun i hi=>?_⟩
  have hc:=h.2.2.2 i hi
  refine⟨hc.1,hc.2.1,?_,?_,fun j hj=>?_⟩
  · show(Jr (mk c.length (N d)) (i:Int)).length=_
    rw[mk_get hi,rowF_len]
  · exact(net_get h hi hi).trans (N_diag h hi)
  · have h1:=net_get h hi hj
    have h2:=N_bd h hi hj
    have h3:=db_bd h hi hj
    show 0<=db (netL c d) i j/\db (netL c d) i j<=9
    rw[h1];omega
def fi (d:List (List Int)) (i k:Nat) (i' j':Nat):Int:=if i' < i ∨ i'=i/\j' < k then N d i' j' else db d i' j'
theorem in_l1 (h:BookP c d) {i:Nat} (hi:i < c.length) {r:List Int × List (List Int)} (hR:Ev (fun n=>Fu.l0 n d (c.length:Int) ((i + 1:Nat):Int) c d c (mk c.length (fi d (i + 1) 0))) r):∀(e k:Nat),c.length - k=e->k<=c.length ->
    Ev (fun n=>Fu.l1 n (i:Int) d (c.length:Int) (i:Int) (Jr d (i:Int)) (c.length:Int) (k:Int) c d c (mk c.length (fi d i k))) r:=by
  have h4:=h.2.1
  have hdl:=h.2.2.1
  have hri:=(h.2.2.2 i hi).2.2.1
  have hs:Jc (wrap64 ((i:Int) + 1)=((i + 1:Nat):Int)):=⟨wsucc hi (by omega)⟩
  intro e
  induction e with
  | zero=>
    intro k he hk
    obtain rfl:k=c.length:=by omega
    refine Ev.step (fun n=>by rw[Fu.l1]) ?_
    rw[hs.out]
    refine evNeg (by omega) ?_
    have:mk c.length (fi d i c.length)=mk c.length (fi d (i + 1) 0):=mk_congr (fun a ha b hb=>by
      unfold fi
      by_cases z:a < i ∨ a=i/\b < c.length
      · rw[if_pos z,if_pos (by omega)]
      · rw[if_neg z,if_neg (by omega)])
    rw[this]
    exact hR
  | succ e ih=>
    intro k he hk
    have hlt:k < c.length:=by omega
    have hk1:Jc (wrap64 ((k:Int) + 1)=((k + 1:Nat):Int)):=⟨wsucc hlt (by omega)⟩
    have hrk:=(h.2.2.2 k hlt).2.2.1
    have hml:=mk_len c.length (fi d i k)
    have hmr:(Jr (mk c.length (fi d i k)) (i:Int)).length=c.length:=by rw[mk_get hi,rowF_len]
    have b1:=db_bd h hi hlt
    have b2:=N_bd h hi hlt
    have hw:Jc (wrap64 (rd (Jr d (i:Int)) (k:Int) - mn (rd (Jr d (i:Int)) (k:Int)) (rd (Jr d (k:Int)) (i:Int)))=N d i k):=⟨by
      have e1:rd (Jr d (i:Int)) (k:Int) - mn (rd (Jr d (i:Int)) (k:Int)) (rd (Jr d (k:Int)) (i:Int))=N d i k:=rfl
      rw[e1,w64 (by omega) (by omega)]⟩
    refine Ev.step (fun n=>by rw[Fu.l1]) ?_
    rw[hk1.out,hw.out,Int.toNat_natCast,Int.toNat_natCast,mk_set hi hlt]
    refine evPos (by omega) (evPos (by omega) (evPos (by omega) (evPos (by omega) (evPos (by omega) (evPos (by omega) (evPos (by omega) (evPos (by omega) ?_)))))))
    have:mk c.length (fun i' j'=>if i'=i/\j'=k then N d i k else fi d i k i' j')=mk c.length (fi d i (k + 1)):=mk_congr (fun a ha b hb=>by
      unfold fi
      by_cases z:a=i/\b=k
      · rw[if_pos z,if_pos (by omega),z.1,z.2]
      · rw[if_neg z]
        by_cases y:a < i ∨ a=i/\b < k
        · rw[if_pos y,if_pos (by omega)]
        · rw[if_neg y,if_neg (by omega)])
    rw[this]
    exact ih (k + 1) (by omega) (by omega)
theorem in_l0 (h:BookP c d):∀(e i:Nat),c.length - i=e->i<=c.length->Ev (fun n=>Fu.l0 n d (c.length:Int) (i:Int) c d c (mk c.length (fi d i 0))) (c,netL c d):=by
  have hdl:=h.2.2.1
  intro e
  induction e with
  | zero=>
    intro i he hi
    obtain rfl:i=c.length:=by omega
    refine Ev.step (fun n=>by rw[Fu.l0]) ?_
    refine evNeg (by omega) (evEq (Ev.now _) ?_)
    have:mk c.length (fi d c.length 0)=netL c d:=mk_congr (fun a ha b hb=>by unfold fi;rw[if_pos (by omega)])
    rw[this]
  | succ e ih=>
    intro i he hi
    have hlt:i < c.length:=by omega
    have hri:=(h.2.2.2 i hlt).2.2.1
    refine Ev.step (fun n=>by rw[Fu.l0]) ?_
    rw[hri]
    refine evPos (by omega) (evPos (by omega) (evPos (by omega) ?_))
    exact in_l1 h hlt (ih (i + 1) (by omega) (by omega)) c.length 0 rfl (by omega)
theorem inetted (h:BookP c d):Ev (fun n=>Fu.f n c d) (c,netL c d):=by
  have hdl:=h.2.2.1
  unfold Fu.f
  refine Ev.bind (icopy h) ?_
  have e:mk c.length (fi d 0 0)=d:=(mk_congr (fun a ha b hb=>by unfold fi;rw[if_neg (by omega)])).trans (mk_of h).symm
  have:=in_l0 h c.length 0 rfl (by omega)
  rw[e] at this
  show Ev (fun n=>Fu.l0 n d (d.length:Int) 0 c d c d) (c,netL c d)
  rw[hdl]
  exact this
def fs (d:List (List Int)) (i k:Nat) (a b:Nat):Int:=if a≠b/\(max a b < i ∨ max a b=i/\min a b < k) then N d a b else db d a b
theorem sn_l1 (h:BookP c d) {i:Nat} (hi:i < c.length) {r:List Int × List (List Int)} (hR:Ev (fun n=>Fl.l0 n ((i + 1:Nat):Int) c d c (mk c.length (fs d (i + 1) 0))) r):∀(e k:Nat),i - k=e->k<=i ->
    Ev (fun n=>Fl.l1 n (i:Int) (k:Int) c d c (mk c.length (fs d i k))) r:=by
  have h4:=h.2.1
  have hdl:=h.2.2.1
  have hri:=(h.2.2.2 i hi).2.2.1
  have hs:Jc (wrap64 ((i:Int) + 1)=((i + 1:Nat):Int)):=⟨wsucc hi (by omega)⟩
  intro e
  induction e with
  | zero=>
    intro k he hk
    obtain rfl:k=i:=by omega
    refine Ev.step (fun n=>by rw[Fl.l1]) ?_
    rw[hs.out]
    refine evNeg (by omega) ?_
    have:mk c.length (fs d k k)=mk c.length (fs d (k + 1) 0):=mk_congr (fun a ha b hb=>by
      unfold fs
      by_cases z:a≠b/\(max a b < k ∨ max a b=k/\min a b < k)
      · rw[if_pos z,if_pos (by omega)]
      · rw[if_neg z,if_neg (by omega)])
    rw[this]
    exact hR
  | succ e ih=>
    intro k he hk
    have hlt:k < c.length:=by omega
    have hk1:Jc (wrap64 ((k:Int) + 1)=((k + 1:Nat):Int)):=⟨wsucc hlt (by omega)⟩
    have hrk:=(h.2.2.2 k hlt).2.2.1
    have hml:=mk_len c.length (fs d i k)
    have hmr:(Jr (mk c.length (fs d i k)) (i:Int)).length=c.length:=by rw[mk_get hi,rowF_len]
    have b1:=db_bd h hi hlt
    have b2:=N_bd h hi hlt
    have b3:=db_bd h hlt hi
    have b4:=N_bd h hlt hi
    have hw:Jc (wrap64 (rd (Jr d (i:Int)) (k:Int) - mn (rd (Jr d (i:Int)) (k:Int)) (rd (Jr d (k:Int)) (i:Int)))=N d i k):=⟨by
      have e1:rd (Jr d (i:Int)) (k:Int) - mn (rd (Jr d (i:Int)) (k:Int)) (rd (Jr d (k:Int)) (i:Int))=N d i k:=rfl
      rw[e1,w64 (by omega) (by omega)]⟩
    have hw2:Jc (wrap64 (rd (Jr d (k:Int)) (i:Int) - mn (rd (Jr d (i:Int)) (k:Int)) (rd (Jr d (k:Int)) (i:Int)))=N d k i):=⟨by
      have e1:rd (Jr d (k:Int)) (i:Int) - mn (rd (Jr d (i:Int)) (k:Int)) (rd (Jr d (k:Int)) (i:Int))=N d k i:=by
        rw[mn_comm];rfl
      rw[e1,w64 (by omega) (by omega)]⟩
    refine Ev.step (fun n=>by rw[Fl.l1]) ?_
    rw[hk1.out,hw.out,hw2.out,Int.toNat_natCast,Int.toNat_natCast,mk_set hi hlt]
    refine evPos (by omega) (evPos (by omega) (evPos (by omega) (evPos (by omega) (evPos (by omega) (evPos (by omega) (evPos (by omega) (evPos (by omega) (evPos (by omega) (evBind0 rfl ?_)))))))))
    have hml2:=mk_len c.length (fun i' j'=>if i'=i/\j'=k then N d i k else fs d i k i' j')
    have hmr2:(Jr (mk c.length (fun i' j'=>if i'=i/\j'=k then N d i k else fs d i k i' j')) (k:Int)).length=c.length:=by rw[mk_get hlt,rowF_len]
    refine evPos (by omega) (evPos (by omega) ?_)
    rw[mk_set hlt hi]
    have:mk c.length (fun i' j'=>if i'=k/\j'=i then N d k i else if i'=i/\j'=k then N d i k else fs d i k i' j')=mk c.length (fs d i (k + 1)):=mk_congr (fun a ha b hb=>by
      unfold fs
      by_cases z:a=k/\b=i
      · rw[if_pos z,if_pos (by omega),z.1,z.2]
      · rw[if_neg z]
        by_cases z2:a=i/\b=k
        · rw[if_pos z2,if_pos (by omega),z2.1,z2.2]
        · rw[if_neg z2]
          by_cases y:a≠b/\(max a b < i ∨ max a b=i/\min a b < k)
          · rw[if_pos y,if_pos (by omega)]
          · rw[if_neg y,if_neg (by omega)])
    rw[this]
    exact ih (k + 1) (by omega) (by omega)
theorem sn_l0 (h:BookP c d):∀(e i:Nat),c.length - i=e->i<=c.length->Ev (fun n=>Fl.l0 n (i:Int) c d c (mk c.length (fs d i 0))) (c,netL c d):=by
  have hdl:=h.2.2.1
  intro e
  induction e with
  | zero=>
    intro i he hi
    obtain rfl:i=c.length:=by omega
    refine Ev.step (fun n=>by rw[Fl.l0]) ?_
    refine evNeg (by omega) (evEq (Ev.now _) ?_)
    have:mk c.length (fs d c.length 0)=netL c d:=mk_congr (fun a ha b hb=>by
      unfold fs
      by_cases z:a=b
      · subst z;rw[if_neg (by omega),db_diag h ha,N_diag h ha]
      · rw[if_pos (by omega)])
    rw[this]
  | succ e ih=>
    intro i he hi
    have hlt:i < c.length:=by omega
    refine Ev.step (fun n=>by rw[Fl.l0]) ?_
    refine evPos (by omega) ?_
    exact sn_l1 h hlt (ih (i + 1) (by omega) (by omega)) i 0 rfl (by omega)
theorem sNetted (c:List Int) (d:List (List Int)):Ev (fun n=>Fl.f n c d) (@ite _ (BookP c d) (Classical.propDecidable _) (c,netL c d) ([],[])):=by
  unfold Fl.f
  by_cases h:BookP c d
  · rw[if_pos h]
    refine Ev.bind ((bookOk c d).yes h) (evPos rfl (Ev.bind (scopy h) ?_))
    have e:mk c.length (fs d 0 0)=d:=(mk_congr (fun a ha b hb=>by unfold fs;rw[if_neg (by omega)])).trans (mk_of h).symm
    have:=sn_l0 h c.length 0 rfl (by omega)
    rw[e] at this
    exact this
  · rw[if_neg h];exact Ev.bind ((bookOk c d).no h) (evNeg (by decide) (Ev.now _))
end Go.Proofs.Ytfooakkhkehpiaa.NtE
namespace Go.Proofs.Ytfooakkhkehpiaa.DkE
open Go.RowKit Go.Proofs.Ytfooakkhkehpiaa.PE Go.Proofs.Ytfooakkhkehpiaa.Qh Go.Proofs.Ytfooakkhkehpiaa.BkE Go.Proofs.YtfooakkhkehpiaaW.PrintWords Go.Proofs.YtfooakkhkehpiaaW.PrintMore
set_option linter.unusedVariables false
set_option linter.unusedSimpArgs false
abbrev B:=S25
def OkB (n:Nat) (x:B):Prop:=BookP x.f0 x.f1/\x.f0.length=n
def DeskP (c:List Int) (d:List (List Int)) (ps:List B):Prop:=BookP c d/\ps.length<=8/\∀x ∈ ps,OkB c.length x
theorem bad (n:Nat):∀(l:List B) (i:Nat),∃q:Int,(q ≥ 0 ↔ ¬ ∀x ∈ l,OkB n x)/\Ev (fun k=>F7.bad k (n:Int) l i) q
  | [],i=>⟨-1,by simp,Ev.now _⟩
  | x :: r,i=>by
    obtain⟨b,hb,e⟩:=isBook x.f0 x.f1
    by_cases h1:BookP x.f0 x.f1
    · by_cases h2:x.f0.length=n
      · obtain⟨q,hq,eq⟩:=bad n r (i + 1)
        refine⟨q,hq.trans ⟨fun z w=>z (fun y hy=>w y (List.mem_cons_of_mem _ hy)),fun z w=>z (fun y hy=>?_)⟩,?_⟩
        · rcases List.mem_cons.mp hy with rfl|h
          · exact⟨h1,h2⟩
          · exact w y h
        · show Ev (fun k=>(Fi.f k x.f0 x.f1).bind fun t=>if t=true then(if (x.f0.length:Int)=(n:Int) then F7.bad k (n:Int) r (i + 1) else some (i:Int)) else some (i:Int)) q
          exact Ev.bind e (evPos (hb.2 h1) (evPos (by omega) eq))
      · refine⟨(i:Int),⟨fun _ w=>h2 (w x (List.mem_cons_self)).2,fun _=>by omega⟩,?_⟩
        show Ev (fun k=>(Fi.f k x.f0 x.f1).bind fun t=>if t=true then(if (x.f0.length:Int)=(n:Int) then F7.bad k (n:Int) r (i + 1) else some (i:Int)) else some (i:Int)) (i:Int)
        exact Ev.bind e (evPos (hb.2 h1) (evNeg (by omega) (Ev.now _)))
    · refine⟨(i:Int),⟨fun _ w=>h1 (w x (List.mem_cons_self)).1,fun _=>by omega⟩,?_⟩
      show Ev (fun k=>(Fi.f k x.f0 x.f1).bind fun t=>if t=true then(if (x.f0.length:Int)=(n:Int) then F7.bad k (n:Int) r (i + 1) else some (i:Int)) else some (i:Int)) (i:Int)
      exact Ev.bind e (evNeg (fun z=>h1 (hb.1 z)) (Ev.now _))
theorem isDesk (c:List Int) (d:List (List Int)) (ps:List B):EvB (fun k=>F7.f k c d ps) (DeskP c d ps):=by
  unfold F7.f
  obtain⟨b,hb,e⟩:=isBook c d
  refine EvB.bind e ?_
  by_cases h:BookP c d
  · refine EvB.pos (hb.2 h) ?_
    by_cases h8:(ps.length:Int)<=8
    · refine EvB.pos h8 ?_
      obtain⟨q,hq,eq⟩:=bad c.length ps 0
      refine EvB.bind eq ⟨_,?_,Ev.now _⟩
      constructor
      · intro z
        have z2:¬ q ≥ 0:=by simpa using z
        exact⟨h,by omega,Classical.byContradiction (fun w=>z2 (hq.2 w))⟩
      · intro z
        have:¬ q ≥ 0:=fun w=>hq.1 w z.2.2
        simpa using this
    · exact EvB.neg h8 (EvB.ff (fun z=>h8 (by have:=z.2.1;omega)))
  · exact EvB.neg (fun z=>h (hb.1 z)) (EvB.ff (fun z=>h z.1))
theorem rT (xs:List B) (i:Nat):Js xs (i:Int)=xs.getD i z25:=rfl
theorem sd_l0 (c:List Int) (d:List (List Int)) (ps:List B) (hp:ps.length<=4611686018427387904):∀(e i:Nat),ps.length - i=e->i<=ps.length ->
    EvB (fun k=>Fv.l0 k (i:Int) c d ps) ((∀j:Nat,i<=j->j < ps.length->OkB c.length (Js ps (j:Int)))/\BookP c d/\ps.length<=8):=by
  intro e
  induction e with
  | zero=>
    intro i he hi
    refine EvB.step (fun k=>by rw[Fv.l0]) ?_
    refine EvB.neg (by omega) ?_
    obtain⟨b,hb,eb⟩:=bookOk c d
    refine EvB.bind eb ?_
    by_cases h:BookP c d
    · refine EvB.pos (hb.2 h) ⟨_,?_,Ev.now _⟩
      constructor
      · intro z
        have:=of_decide_eq_true z
        exact⟨fun j h1 h2=>by omega,h,by omega⟩
      · intro z
        exact decide_eq_true (by have:=z.2.2;omega)
    · exact EvB.neg (fun z=>h (hb.1 z)) (EvB.ff (fun z=>h z.2.1))
  | succ e ih=>
    intro i he hi
    have hlt:i < ps.length:=by omega
    have hs:wrap64 ((i:Int) + 1)=((i + 1:Nat):Int):=wsucc hlt hp
    refine EvB.step (fun k=>by rw[Fv.l0]) ?_
    refine EvB.pos (by omega) (EvB.pos (by omega) ?_)
    obtain⟨b,hb,eb⟩:=bookOk (Js ps (i:Int)).f0 (Js ps (i:Int)).f1
    refine EvB.bind eb ?_
    by_cases h:BookP (Js ps (i:Int)).f0 (Js ps (i:Int)).f1
    · refine EvB.pos (hb.2 h) ?_
      by_cases h2:(Js ps (i:Int)).f0.length=c.length
      · refine EvB.pos (by omega) ?_
        rw[hs]
        refine(ih (i + 1) (by omega) (by omega)).congr ⟨fun z=>⟨fun j h5 h6=>?_,z.2⟩,fun z=>⟨fun j h5 h6=>z.1 j (by omega) h6,z.2⟩⟩
        by_cases e':j=i
        · subst e';exact⟨h,h2⟩
        · exact z.1 j (by omega) h6
      · exact EvB.neg (by omega) (EvB.ff (fun z=>h2 (z.1 i (Nat.le_refl _) hlt).2))
    · exact EvB.neg (fun z=>h (hb.1 z)) (EvB.ff (fun z=>h (z.1 i (Nat.le_refl _) hlt).1))
theorem deskOk (c:List Int) (d:List (List Int)) (ps:List B) (hp:ps.length<=4611686018427387904):EvB (fun k=>Fv.f k c d ps) (DeskP c d ps):=by
  unfold Fv.f
  refine(sd_l0 c d ps hp ps.length 0 rfl (by omega)).congr ⟨fun z=>⟨z.2.1,z.2.2,fun x hx=>?_⟩,fun z=>⟨fun j _ h2=>z.2.2 _ ?_,z.1,z.2.1⟩⟩
  · obtain⟨i,hi,rfl⟩:=List.mem_iff_getElem.mp hx
    have:=z.1 i (by omega) hi
    rwa [rT,List.getD_eq_getElem?_getD,List.getElem?_eq_getElem hi] at this
  · rw[rT];exact getD_mem _ ps j h2
end Go.Proofs.Ytfooakkhkehpiaa.DkE
namespace Go.Proofs.Ytfooakkhkehpiaa.DdE
open Go.RowKit Go.Proofs.Ytfooakkhkehpiaa.PE Go.Proofs.Ytfooakkhkehpiaa.Qh Go.Proofs.Ytfooakkhkehpiaa.BkE Go.Proofs.Ytfooakkhkehpiaa.MxE Go.Proofs.Ytfooakkhkehpiaa.NtE Go.Proofs.Ytfooakkhkehpiaa.DkE Go.Proofs.Ytfooakkhkehpiaa.SkE Go.Proofs.YtfooakkhkehpiaaW.PrintWords Go.Proofs.YtfooakkhkehpiaaW.PrintMore
set_option linter.unusedVariables false
set_option linter.unusedSimpArgs false
section
variable {c c':List Int} {d d':List (List Int)}
theorem ext_book (h:BookP c d) (h':BookP c' d') (hl:c'.length=c.length) (e:∀i:Nat,i < c.length->rd c' (i:Int)=rd c (i:Int)/\∀j:Nat,j < c.length->db d' i j=db d i j):c'=c/\d'=d:=by
  constructor
  · exact ext_rd _ _ hl (fun i hi=>(e i (by omega)).1)
  · rw[mk_of h,mk_of h',hl]
    exact mk_congr (fun i hi j hj=>(e i hi).2 j hj)
theorem same (h:BookP c d) (h':BookP c' d') (hl:c'.length=c.length):EvB (fun k=>Fw.f k c' d' c d) (c'=c/\d'=d):=by
  have h4:=h.2.1
  have hd:=h.2.2.1
  have hd':=h'.2.2.1
  unfold Fw.f
  have l1:∀(i:Nat),i < c.length->∀ {R:Prop},EvB (fun k=>Fw.l0 k ((i + 1:Nat):Int) c' d' c d) R->∀(e j:Nat),c.length - j=e->j<=c.length->EvB (fun k=>Fw.l1 k (i:Int) (j:Int) c' d' c d) ((∀j':Nat,j<=j'->j' < c.length->db d' i j'=db d i j')/\R):=by
    intro i hi R hR e
    have hs:Jc (wrap64 ((i:Int) + 1)=((i + 1:Nat):Int)):=⟨wsucc hi (by omega)⟩
    have hri:=(h.2.2.2 i hi).2.2.1
    have hri':=(h'.2.2.2 i (by omega)).2.2.1
    induction e with
    | zero=>
      intro j he hj
      refine EvB.step (fun k=>by rw[Fw.l1]) ?_
      rw[hs.out]
      exact EvB.neg (by omega) (hR.congr ⟨fun z=>⟨fun j' h1 h2=>by omega,z⟩,fun z=>z.2⟩)
    | succ e ih=>
      intro j he hj
      have hlt:j < c.length:=by omega
      have hj1:Jc (wrap64 ((j:Int) + 1)=((j + 1:Nat):Int)):=⟨wsucc hlt (by omega)⟩
      refine EvB.step (fun k=>by rw[Fw.l1]) ?_
      rw[hj1.out]
      refine EvB.pos (by omega) (EvB.pos (by omega) (EvB.pos (by omega) (EvB.pos (by omega) (EvB.pos (by omega) (EvB.pos (by omega) (EvB.pos (by omega) ?_))))))
      by_cases he2:rd (Jr d' (i:Int)) (j:Int)=rd (Jr d (i:Int)) (j:Int)
      · refine EvB.pos he2 ((ih (j + 1) (by omega) (by omega)).congr ⟨fun z=>⟨fun j' h1 h2=>?_,z.2⟩,fun z=>⟨fun j' h1 h2=>z.1 j' (by omega) h2,z.2⟩⟩)
        by_cases e':j'=j
        · subst e';exact he2
        · exact z.1 j' (by omega) h2
      · exact EvB.neg he2 (EvB.ff (fun z=>he2 (z.1 j (Nat.le_refl _) hlt)))
  have l0:∀(e i:Nat),c.length - i=e->i<=c.length->EvB (fun k=>Fw.l0 k (i:Int) c' d' c d) (∀i':Nat,i<=i'->i' < c.length->rd c' (i':Int)=rd c (i':Int)/\∀j:Nat,j < c.length->db d' i' j=db d i' j):=by
    intro e
    induction e with
    | zero=>
      intro i he hi
      refine EvB.step (fun k=>by rw[Fw.l0]) ?_
      exact EvB.neg (by omega) (EvB.tt (fun i' h1 h2=>by omega))
    | succ e ih=>
      intro i he hi
      have hlt:i < c.length:=by omega
      refine EvB.step (fun k=>by rw[Fw.l0]) ?_
      refine EvB.pos (by omega) (EvB.pos (by omega) (EvB.pos (by omega) ?_))
      by_cases he2:rd c' (i:Int)=rd c (i:Int)
      · refine EvB.pos he2 ((l1 i hlt (ih (i + 1) (by omega) (by omega)) c.length 0 rfl (by omega)).congr ⟨fun z i' h1 h2=>?_,fun z=>⟨fun j' _ h2=>(z i (Nat.le_refl _) hlt).2 j' h2,fun i' h1 h2=>z i' (by omega) h2⟩⟩)
        by_cases e':i'=i
        · subst e';exact⟨he2,fun j hj=>z.1 j (by omega) hj⟩
        · exact z.2 i' (by omega) h2
      · exact EvB.neg he2 (EvB.ff (fun z=>he2 (z i (Nat.le_refl _) hlt).1))
  refine(l0 c.length 0 rfl (by omega)).congr ⟨fun z=>ext_book h h' hl (fun i hi=>z i (by omega) hi),fun z i' _ _=>?_⟩
  rw[z.1,z.2]
  exact⟨rfl,fun _ _=>rfl⟩
end
def made (c:List Int) (d:List (List Int)) (a0 a1 a2 a3:Int):Option (List Int × List (List Int)):=
  if a0=0/\(0<=a1/\a1 < (c.length:Int))/\a2=0/\0<=a3/\a3<=20 then some (c.set a1.toNat a3,d)
  else if a0=1/\(0<=a1/\a1 < (c.length:Int))/\(0<=a2/\a2 < (c.length:Int))/\a1≠a2/\0<=a3/\a3<=9 then some (c,d.set a1.toNat ((Jr d a1).set a2.toNat a3))
  else if a0=2/\a1=0/\a2=0/\a3=0 then some (c,netL c d)
  else if a0=3/\a1=0/\a2=0/\a3=0 then some (c,(without c d).1)
  else none
section
variable {c:List Int} {d:List (List Int)} {a0 a1 a2 a3:Int}
theorem cash_ok (h:BookP c d) (h1:0<=a1/\a1 < (c.length:Int)) (h2:0<=a3/\a3<=20):BookP (c.set a1.toNat a3) d:=by
  have hl:(c.set a1.toNat a3).length=c.length:=List.length_set
  refine⟨by rw[hl];exact h.1,by rw[hl];exact h.2.1,by rw[hl];exact h.2.2.1,fun i hi=>?_⟩
  rw[hl] at hi
  have hr:=h.2.2.2 i hi
  unfold RowP
  rw[hl,rd_set c a3 a1 (i:Int) h1.1 h1.2 (by omega)]
  refine⟨?_,?_,hr.2.2⟩
  · split
    · exact h2.1
    · exact hr.1
  · split
    · exact h2.2
    · exact hr.2.1
theorem debt_mk (h:BookP c d) (h1:0<=a1/\a1 < (c.length:Int)) (h2:0<=a2/\a2 < (c.length:Int)) (v:Int):d.set a1.toNat ((Jr d a1).set a2.toNat v)=mk c.length (fun i j=>if i=a1.toNat/\j=a2.toNat then v else db d i j):=by
  obtain⟨i,rfl⟩:=Int.eq_ofNat_of_zero_le h1.1
  obtain⟨j,rfl⟩:=Int.eq_ofNat_of_zero_le h2.1
  rw[Int.toNat_natCast,Int.toNat_natCast]
  have:=mk_set (n:=c.length) (i:=i) (j:=j) (f:=db d) (v:=v) (by omega) (by omega)
  rw[<- mk_of h] at this
  exact this
theorem mk_ok (h:BookP c d) (f:Nat->Nat->Int) (hf:∀i,i < c.length->f i i=0/\∀j,j < c.length->0<=f i j/\f i j<=9):BookP c (mk c.length f):=by
  refine⟨h.1,h.2.1,mk_len _ _,fun i hi=>?_⟩
  have hc:=h.2.2.2 i hi
  refine⟨hc.1,hc.2.1,?_,?_,fun j hj=>?_⟩
  · rw[mk_get hi,rowF_len]
  · rw[mk_get hi,rd_rowF hi];exact(hf i hi).1
  · rw[mk_get hi,rd_rowF hj];exact(hf i hi).2 j hj
theorem debt_ok (h:BookP c d) (h1:0<=a1/\a1 < (c.length:Int)) (h2:0<=a2/\a2 < (c.length:Int)) (hne:a1≠a2) (h3:0<=a3/\a3<=9):BookP c (d.set a1.toNat ((Jr d a1).set a2.toNat a3)):=by
  rw[debt_mk h h1 h2]
  refine mk_ok h _ (fun i hi=>⟨?_,fun j hj=>?_⟩)
  · rw[if_neg (fun z=>hne (by omega))]
    exact(h.2.2.2 i hi).2.2.2.1
  · have:=(h.2.2.2 i hi).2.2.2.2 j hj
    show 0<=(if i=a1.toNat/\j=a2.toNat then a3 else db d i j)/\(if i=a1.toNat/\j=a2.toNat then a3 else db d i j)<=9
    split
    · exact h3
    · exact this
theorem made_ok (h:BookP c d) {x:List Int × List (List Int)} (hm:made c d a0 a1 a2 a3=some x):BookP x.1 x.2/\x.1.length=c.length:=by
  unfold made at hm
  split at hm
  · next g=>obtain rfl:=Option.some.inj hm;exact⟨cash_ok h g.2.1 g.2.2.2,List.length_set⟩
  split at hm
  · next g=>obtain rfl:=Option.some.inj hm;exact⟨debt_ok h g.2.1 g.2.2.1 g.2.2.2.1 g.2.2.2.2,rfl⟩
  split at hm
  · obtain rfl:=Option.some.inj hm;exact⟨net_ok h,rfl⟩
  split at hm
  · obtain rfl:=Option.some.inj hm;exact⟨without_ok h,rfl⟩
  · cases hm
def Mp (c:List Int) (d:List (List Int)) (o:Option (List Int × List (List Int))) (g:Nat->Option (List Int × List (List Int) × Bool)):Prop:=
  ∃c' d' b,Ev g (c',d',b)/\(b=true ↔ ∃x,o=some x/\x≠(c,d))/\(b=true->o=some (c',d'))
theorem Mp.step {o:Option (List Int × List (List Int))} {g f:Nat->Option (List Int × List (List Int) × Bool)} (e:∀k,g (k + 1)=f k) (h:Mp c d o f):Mp c d o g:=by
  obtain⟨c',d',b,h1,h2⟩:=h
  exact⟨c',d',b,Ev.step e h1,h2⟩
theorem Mp.pos {o:Option (List Int × List (List Int))} {p:Prop} [Decidable p] {g f:Nat->Option (List Int × List (List Int) × Bool)} (hp:p) (h:Mp c d o g):Mp c d o (fun k=>if p then g k else f k):=by
  obtain⟨c',d',b,h1,h2⟩:=h
  exact⟨c',d',b,evPos hp h1,h2⟩
theorem Mp.neg {o:Option (List Int × List (List Int))} {p:Prop} [Decidable p] {g f:Nat->Option (List Int × List (List Int) × Bool)} (hp:¬ p) (h:Mp c d o f):Mp c d o (fun k=>if p then g k else f k):=by
  obtain⟨c',d',b,h1,h2⟩:=h
  exact⟨c',d',b,evNeg hp h1,h2⟩
theorem Mp.bind {β:Type} {o:Option (List Int × List (List Int))} {g:Nat->Option β} {f:Nat->β->Option (List Int × List (List Int) × Bool)} {a:β} (e:Ev g a) (h:Mp c d o (fun k=>f k a)):Mp c d o (fun k=>(g k).bind (f k)):=by
  obtain⟨c',d',b,h1,h2⟩:=h
  exact⟨c',d',b,Ev.bind e h1,h2⟩
theorem Mp.bind0 {β:Type} {o:Option (List Int × List (List Int))} {g:Option β} {f:Nat->β->Option (List Int × List (List Int) × Bool)} {a:β} (e:g=some a) (h:Mp c d o (fun k=>f k a)):Mp c d o (fun k=>g.bind (f k)):=by
  obtain⟨c',d',b,h1,h2⟩:=h
  exact⟨c',d',b,evBind0 e h1,h2⟩
theorem Mp.fin (h:BookP c d) {c':List Int} {d':List (List Int)} (h':BookP c' d') (hl:c'.length=c.length):Mp c d (some (c',d')) (fun k=>(Fw.f k c' d' c d).bind fun t=>(some (c',d', !t))):=by
  obtain⟨b,hb,he⟩:=same h h' hl
  refine⟨c',d', !b,Ev.bind he (Ev.now _),?_,fun _=>rfl⟩
  constructor
  · intro z
    refine⟨_,rfl,fun e=>?_⟩
    have:b=true:=hb.2 (by simpa using e)
    rw[this] at z;simp at z
  · rintro⟨x,hx,hne⟩
    obtain rfl:=Option.some.inj hx
    have:¬ b=true:=fun z=>hne (by have:=hb.1 z;rw[this.1,this.2])
    simpa using this
theorem Mp.none_:Mp c d none (fun _=>some ([],[],false)):=⟨[],[],false,Ev.now _,by simp,by simp⟩
theorem j1f (h:BookP c d) (h01:¬ (a0=0/\(0<=a1/\a1 < (c.length:Int))/\a2=0/\0<=a3/\a3<=20)) (h02:¬ (a0=1/\(0<=a1/\a1 < (c.length:Int))/\(0<=a2/\a2 < (c.length:Int))/\a1≠a2/\0<=a3/\a3<=9)) :
    Mp c d (made c d a0 a1 a2 a3) (fun k=>Fr.j1 k false c d a0 a1 a2 a3 c d):=by
  refine Mp.step (fun k=>by rw[Fr.j1]) ?_
  refine Mp.neg (by decide) ?_
  unfold made
  rw[if_neg h01,if_neg h02]
  by_cases g2:a0=2/\a1=0/\a2=0/\a3=0
  · rw[if_pos g2]
    refine Mp.pos (by simp[g2]) (Mp.bind (sNetted c d) ?_)
    rw[if_pos h]
    exact Mp.fin h (net_ok h) rfl
  rw[if_neg g2]
  refine Mp.neg (by simpa using g2) ?_
  by_cases g3:a0=3/\a1=0/\a2=0/\a3=0
  · rw[if_pos g3]
    refine Mp.pos (by simp[g3]) (Mp.bind (sWithout c d) ?_)
    rw[if_pos h]
    exact Mp.fin h (without_ok h) rfl
  rw[if_neg g3]
  exact Mp.neg (by simpa using g3) Mp.none_
theorem j0f (h:BookP c d) (h01:¬ (a0=0/\(0<=a1/\a1 < (c.length:Int))/\a2=0/\0<=a3/\a3<=20)) :
    Mp c d (made c d a0 a1 a2 a3) (fun k=>Fr.j0 k (c.length:Int) false c d a0 a1 a2 a3 c d):=by
  have h4:=h.2.1
  have h1l:=h.1
  have hdl:=h.2.2.1
  have hw:Jc (wrap64 ((c.length:Int) - 1)=(c.length:Int) - 1):=⟨w64 (by omega) (by omega)⟩
  refine Mp.step (fun k=>by rw[Fr.j0]) ?_
  rw[hw.out]
  refine Mp.neg (by decide) ?_
  by_cases k1:a0=1
  · refine Mp.pos k1 (Mp.bind0 (sIn _ _ _) ?_)
    by_cases k2:0<=a1/\a1<=(c.length:Int) - 1
    · refine Mp.pos (decide_eq_true k2) (Mp.bind0 (sIn _ _ _) ?_)
      by_cases k3:0<=a2/\a2<=(c.length:Int) - 1
      · refine Mp.pos (decide_eq_true k3) ?_
        by_cases k4:a1=a2
        · exact Mp.pos k4 (j1f h h01 (fun z=>z.2.2.2.1 k4))
        · refine Mp.neg k4 (Mp.bind0 (sIn _ _ _) ?_)
          by_cases k5:0<=a3/\a3<=9
          · rw[decide_eq_true k5]
            refine Mp.step (fun k=>by rw[Fr.j1]) ?_
            have hrl:=(CrE.row_len h (i:=a1) ⟨by omega,by omega⟩)
            refine Mp.pos rfl (Mp.pos (by omega) (Mp.pos (by omega) (Mp.pos (by omega) (Mp.pos (by omega) (Mp.bind0 rfl ?_)))))
            unfold made
            rw[if_neg h01,if_pos ⟨k1,⟨by omega,by omega⟩,⟨by omega,by omega⟩,k4,k5⟩]
            exact Mp.fin h (debt_ok h ⟨by omega,by omega⟩ ⟨by omega,by omega⟩ k4 k5) rfl
          · rw[decide_eq_false k5]
            exact j1f h h01 (fun z=>k5 z.2.2.2.2)
      · exact Mp.neg (by simpa using k3) (j1f h h01 (fun z=>k3 ⟨by omega,by omega⟩))
    · exact Mp.neg (by simpa using k2) (j1f h h01 (fun z=>k2 ⟨by omega,by omega⟩))
  · exact Mp.neg k1 (j1f h h01 (fun z=>k1 z.1))
theorem sMade (h:BookP c d):Mp c d (made c d a0 a1 a2 a3) (fun k=>Fr.f k c d a0 a1 a2 a3):=by
  have h4:=h.2.1
  have h1l:=h.1
  have hw:Jc (wrap64 ((c.length:Int) - 1)=(c.length:Int) - 1):=⟨w64 (by omega) (by omega)⟩
  unfold Fr.f
  refine Mp.bind (scopy h) ?_
  by_cases k1:a0=0
  · refine Mp.pos k1 ?_
    rw[hw.out]
    refine Mp.bind0 (sIn _ _ _) ?_
    by_cases k2:0<=a1/\a1<=(c.length:Int) - 1
    · refine Mp.pos (decide_eq_true k2) ?_
      by_cases k3:a2=0
      · refine Mp.pos k3 (Mp.bind0 (sIn _ _ _) ?_)
        by_cases k4:0<=a3/\a3<=20
        · rw[decide_eq_true k4]
          refine Mp.step (fun k=>by rw[Fr.j0]) ?_
          refine Mp.pos rfl (Mp.pos (by omega) (Mp.pos (by show a1 < (c.length:Int);omega) (Mp.bind0 rfl ?_)))
          unfold made
          rw[if_pos ⟨k1,⟨by omega,by omega⟩,k3,k4⟩]
          exact Mp.fin h (cash_ok h ⟨by omega,by omega⟩ k4) List.length_set
        · rw[decide_eq_false k4]
          exact j0f h (fun z=>k4 z.2.2.2)
      · exact Mp.neg k3 (j0f h (fun z=>k3 z.2.2.1))
    · exact Mp.neg (by simpa using k2) (j0f h (fun z=>k2 ⟨by omega,by omega⟩))
  · exact Mp.neg k1 (j0f h (fun z=>k1 z.1))
end
section
variable {c:List Int} {d:List (List Int)} {ps:List B} {a0 a1 a2 a3:Int}
theorem sDcopy (h:DeskP c d ps):Ev (fun k=>Fn.f k c d ps) (c,d,ps):=by
  unfold Fn.f
  refine Ev.bind (scopy h.1) ?_
  have h8:=h.2.1
  have key:∀(e i:Nat),ps.length - i=e->i<=ps.length->Ev (fun k=>Fn.l0 k (i:Int) c d ps c d (ps.take i)) (c,d,ps):=by
    intro e
    induction e with
    | zero=>
      intro i he hi
      obtain rfl:i=ps.length:=by omega
      refine Ev.step (fun k=>by rw[Fn.l0]) ?_
      rw[List.take_length]
      exact evNeg (by omega) (Ev.now _)
    | succ e ih=>
      intro i he hi
      have hlt:i < ps.length:=by omega
      have hs:Jc (wrap64 ((i:Int) + 1)=((i + 1:Nat):Int)):=⟨wsucc hlt (by omega)⟩
      have htl:(ps.take i).length=i:=by rw[List.length_take];omega
      have hmem:Js ps (i:Int) ∈ ps:=by rw[rT];exact getD_mem _ ps i hlt
      have e2:ps.take i ++ [Js ps (i:Int)]=ps.take (i + 1):=by
        rw[rT,List.getD_eq_getElem?_getD,List.getElem?_eq_getElem hlt,List.take_succ_eq_append_getElem hlt];rfl
      refine Ev.step (fun k=>by rw[Fn.l0]) ?_
      rw[hs.out]
      refine evPos (by omega) (evPos (by omega) (Ev.bind (scopy (h.2.2 _ hmem).1) (evPos (by omega) ?_)))
      show Ev (fun k=>Fn.l0 k ((i + 1:Nat):Int) c d ps c d (ps.take i ++ [Js ps (i:Int)])) _
      rw[e2]
      exact ih (i + 1) (by omega) (by omega)
  exact key ps.length 0 rfl (by omega)
def push (c:List Int) (d:List (List Int)) (ps:List B):List B:=if ps.length + 1 > 8 then(ps ++ [(⟨c,d⟩:B)]).drop 1 else ps ++ [(⟨c,d⟩:B)]
open Classical in
noncomputable def dd (c:List Int) (d:List (List Int)) (ps:List B) (a0 a1 a2 a3:Int):List Int × List (List Int) × List B × Bool:=
  if DeskP c d ps then
    (if (a0=4/\a1=0/\a2=0/\a3=0)/\0 < ps.length then((Js ps ((ps.length - 1:Nat):Int)).f0,(Js ps ((ps.length - 1:Nat):Int)).f1,ps.take (ps.length - 1),true)
    else if made c d a0 a1 a2 a3=none ∨ made c d a0 a1 a2 a3=some (c,d) then(c,d,ps,false)
    else(((made c d a0 a1 a2 a3).getD (c,d)).1,((made c d a0 a1 a2 a3).getD (c,d)).2,push c d ps,true))
  else([],[],[],false)
theorem sDo (hp:ps.length<=4611686018427387904):Ev (fun k=>G1.f k c d ps a0 a1 a2 a3) (dd c d ps a0 a1 a2 a3):=by
  unfold G1.f dd
  have eA:((a0 == 4 && (a1 == 0 && (a2 == 0 && (a3 == 0))))=true)=(a0=4/\a1=0/\a2=0/\a3=0):=by simp
  by_cases h:DeskP c d ps
  · rw[if_pos h]
    have h8:=h.2.1
    by_cases hb:(a0=4/\a1=0/\a2=0/\a3=0)/\0 < ps.length
    · rw[if_pos hb]
      refine evPos (by rw[eA];exact hb) (Ev.bind ((deskOk c d ps hp).yes h) (evPos rfl (Ev.bind (sDcopy h) ?_)))
      exact evPos ⟨by show 0 < ps.length;exact hb.2,by show ps.length < 2932031007402;omega⟩ (Ev.now _)
    · rw[if_neg hb]
      refine evNeg (by rw[eA];exact hb) ?_
      unfold Gp.f
      refine Ev.bind ((deskOk c d ps hp).yes h) (evPos rfl (Ev.bind (sDcopy h) ?_))
      have key:Ev (fun k=>Gp.j0 k false c d ps a0 a1 a2 a3 c d ps) (if made c d a0 a1 a2 a3=none ∨ made c d a0 a1 a2 a3=some (c,d) then(c,d,ps,false) else(((made c d a0 a1 a2 a3).getD (c,d)).1,((made c d a0 a1 a2 a3).getD (c,d)).2,push c d ps,true)):=by
        obtain⟨c',d',b,h1,h2,h3⟩:=sMade (a0:=a0) (a1:=a1) (a2:=a2) (a3:=a3) h.1
        refine Ev.step (fun k=>by rw[Gp.j0]) ?_
        refine evNeg (by decide) (Ev.bind h1 ?_)
        by_cases hbt:b=true
        · have hm:=h3 hbt
          obtain⟨x,hx,hne⟩:=h2.1 hbt
          rw[hm] at hx
          obtain rfl:=Option.some.inj hx
          have hR:(if made c d a0 a1 a2 a3=none ∨ made c d a0 a1 a2 a3=some (c,d) then(c,d,ps,false) else(((made c d a0 a1 a2 a3).getD (c,d)).1,((made c d a0 a1 a2 a3).getD (c,d)).2,push c d ps,true))=(c',d',push c d ps,true):=by
            rw[hm]
            exact if_neg (fun z=>z.elim (fun z=>by cases z) (fun z=>hne (Option.some.inj z)))
          rw[hR]
          refine evPos hbt (evPos (by omega) (evBind0 rfl ?_))
          have hlen:(ps ++ [(⟨c,d⟩:B)]).length=ps.length + 1:=by simp
          unfold push
          by_cases h9:ps.length + 1 > 8
          · rw[if_pos h9]
            exact evPos (by omega) (evPos (by omega) (Ev.now _))
          · rw[if_neg h9]
            exact evNeg (by omega) (Ev.now _)
        · have hR:(if made c d a0 a1 a2 a3=none ∨ made c d a0 a1 a2 a3=some (c,d) then(c,d,ps,false) else(((made c d a0 a1 a2 a3).getD (c,d)).1,((made c d a0 a1 a2 a3).getD (c,d)).2,push c d ps,true))=(c,d,ps,false):=by
            refine if_pos ?_
            cases hm:made c d a0 a1 a2 a3 with
            | none=>exact .inl rfl
            | some x=>
              right
              apply Classical.byContradiction
              intro hne
              exact hbt (h2.2 ⟨x,hm,fun e=>hne (by rw[e])⟩)
          rw[hR]
          exact evNeg hbt (Ev.now _)
      by_cases hA:a0=4/\a1=0/\a2=0/\a3=0
      · have hz:decide ((ps.length:Int) > 0)=false:=decide_eq_false (fun z=>hb ⟨hA,by omega⟩)
        refine evPos (by rw[eA];exact hA) ?_
        rw[hz]
        exact key
      · exact evNeg (by rw[eA];exact hA) key
  · rw[if_neg h]
    by_cases hb:(a0=4/\a1=0/\a2=0/\a3=0)/\0 < ps.length
    · exact evPos (by rw[eA];exact hb) (Ev.bind ((deskOk c d ps hp).no h) (evNeg (by decide) (Ev.now _)))
    · refine evNeg (by rw[eA];exact hb) ?_
      unfold Gp.f
      exact Ev.bind ((deskOk c d ps hp).no h) (evNeg (by decide) (Ev.now _))
theorem push_len (h8:ps.length<=8):(push c d ps).length<=8/\(push c d ps).length<=ps.length + 1:=by
  unfold push
  split
  · simp;omega
  · simp;omega
theorem push_mem {x:B} (h:x ∈ push c d ps):x ∈ ps ∨ x=⟨c,d⟩:=by
  unfold push at h
  split at h
  · have:=List.mem_of_mem_drop h
    simpa using this
  · simpa using h
theorem dd_ok (h:DeskP c d ps):DeskP (dd c d ps a0 a1 a2 a3).1 (dd c d ps a0 a1 a2 a3).2.1 (dd c d ps a0 a1 a2 a3).2.2.1/\(dd c d ps a0 a1 a2 a3).1.length=c.length/\(dd c d ps a0 a1 a2 a3).2.2.1.length<=ps.length + 1:=by
  have h8:=h.2.1
  unfold dd
  rw[if_pos h]
  split
  · next hb=>
    have hmem:Js ps ((ps.length - 1:Nat):Int) ∈ ps:=by rw[rT];exact getD_mem _ ps _ (by omega)
    have hk:=h.2.2 _ hmem
    refine⟨⟨hk.1,by simp;omega,fun x hx=>?_⟩,hk.2,by simp;omega⟩
    have:=h.2.2 x (List.mem_of_mem_take hx)
    exact⟨this.1,by rw[this.2,hk.2]⟩
  split
  · exact⟨h,rfl,by show ps.length<=_;omega⟩
  · next hm=>
    have hl:=push_len (c:=c) (d:=d) h8
    cases hq:made c d a0 a1 a2 a3 with
    | none=>exact absurd (.inl hq) hm
    | some x=>
      have hx:=made_ok h.1 hq
      refine⟨⟨hx.1,hl.1,fun y hy=>?_⟩,hx.2,hl.2⟩
      rcases push_mem hy with hy|rfl
      · have:=h.2.2 y hy
        exact⟨this.1,by rw[this.2];exact hx.2.symm⟩
      · exact⟨h.1,hx.2.symm⟩
end
end Go.Proofs.Ytfooakkhkehpiaa.DdE
namespace Go.Proofs.Ytfooakkhkehpiaa.NeE
open Go.RowKit Go.Proofs.Ytfooakkhkehpiaa.PE Go.Proofs.Ytfooakkhkehpiaa.Qh Go.Proofs.Ytfooakkhkehpiaa.BkE Go.Proofs.Ytfooakkhkehpiaa.MxE Go.Proofs.Ytfooakkhkehpiaa.OwE Go.Proofs.YtfooakkhkehpiaaW.PrintWords Go.Proofs.YtfooakkhkehpiaaW.PrintMore
set_option linter.unusedVariables false
set_option linter.unusedSimpArgs false
variable {c:List Int} {d:List (List Int)}
def cs (d:List (List Int)):Nat->Nat->Int
  | 0,_=>0
  | i + 1,j=>cs d i j + db d i j
end Go.Proofs.Ytfooakkhkehpiaa.NeE
namespace Go.Proofs.Ytfooakkhkehpiaa.SiE
open Go.RowKit Go.Proofs.Ytfooakkhkehpiaa.PE Go.Proofs.Ytfooakkhkehpiaa.Qh Go.Proofs.Ytfooakkhkehpiaa.BkE Go.Proofs.Ytfooakkhkehpiaa.MxE Go.Proofs.Ytfooakkhkehpiaa.CrE Go.Proofs.Ytfooakkhkehpiaa.SkE Go.Proofs.YtfooakkhkehpiaaW.PrintWords Go.Proofs.YtfooakkhkehpiaaW.PrintMore
set_option linter.unusedVariables false
set_option linter.unusedSimpArgs false
variable {c:List Int} {d:List (List Int)} {q:List Int}
theorem is_l0 (h:BookP c d) (hq:CirP c.length d q) {r:List Int × List (List Int)} (hR:Ev (fun k=>Fk.l1 k q (lowest d q) q (q.length:Int) 0 c d) r):∀(e k:Nat) (x:Int),q.length - k=e->k<=q.length->low d q e k x=lowest d q->Ev (fun n=>Fk.l0 n q x q (q.length:Int) (k:Int) c d c d) r:=by
  have h4:=h.2.1
  have hdl:=h.2.2.1
  have hql:=hq.1.len
  have hq0:=hq.1.1
  intro e
  induction e with
  | zero=>
    intro k x he hk hx
    refine Ev.step (fun n=>by rw[Fk.l0]) ?_
    refine evNeg (by omega) ?_
    rw[low] at hx
    rw[hx]
    exact hR
  | succ e ih=>
    intro k x he hk hx
    have hlt:k < q.length:=by omega
    have hk1:Jc (wrap64 ((k:Int) + 1)=((k + 1:Nat):Int)):=⟨ki q k hlt (by omega)⟩
    have htm:Jc (Int.tmod ((k + 1:Nat):Int) (q.length:Int)=((nx q k:Nat):Int)):=⟨tm q k⟩
    have a1:=cir_at hq hlt
    have a2:=cir_at hq (nx_lt hq0 k)
    have hn:=nx_lt hq0 k
    have hrl:=row_len h a1
    refine Ev.step (fun n=>by rw[Fk.l0]) ?_
    rw[hk1.out,htm.out]
    refine evPos (by omega) (evPos (by omega) (evPos (by omega) (evPos a1.1 (evPos (by omega) (evNeg (by omega) (evPos (by omega) (evPos (by omega) (evPos a2.1 (evPos (by omega) ?_)))))))))
    exact ih (k + 1) _ (by omega) (by omega) (by rw[low] at hx;exact hx)
theorem is_l1 (h:BookP c d) (hq:CirP c.length d q):∀(e k:Nat),q.length - k=e->k<=q.length->Ev (fun n=>Fk.l1 n q (lowest d q) q (q.length:Int) (k:Int) c (mk c.length (SkE.part d q k))) (c,struck c d q):=by
  have h4:=h.2.1
  have hdl:=h.2.2.1
  have hql:=hq.1.len
  have hq0:=hq.1.1
  intro e
  induction e with
  | zero=>
    intro k he hk
    refine Ev.step (fun n=>by rw[Fk.l1]) ?_
    have:k=q.length:=by omega
    subst this
    exact evNeg (by omega) (Ev.now _)
  | succ e ih=>
    intro k he hk
    have hlt:k < q.length:=by omega
    have hk1:Jc (wrap64 ((k:Int) + 1)=((k + 1:Nat):Int)):=⟨ki q k hlt (by omega)⟩
    have htm:Jc (Int.tmod ((k + 1:Nat):Int) (q.length:Int)=((nx q k:Nat):Int)):=⟨tm q k⟩
    have a1:=cir_at hq hlt
    have a2:=cir_at hq (nx_lt hq0 k)
    have hn:=nx_lt hq0 k
    have hml:=mk_len c.length (SkE.part d q k)
    have hle:=lowest_le hq hlt
    have hlp:=lowest_pos hq
    have hee:=edge_le h hq hlt
    obtain⟨a,ha⟩:=Int.eq_ofNat_of_zero_le a1.1
    obtain⟨b,hb⟩:=Int.eq_ofNat_of_zero_le a2.1
    have hac:a < c.length:=by omega
    have hbc:b < c.length:=by omega
    have hmr:(Jr (mk c.length (SkE.part d q k)) (rd q (k:Int))).length=c.length:=by rw[ha,mk_get hac,rowF_len]
    have hnot:¬ hit q k a b=true:=fun z=>by
      obtain⟨k',h1,h2,_⟩:=hit_iff.1 z
      have:=cir_inj hq (show k' < q.length by omega) hlt (by rw[h2,ha])
      omega
    have hw:Jc (wrap64 (rd (Jr (mk c.length (SkE.part d q k)) (rd q (k:Int))) (rd q ((nx q k:Nat):Int)) - lowest d q)=db d a b - lowest d q):=⟨by
      have e2:edge d q k=db d a b:=by unfold edge;rw[ha,hb]
      rw[ha,hb,mk_get hac,rd_rowF hbc]
      have e3:SkE.part d q k a b=db d a b:=if_neg hnot
      rw[e3, <- e2,w64 (by omega) (by omega)]⟩
    refine Ev.step (fun n=>by rw[Fk.l1]) ?_
    rw[hk1.out,htm.out]
    refine evPos (by omega) (evPos (by omega) (evPos (by omega) (evPos a1.1 (evPos (by omega) (evNeg (by omega) (evPos (by omega) (evPos (by omega) (evPos a2.1 (evPos (by omega) ?_)))))))))
    rw[hw.out,ha,hb,Int.toNat_natCast,Int.toNat_natCast,mk_set hac hbc]
    have:mk c.length (fun i' j'=>if i'=a/\j'=b then db d a b - lowest d q else SkE.part d q k i' j')=mk c.length (SkE.part d q (k + 1)):=mk_congr (fun i hi j hj=>by
      by_cases z:i=a/\j=b
      · rw[if_pos z]
        unfold SkE.part
        rw[if_pos (hit_iff.2 ⟨k,by omega,by rw[ha,z.1],by rw[hb,z.2]⟩),z.1,z.2]
      · rw[if_neg z]
        unfold SkE.part
        have:hit q (k + 1) i j=hit q k i j:=by
          rw[Bool.eq_iff_iff,hit_iff,hit_iff]
          constructor
          · rintro⟨k',h1,h2,h3⟩
            by_cases e':k'=k
            · subst e'
              rw[ha] at h2;rw[hb] at h3
              exact absurd ⟨by omega,by omega⟩ z
            · exact⟨k',by omega,h2,h3⟩
          · rintro⟨k',h1,h2⟩
            exact⟨k',by omega,h2⟩
        rw[this])
    rw[this]
    exact ih (k + 1) (by omega) (by omega)
theorem iStruck (h:BookP c d) (hq:CirP c.length d q):Ev (fun k=>Fk.f k c d q) (c,struck c d q):=by
  unfold Fk.f
  refine Ev.bind (icopy h) (is_l0 h hq ?_ q.length 0 9 rfl (by omega) rfl)
  have:=is_l1 h hq q.length 0 rfl (by omega)
  have e:mk c.length (SkE.part d q 0)=d:=(mk_congr (fun i _ j _=>by unfold SkE.part hit;simp)).trans (mk_of h).symm
  rw[e] at this
  exact this
end Go.Proofs.Ytfooakkhkehpiaa.SiE
namespace Go.Proofs.Ytfooakkhkehpiaa.CqE
open Go.RowKit Go.Proofs.Ytfooakkhkehpiaa.PE Go.Proofs.Ytfooakkhkehpiaa.Qh Go.Proofs.Ytfooakkhkehpiaa.BkE Go.Proofs.Ytfooakkhkehpiaa.MxE Go.Proofs.Ytfooakkhkehpiaa.CrE Go.Proofs.YtfooakkhkehpiaaW.PrintWords Go.Proofs.YtfooakkhkehpiaaW.PrintMore
set_option linter.unusedVariables false
set_option linter.unusedSimpArgs false
open Go.Proofs.Ytfooakkhkehpiaa.PE.Circ (walkI rowI stepI lastI foundI cmpI lexc cmpl insL srtL)
variable {c:List Int} {d:List (List Int)}
theorem row_lead {F:List Int->List (List Int)} {p row:List Int} {n a:Nat} (ha:rd p 0=(a:Int)) (han:a < n):∀(e j:Nat),j + e=n->j<=a->rowI F p row e j=rowI F p row (n - a) a
  | 0,j,he,hj=>by omega
  | e + 1,j,he,hj=>by
    by_cases h:j=a
    · subst h
      have:n - j=e + 1:=by omega
      rw[this]
    · rw[rowI]
      have hs:stepI F p row j=[]:=by unfold stepI;rw[if_pos (.inr (by rw[ha];omega))]
      rw[hs,List.nil_append]
      exact row_lead ha han e (j + 1) (by omega) (by omega)
theorem walk_eq (h:BookP c d):∀(m m':Nat) (p:List Int),PathP c.length d p->c.length < m + p.length->c.length < m' + p.length->walkI d m p=P c.length d m' p
  | 0,_,p,hp,hm,_=>by have:=hp.len;omega
  | _,0,p,hp,_,hm=>by have:=hp.len;omega
  | m + 1,m' + 1,p,hp,hm,hm'=>by
    have hh:=hp.head
    have hl:=hp.last
    have hrl:=row_len h hl
    obtain⟨a,ha⟩:=Int.eq_ofNat_of_zero_le hh.1
    have han:a < c.length:=by omega
    have e1:d.getD (lastI p).toNat []=Jr d (la p):=rfl
    rw[walkI,P,e1,hrl,row_lead ha han c.length 0 (by omega) (by omega)]
    have e2:c.length - a=(c.length - (a + 1)) + 1:=by omega
    rw[e2,rowI]
    have ha':(rd p 0).toNat=a:=by rw[ha];rfl
    rw[ha']
    have s0:stepI (walkI d m) p (Jr d (la p)) a=self d p:=by
      unfold stepI self
      have hge:=row_ge h hl (j:=(a:Int)) ⟨by omega,by omega⟩
      rw[ha]
      by_cases hz:rd (Jr d (la p)) (a:Int)=0
      · rw[if_pos (.inl hz),if_neg (fun z=>by have:=z.2;omega)]
      · rw[if_neg (fun z=>z.elim hz (fun y=>by omega)),if_pos rfl]
        have h1:1 < p.length:=by
          apply Classical.byContradiction
          intro h1
          have hp0:=hp.1
          have hp1:p.length=1:=by omega
          have e3:la p=(a:Int):=by unfold la;rw[hp1];exact ha
          rw[e3] at hz
          exact hz (h.2.2.2 a han).2.2.2.1
        rw[if_pos ⟨h1,by omega⟩]
    rw[s0]
    congr 1
    have key:∀(e j:Nat),j + e=c.length->a < j->rowI (walkI d m) p (Jr d (la p)) e j=rest (P c.length d m') d p e j:=by
      intro e
      induction e with
      | zero=>intro j _ _;rfl
      | succ e ih=>
        intro j he hj
        rw[rowI,rest,ih (j + 1) (by omega) (by omega)]
        congr 1
        unfold stepI
        have hge:=row_ge h hl (j:=(j:Int)) ⟨by omega,by omega⟩
        rw[ha]
        by_cases hz:rd (Jr d (la p)) (j:Int)=0
        · rw[if_pos (.inl hz),if_pos (.inl hz)]
        · rw[if_neg (fun z=>z.elim hz (fun y=>by omega)),if_neg (by omega)]
          by_cases hm:(j:Int) ∈ p
          · rw[if_pos hm,if_pos (.inr hm)]
          · rw[if_neg hm,if_neg (fun z=>z.elim hz hm)]
            have hs:=hp.snoc (j:=j) (by omega) (by omega) hm (by omega)
            exact walk_eq h m m' _ hs (by rw[List.length_append,List.length_singleton];omega) (by rw[List.length_append,List.length_singleton];omega)
    exact key _ (a + 1) (by omega) (by omega)
theorem found_eq (h:BookP c d):∀(e i:Nat),i + e=c.length->foundI d e i=found c.length d e i
  | 0,_,_=>rfl
  | e + 1,i,hi=>by
    have h4:=h.2.1
    have hdl:=h.2.2.1
    rw[foundI,found,found_eq h e (i + 1) (by omega),walk_eq h d.length 4 [(i:Int)] (PathP.one (by omega)) (by rw[List.length_singleton];omega) (by rw[List.length_singleton];omega)]
def cR (F:List Int->Nat) (p:List Int):Nat->Nat->Nat
  | 0,_=>0
  | e + 1,j=>(if (j:Int) ∈ p then 0 else F (p ++ [(j:Int)])) + cR F p e (j + 1)
def cP (n:Nat):Nat->List Int->Nat
  | 0,_=>0
  | m + 1,p=>(if 1 < p.length then 1 else 0) + cR (cP n m) p (n - ((rd p 0).toNat + 1)) ((rd p 0).toNat + 1)
def cF (n:Nat):Nat->Nat->Nat
  | 0,_=>0
  | e + 1,i=>cP n 4 [(i:Int)] + cF n e (i + 1)
theorem cR_le {F:List Int->List (List Int)} {G:List Int->Nat} (hFG:∀q,(F q).length<=G q) (p:List Int):∀(e j:Nat),(rest F d p e j).length<=cR G p e j
  | 0,_=>Nat.le_refl _
  | e + 1,j=>by
    rw[rest,cR,List.length_append]
    have h1:=cR_le hFG p e (j + 1)
    have h2:(if rd (Jr d (la p)) (j:Int)=0 ∨ (j:Int) ∈ p then[] else F (p ++ [(j:Int)])).length<=(if (j:Int) ∈ p then 0 else G (p ++ [(j:Int)])):=by
      by_cases hm:(j:Int) ∈ p
      · rw[if_pos (.inr hm),if_pos hm];exact Nat.le_refl _
      · rw[if_neg hm]
        split
        · exact Nat.zero_le _
        · exact hFG _
    omega
theorem cP_le (n:Nat):∀(m:Nat) (p:List Int),(P n d m p).length<=cP n m p
  | 0,_=>Nat.le_refl _
  | m + 1,p=>by
    rw[P,cP,List.length_append]
    have h1:=cR_le (d:=d) (cP_le n m) p (n - ((rd p 0).toNat + 1)) ((rd p 0).toNat + 1)
    have h2:(self d p).length<=if 1 < p.length then 1 else 0:=by
      unfold self
      by_cases h:1 < p.length
      · rw[if_pos h];split <;> simp
      · rw[if_neg h,if_neg (fun z=>h z.1)];exact Nat.le_refl _
    omega
theorem cF_le (n:Nat):∀(e i:Nat),(found n d e i).length<=cF n e i
  | 0,_=>Nat.le_refl _
  | e + 1,i=>by
    rw[found,cF,List.length_append]
    have h1:=cP_le (d:=d) n 4 [(i:Int)]
    have h2:=cF_le n e (i + 1)
    omega
theorem cF4:∀n,n<=4->cF n n 0<=20
  | 0,_=>by decide
  | 1,_=>by decide
  | 2,_=>by decide
  | 3,_=>by decide
  | 4,_=>by decide
  | n + 5,h=>by omega
theorem cmpI_lt (a b:Int):(cmpI a b < 0 ↔ a < b)/\(cmpI a b=0 ↔ a=b):=by
  unfold cmpI
  by_cases h:a < b
  · rw[if_pos h];exact⟨⟨fun _=>h,fun _=>by decide⟩,⟨fun z=>by simp at z,fun z=>by omega⟩⟩
  · rw[if_neg h]
    by_cases h2:a > b
    · rw[if_pos h2];exact⟨⟨fun z=>by simp at z,fun z=>by omega⟩,⟨fun z=>by simp at z,fun z=>by omega⟩⟩
    · rw[if_neg h2];exact⟨⟨fun z=>by simp at z,fun z=>by omega⟩,⟨fun _=>by omega,fun _=>rfl⟩⟩
theorem lex_lt:∀(a b:List Int),a.length=b.length->(lexc a b < 0 ↔ lexlt a b=true)
  | [],[],_=>by simp[lexc,lexlt]
  | [],_ :: _,h=>by simp at h
  | _ :: _,[],h=>by simp at h
  | a :: r,b :: s,h=>by
    rw[lexc,lexlt]
    have hc:=cmpI_lt a b
    by_cases e:a=b
    · rw[if_pos (hc.2.2 e),if_pos e];exact lex_lt r s (by simpa using h)
    · rw[if_neg (fun z=>e (hc.2.1 z)),if_neg e,hc.1];simp
theorem cmp_bef (a b:List Int):cmpl a b < 0 ↔ bef a b=true:=by
  unfold cmpl bef
  have hc:=cmpI_lt (a.length:Int) (b.length:Int)
  by_cases e:a.length=b.length
  · rw[if_pos (hc.2.2 (by omega)),if_pos e];exact lex_lt a b e
  · rw[if_neg (fun z=>e (by have:=hc.2.1 z;omega)),if_neg e,hc.1];simp
theorem insL_eq:∀(j:Nat) (xs:List (List Int)),insL j xs=ins bef j xs
  | 0,_=>rfl
  | j + 1,xs=>by
    rw[insL,ins]
    by_cases h:bef (xs.getD (j + 1) []) (xs.getD j [])=true
    · rw[if_pos ((cmp_bef _ _).2 h),if_pos h];exact insL_eq j _
    · rw[if_neg (fun z=>h ((cmp_bef _ _).1 z)),if_neg h]
theorem srtL_eq:∀(e i:Nat) (xs:List (List Int)),srtL e i xs=srt bef e i xs
  | 0,_,_=>rfl
  | e + 1,i,xs=>by rw[srtL,srt,insL_eq,srtL_eq e]
theorem circ_20 (h:BookP c d):(circ c d).length<=20:=by
  rw[circ_len]
  exact Nat.le_trans (cF_le c.length c.length 0) (cF4 c.length h.2.1)
theorem iCircles (h:BookP c d):Ev (fun k=>G4.f k c d) (circ c d):=by
  have h4:=h.2.1
  have hdl:=h.2.2.1
  have h20:=circ_20 h
  rw[circ_len] at h20
  have e:∀k,G4.f k c d=some (circ c d):=fun k=>by
    unfold G4.f
    rw[hdl,found_eq h c.length 0 (by omega),if_pos ⟨rfl,h4,fun i hi=>(h.2.2.2 i hi).2.2.1,h20⟩,srtL_eq]
    rfl
  simp only[e]
  exact Ev.now _
end Go.Proofs.Ytfooakkhkehpiaa.CqE
namespace Go.Proofs.Ytfooakkhkehpiaa.WiE
open Go.RowKit Go.Proofs.Ytfooakkhkehpiaa.PE Go.Proofs.Ytfooakkhkehpiaa.Qh Go.Proofs.Ytfooakkhkehpiaa.BkE Go.Proofs.Ytfooakkhkehpiaa.MxE Go.Proofs.Ytfooakkhkehpiaa.OwE Go.Proofs.Ytfooakkhkehpiaa.CrE Go.Proofs.Ytfooakkhkehpiaa.SkE Go.Proofs.Ytfooakkhkehpiaa.SnE Go.Proofs.YtfooakkhkehpiaaW.PrintWords Go.Proofs.YtfooakkhkehpiaaW.PrintMore
set_option linter.unusedVariables false
set_option linter.unusedSimpArgs false
open Go.Proofs.Ytfooakkhkehpiaa.NeE (cs)
variable {c:List Int} {d:List (List Int)}
theorem no_more (h:BookP c d) (ht:tot c d<=0):(circ c d).length=0:=by
  apply Classical.byContradiction
  intro hz
  have hq:=mem_circ h (getD_mem [] (circ c d) 0 (by omega))
  have h1:=struck_less h hq
  have h2:=tot_bd (struck_ok h hq)
  omega
theorem iWoc:∀(N:Nat) (d:List (List Int)) (n:Int),BookP c d->tot c d<=(N:Int)->0<=n->n + N<=1000->Ev (fun k=>Fe.l0 k n c d) (c,(woc c N d n).1,(woc c N d n).2):=by
  intro N
  induction N with
  | zero=>
    intro d n h ht hn hN
    refine Ev.step (fun k=>by rw[Fe.l0]) ?_
    refine Ev.bind (CqE.iCircles h) ?_
    have hz:=no_more h (by omega)
    exact evPos (by omega) (Ev.now _)
  | succ N ih=>
    intro d n h ht hn hN
    refine Ev.step (fun k=>by rw[Fe.l0]) ?_
    refine Ev.bind (CqE.iCircles h) ?_
    by_cases hz:(circ c d).length=0
    · refine evPos (by omega) (evEq (Ev.now _) ?_)
      rw[woc,if_pos hz]
    · refine evNeg (by omega) (evPos (by omega) ?_)
      have hq:=mem_circ h (getD_mem [] (circ c d) 0 (by omega))
      have e1:Jr (circ c d) 0=(circ c d).getD 0 []:=rfl
      rw[e1]
      refine Ev.bind (SiE.iStruck h hq) ?_
      have hw:wrap64 (n + 1)=n + 1:=w64 (by omega) (by omega)
      rw[hw]
      have h1:=struck_less h hq
      refine evEq (ih _ (n + 1) (struck_ok h hq) (by show tot c (struck c d ((circ c d).getD 0 []))<=(N:Int);omega) (by omega) (by omega)) ?_
      rw[woc,if_neg hz]
theorem iwithout (h:BookP c d):Ev (fun k=>Fe.f k c d) (c,(without c d).1,(without c d).2):=by
  unfold Fe.f
  exact Ev.bind (icopy h) (iWoc 144 d 0 h (tot_bd h).2 (by omega) (by omega))
end Go.Proofs.Ytfooakkhkehpiaa.WiE
namespace Go.Proofs.Ytfooakkhkehpiaa.IdE
open Go.RowKit Go.Proofs.Ytfooakkhkehpiaa.PE Go.Proofs.Ytfooakkhkehpiaa.Qh Go.Proofs.Ytfooakkhkehpiaa.BkE Go.Proofs.Ytfooakkhkehpiaa.MxE Go.Proofs.Ytfooakkhkehpiaa.NtE Go.Proofs.Ytfooakkhkehpiaa.DkE Go.Proofs.Ytfooakkhkehpiaa.SkE Go.Proofs.Ytfooakkhkehpiaa.DdE Go.Proofs.YtfooakkhkehpiaaW.PrintWords Go.Proofs.YtfooakkhkehpiaaW.PrintMore
set_option linter.unusedVariables false
set_option linter.unusedSimpArgs false
section
variable {c c':List Int} {d d':List (List Int)} {ps:List B} {a0 a1 a2 a3:Int}
theorem isBank (c:List Int) (d:List (List Int)) (a:Int):EvB (fun k=>Gt.f k c d a) (BookP c d/\0<=a/\a < c.length):=by
  unfold Gt.f
  obtain⟨b,hb,e⟩:=isBook c d
  refine EvB.bind e ?_
  by_cases h:BookP c d
  · refine EvB.pos (hb.2 h) ?_
    by_cases h0:a ≥ 0
    · refine EvB.pos h0 ⟨_,?_,Ev.now _⟩
      rw[decide_eq_true_iff]
      exact⟨fun z=>⟨h,h0,z⟩,fun z=>z.2.2⟩
    · exact EvB.neg h0 (EvB.ff (fun z=>h0 z.2.1))
  · exact EvB.neg (fun z=>h (hb.1 z)) (EvB.ff (fun z=>h z.1))
theorem iDcopy (h:DeskP c d ps):Ev (fun k=>Ff.f k c d ps) (c,d,ps):=by
  unfold Ff.f
  refine Ev.bind (icopy h.1) ?_
  have h8:=h.2.1
  have key:∀(e i:Nat),ps.length - i=e->i<=ps.length->Ev (fun k=>Ff.l0 k ps (ps.length:Int) (i:Int) c d (ps.take i)) (c,d,ps):=by
    intro e
    induction e with
    | zero=>
      intro i he hi
      obtain rfl:i=ps.length:=by omega
      refine Ev.step (fun k=>by rw[Ff.l0]) ?_
      rw[List.take_length]
      exact evNeg (by omega) (Ev.now _)
    | succ e ih=>
      intro i he hi
      have hlt:i < ps.length:=by omega
      have hs:Jc (wrap64 ((i:Int) + 1)=((i + 1:Nat):Int)):=⟨wsucc hlt (by omega)⟩
      have htl:(ps.take i).length=i:=by rw[List.length_take];omega
      have hmem:Js ps (i:Int) ∈ ps:=by rw[rT];exact getD_mem _ ps i hlt
      have e2:ps.take i ++ [Js ps (i:Int)]=ps.take (i + 1):=by
        rw[rT,List.getD_eq_getElem?_getD,List.getElem?_eq_getElem hlt,List.take_succ_eq_append_getElem hlt];rfl
      refine Ev.step (fun k=>by rw[Ff.l0]) ?_
      rw[hs.out]
      refine evPos (by omega) (evPos (by omega) (evPos (by omega) (Ev.bind (icopy (h.2.2 _ hmem).1) (evPos (by omega) ?_))))
      show Ev (fun k=>Ff.l0 k ps (ps.length:Int) ((i + 1:Nat):Int) c d (ps.take i ++ [Js ps (i:Int)])) _
      rw[e2]
      exact ih (i + 1) (by omega) (by omega)
  exact key ps.length 0 rfl (by omega)
theorem eqI_l (a b:List Int) (ha:a.length<=4611686018427387904) (hl:a.length=b.length):∀(e i:Nat),a.length - i=e->i<=a.length->EvB (fun k=>Ft.l0 k a b (a.length:Int) (i:Int)) (∀i':Nat,i<=i'->i' < a.length->rd a (i':Int)=rd b (i':Int)):=by
  intro e
  induction e with
  | zero=>
    intro i he hi
    refine EvB.step (fun k=>by rw[Ft.l0]) ?_
    exact EvB.neg (by omega) (EvB.tt (fun i' h1 h2=>by omega))
  | succ e ih=>
    intro i he hi
    have hlt:i < a.length:=by omega
    have hs:wrap64 ((i:Int) + 1)=((i + 1:Nat):Int):=wsucc hlt ha
    refine EvB.step (fun k=>by rw[Ft.l0]) ?_
    rw[hs]
    refine EvB.pos (by omega) (EvB.pos (by omega) (EvB.pos (by omega) (EvB.pos (by omega) ?_)))
    by_cases h:rd a (i:Int)=rd b (i:Int)
    · refine EvB.pos h ((ih (i + 1) (by omega) (by omega)).congr ⟨fun z i' h1 h2=>?_,fun z i' h1 h2=>z i' (by omega) h2⟩)
      by_cases e':i'=i
      · subst e';exact h
      · exact z i' (by omega) h2
    · exact EvB.neg h (EvB.ff (fun z=>h (z i (Nat.le_refl _) hlt)))
theorem eqI (a b:List Int) (ha:a.length<=4611686018427387904):EvB (fun k=>Ft.f k a b) (a=b):=by
  unfold Ft.f
  by_cases hl:a.length=b.length
  · exact EvB.pos (by omega) ((eqI_l a b ha hl _ 0 rfl (by omega)).congr ⟨fun z=>ext_rd a b hl (fun i hi=>z i (by omega) hi),fun z i' _ _=>by rw[z]⟩)
  · exact EvB.neg (by omega) (EvB.ff (fun z=>hl (by rw[z])))
theorem eqEl:∀(a b:List (List Int)),(∀x ∈ a,x.length<=4611686018427387904)->a.length=b.length->EvB (fun k=>Gc.el k a b) (a=b)
  | [],[],_,_=>EvB.tt rfl
  | x :: r,y :: s,h,hl=>by
    show EvB (fun k=>(Ft.f k x y).bind fun t=>if t=true then Gc.el k r s else some false) _
    obtain⟨t,ht,e⟩:=eqI x y (h x List.mem_cons_self)
    refine EvB.bind e ?_
    by_cases hx:x=y
    · refine EvB.pos (ht.2 hx) ((eqEl r s (fun z hz=>h z (List.mem_cons_of_mem _ hz)) (by simpa using hl)).congr ?_)
      rw[hx];simp
    · exact EvB.neg (fun z=>hx (ht.1 z)) (EvB.ff (fun z=>hx (by injection z)))
theorem sameBk (h:BookP c' d') (c:List Int) (d:List (List Int)):EvB (fun k=>G6.f k c' d' c d) (c'=c/\d'=d):=by
  have h4:=h.2.1
  have hdl:=h.2.2.1
  unfold G6.f
  obtain⟨t,ht,e⟩:=eqI c' c (by omega)
  refine EvB.bind e ?_
  by_cases hc:c'=c
  · refine EvB.pos (ht.2 hc) ?_
    have key:EvB (fun k=>Gc.f k d' d) (d'=d):=by
      unfold Gc.f
      by_cases hl:d'.length=d.length
      · refine EvB.pos (by omega) (eqEl d' d (fun x hx=>?_) hl)
        obtain⟨i,hi,rfl⟩:=List.mem_iff_getElem.mp hx
        have:=(h.2.2.2 i (by omega)).2.2.1
        rw[rL,List.getD_eq_getElem?_getD,List.getElem?_eq_getElem hi] at this
        simp only[Option.getD_some] at this
        omega
      · exact EvB.neg (by omega) (EvB.ff (fun z=>hl (by rw[z])))
    obtain⟨u,hu,eu⟩:=key
    exact EvB.bind eu ⟨u,hu.trans ⟨fun z=>⟨hc,z⟩,fun z=>z.2⟩,Ev.now _⟩
  · exact EvB.neg (fun z=>hc (ht.1 z)) (EvB.ff (fun z=>hc z.1))
def Np (o:Option (List Int × List (List Int))) (g:Nat->Option (List Int × List (List Int) × Bool)):Prop:=
  ∃c' d' b,Ev g (c',d',b)/\(b=true->o=some (c',d'))/\(¬ b=true->o=none)
theorem NpE.step {o:Option (List Int × List (List Int))} {g f:Nat->Option (List Int × List (List Int) × Bool)} (e:∀k,g (k + 1)=f k) (h:Np o f):Np o g:=by
  obtain⟨c',d',b,h1,h2⟩:=h
  exact⟨c',d',b,Ev.step e h1,h2⟩
theorem NpE.pos {o:Option (List Int × List (List Int))} {p:Prop} [Decidable p] {g f:Nat->Option (List Int × List (List Int) × Bool)} (hp:p) (h:Np o g):Np o (fun k=>if p then g k else f k):=by
  obtain⟨c',d',b,h1,h2⟩:=h
  exact⟨c',d',b,evPos hp h1,h2⟩
theorem NpE.neg {o:Option (List Int × List (List Int))} {p:Prop} [Decidable p] {g f:Nat->Option (List Int × List (List Int) × Bool)} (hp:¬ p) (h:Np o f):Np o (fun k=>if p then g k else f k):=by
  obtain⟨c',d',b,h1,h2⟩:=h
  exact⟨c',d',b,evNeg hp h1,h2⟩
theorem NpE.bind {β:Type} {o:Option (List Int × List (List Int))} {g:Nat->Option β} {f:Nat->β->Option (List Int × List (List Int) × Bool)} {a:β} (e:Ev g a) (h:Np o (fun k=>f k a)):Np o (fun k=>(g k).bind (f k)):=by
  obtain⟨c',d',b,h1,h2⟩:=h
  exact⟨c',d',b,Ev.bind e h1,h2⟩
theorem NpE.bind0 {β:Type} {o:Option (List Int × List (List Int))} {g:Option β} {f:Nat->β->Option (List Int × List (List Int) × Bool)} {a:β} (e:g=some a) (h:Np o (fun k=>f k a)):Np o (fun k=>g.bind (f k)):=by
  obtain⟨c',d',b,h1,h2⟩:=h
  exact⟨c',d',b,evBind0 e h1,h2⟩
theorem NpE.yes:Np (some (c',d')) (fun _=>some (c',d',true)):=⟨c',d',true,Ev.now _,fun _=>rfl,fun z=>absurd rfl z⟩
theorem NpE.no:Np none (fun _=>some ([],[],false)):=⟨[],[],false,Ev.now _,fun z=>by simp at z,fun _=>rfl⟩
theorem NpE.book {o:Option (List Int × List (List Int))} (hp:BookP c' d'->o=some (c',d')) (hn:¬ BookP c' d'->o=none):Np o (fun k=>(Fi.f k c' d').bind fun t=>some (c',d',t)):=by
  obtain⟨b,hb,e⟩:=isBook c' d'
  exact⟨c',d',b,Ev.bind e (Ev.now _),fun z=>hp (hb.1 z),fun z=>hn (fun w=>z (hb.2 w))⟩
theorem j1f (h:BookP c d) (h0:¬ (a0=0/\(0<=a1/\a1 < (c.length:Int))/\a2=0)) (h1:¬ (a0=1/\(0<=a1/\a1 < (c.length:Int))/\(0<=a2/\a2 < (c.length:Int))/\a1≠a2)):Np (made c d a0 a1 a2 a3) (fun k=>Fq.j1 k false c d a0 a1 a2 a3):=by
  refine NpE.step (fun k=>by rw[Fq.j1]) ?_
  refine NpE.neg (by decide) ?_
  unfold made
  rw[if_neg (fun z=>h0 ⟨z.1,z.2.1,z.2.2.1⟩),if_neg (fun z=>h1 ⟨z.1,z.2.1,z.2.2.1,z.2.2.2.1⟩)]
  by_cases g2:a0=2/\a1=0/\a2=0/\a3=0
  · rw[if_pos g2]
    exact NpE.pos (by simp[g2]) (NpE.bind (inetted h) NpE.yes)
  rw[if_neg g2]
  refine NpE.neg (by simpa using g2) ?_
  by_cases g3:a0=3/\a1=0/\a2=0/\a3=0
  · rw[if_pos g3]
    exact NpE.pos (by simp[g3]) (NpE.bind (WiE.iwithout h) NpE.yes)
  rw[if_neg g3]
  exact NpE.neg (by simpa using g3) NpE.no
theorem j0f (h:BookP c d) (h0:¬ (a0=0/\(0<=a1/\a1 < (c.length:Int))/\a2=0)):Np (made c d a0 a1 a2 a3) (fun k=>Fq.j0 k false c d a0 a1 a2 a3):=by
  have hdl:=h.2.2.1
  refine NpE.step (fun k=>by rw[Fq.j0]) ?_
  refine NpE.neg (by decide) ?_
  by_cases k1:a0=1
  · obtain⟨b1,hb1,e1⟩:=isBank c d a1
    refine NpE.pos k1 (NpE.bind e1 ?_)
    by_cases k2:0<=a1/\a1 < (c.length:Int)
    · obtain⟨b2,hb2,e2⟩:=isBank c d a2
      refine NpE.pos (hb1.2 ⟨h,k2⟩) (NpE.bind e2 ?_)
      by_cases k3:0<=a2/\a2 < (c.length:Int)
      · refine NpE.pos (hb2.2 ⟨h,k3⟩) ?_
        by_cases k4:a1=a2
        · have:(a1 != a2)=false:=bne_eq_false_iff_eq.mpr k4
          rw[this]
          exact j1f h h0 (fun z=>z.2.2.2 k4)
        · have:(a1 != a2)=true:=bne_iff_ne.mpr k4
          rw[this]
          have hrl:=CrE.row_len h (i:=a1) ⟨by omega,by omega⟩
          refine NpE.step (fun k=>by rw[Fq.j1]) ?_
          refine NpE.pos rfl (NpE.bind (icopy h) (NpE.pos k2.1 (NpE.pos (by show a1 < (d.length:Int);omega) (NpE.pos k3.1 (NpE.pos (by show a2 < ((Jr d a1).length:Int);omega) (NpE.bind0 rfl ?_))))))
          unfold made
          rw[if_neg (fun z=>h0 ⟨z.1,z.2.1,z.2.2.1⟩)]
          refine NpE.book (fun z=>?_) (fun z=>?_)
          · have hi:a1.toNat < c.length:=by omega
            have hj:a2.toNat < c.length:=by omega
            have z2:=(z.2.2.2 a1.toNat hi).2.2.2.2 a2.toNat hj
            rw[debt_mk h k2 k3,mk_get hi,rd_rowF hj,if_pos ⟨rfl,rfl⟩] at z2
            rw[if_pos ⟨k1,k2,k3,k4,z2⟩]
          · rw[if_neg (fun w=>z (debt_ok h w.2.1 w.2.2.1 w.2.2.2.1 w.2.2.2.2)),if_neg (by omega),if_neg (by omega)]
      · exact NpE.neg (fun z=>k3 (hb2.1 z).2) (j1f h h0 (fun z=>k3 z.2.2.1))
    · exact NpE.neg (fun z=>k2 (hb1.1 z).2) (j1f h h0 (fun z=>k2 z.2.1))
  · exact NpE.neg k1 (j1f h h0 (fun z=>k1 z.1))
theorem nextBook (h:BookP c d):Np (made c d a0 a1 a2 a3) (fun k=>Fq.f k c d a0 a1 a2 a3):=by
  unfold Fq.f
  by_cases k0:a0=0
  · refine NpE.pos k0 ?_
    by_cases k2:a2=0
    · obtain⟨b1,hb1,e1⟩:=isBank c d a1
      refine NpE.pos k2 (NpE.bind e1 ?_)
      by_cases k1:0<=a1/\a1 < (c.length:Int)
      · rw[hb1.2 ⟨h,k1⟩]
        refine NpE.step (fun k=>by rw[Fq.j0]) ?_
        have hw:Ev (fun k=>G8.f k c d a1 a3) (c.set a1.toNat a3,d):=by
          unfold G8.f
          exact Ev.bind (icopy h) (evPos k1.1 (evPos k1.2 (Ev.now _)))
        refine NpE.pos rfl (NpE.bind hw ?_)
        unfold made
        refine NpE.book (fun z=>?_) (fun z=>?_)
        · have hl:(c.set a1.toNat a3).length=c.length:=List.length_set
          have z2:=z.2.2.2 a1.toNat (by rw[hl];omega)
          have e:rd (c.set a1.toNat a3) (a1.toNat:Int)=a3:=by
            rw[rd_set c a3 a1 _ k1.1 k1.2 (by omega),if_pos (by omega)]
          have z3:=z2.1
          have z4:=z2.2.1
          rw[e] at z3 z4
          rw[if_pos ⟨k0,k1,k2,z3,z4⟩]
        · rw[if_neg (fun w=>z (cash_ok h w.2.1 w.2.2.2)),if_neg (by omega),if_neg (by omega),if_neg (by omega)]
      · have:b1=false:=by
          cases b1 with
          | false=>rfl
          | true=>exact absurd (hb1.1 rfl).2 k1
        rw[this]
        exact j0f h (fun z=>k1 z.2.1)
    · exact NpE.neg k2 (j0f h (fun z=>k2 z.2.2))
  · exact NpE.neg k0 (j0f h (fun z=>k0 z.1))
theorem made4:made c d 4 0 0 0=none:=by
  unfold made
  rw[if_neg (by omega),if_neg (by omega),if_neg (by omega),if_neg (by omega)]
theorem iDo (h:DeskP c d ps):Ev (fun k=>Fb.f k c d ps a0 a1 a2 a3) (dd c d ps a0 a1 a2 a3):=by
  have h8:=h.2.1
  unfold Fb.f dd
  rw[if_pos h]
  refine Ev.bind (iDcopy h) ?_
  have hw:Jc (wrap64 ((ps.length:Int) - 1)=(ps.length:Int) - 1):=⟨w64 (by omega) (by omega)⟩
  show Ev (fun k=>if (a0 == 4 && (a1 == 0 && (a2 == 0 && (a3 == 0))))=true then(if (wrap64 ((ps.length:Int) - 1)) < 0 then(some (c,d,ps,false)) else(if 0<=(wrap64 ((ps.length:Int) - 1)) then(if (wrap64 ((ps.length:Int) - 1)) < (ps.length:Int) then(if (wrap64 ((ps.length:Int) - 1))<=(ps.length:Int) then((Ff.f k ((Js ps (wrap64 ((ps.length:Int) - 1))).f0) ((Js ps (wrap64 ((ps.length:Int) - 1))).f1) (ps.take ((wrap64 ((ps.length:Int) - 1)):Int).toNat)).bind fun bt=>(some (bt.1,bt.2.1,bt.2.2,true))) else(none)) else(none)) else(none))) else((Fq.f k c d a0 a1 a2 a3).bind fun bt525=>(if bt525.2.2=true then((G6.f k bt525.1 bt525.2.1 c d).bind fun cn3=>(Fb.j0 k cn3 c d ps bt525.1 bt525.2.1)) else(Fb.j0 k true c d ps bt525.1 bt525.2.1)))) _
  rw[hw.out]
  by_cases hA:a0=4/\a1=0/\a2=0/\a3=0
  · refine evPos (by simp[hA]) ?_
    by_cases hp:0 < ps.length
    · rw[if_pos ⟨hA,hp⟩]
      refine evNeg (by omega) (evPos (by omega) (evPos (by omega) (evPos (by omega) ?_)))
      have e1:(ps.length:Int) - 1=((ps.length - 1:Nat):Int):=by omega
      rw[e1,Int.toNat_natCast]
      have hmem:Js ps ((ps.length - 1:Nat):Int) ∈ ps:=by rw[rT];exact getD_mem _ ps _ (by omega)
      have hk:=h.2.2 _ hmem
      refine Ev.bind (iDcopy ⟨hk.1,by rw[List.length_take];omega,fun x hx=>?_⟩) (Ev.now _)
      have:=h.2.2 x (List.mem_of_mem_take hx)
      exact⟨this.1,by rw[this.2,hk.2]⟩
    · obtain⟨rfl,rfl,rfl,rfl⟩:=hA
      rw[if_neg (fun z=>hp z.2),if_pos (.inl made4)]
      exact evPos (by omega) (Ev.now _)
  · rw[if_neg (fun z=>hA z.1)]
    refine evNeg (by simpa using hA) ?_
    obtain⟨c',d',b,e,hy,hn⟩:=nextBook (a0:=a0) (a1:=a1) (a2:=a2) (a3:=a3) h.1
    refine Ev.bind e ?_
    have stop:Ev (fun k=>Fb.j0 k true c d ps c' d') (c,d,ps,false):=by
      refine Ev.step (fun k=>by rw[Fb.j0]) ?_
      exact evPos rfl (Ev.now _)
    by_cases hb:b=true
    · have hm:=hy hb
      have hok:=made_ok h.1 hm
      obtain⟨t,ht,es⟩:=sameBk hok.1 c d
      refine evPos hb (Ev.bind es ?_)
      by_cases hs:c'=c/\d'=d
      · rw[if_pos (.inr (by rw[hm,hs.1,hs.2])),ht.2 hs]
        exact stop
      · have htf:t=false:=by
          cases t with
          | false=>rfl
          | true=>exact absurd (ht.1 rfl) hs
        rw[if_neg (fun z=>z.elim (fun z=>by rw[hm] at z;cases z) (fun z=>hs (by rw[hm] at z;have:=Option.some.inj z;exact⟨congrArg Prod.fst this,congrArg Prod.snd this⟩))),htf,hm]
        refine Ev.step (fun k=>by rw[Fb.j0]) ?_
        have hlen:(ps ++ [(⟨c,d⟩:B)]).length=ps.length + 1:=by simp
        have hD:DeskP c' d' (push c d ps):=by
          refine⟨hok.1,(push_len h8).1,fun x hx=>?_⟩
          rcases push_mem hx with hx|rfl
          · have:=h.2.2 x hx
            exact⟨this.1,by rw[this.2];exact hok.2.symm⟩
          · exact⟨h.1,hok.2.symm⟩
        refine evNeg (by decide) (evPos (by omega) (evBind0 rfl ?_))
        show Ev _ (c',d',push c d ps,true)
        by_cases h9:ps.length + 1 > 8
        · refine evPos (by omega) (evPos (by omega) ?_)
          have e1:push c d ps=(ps ++ [(⟨c,d⟩:B)]).drop (1:Int).toNat:=by unfold push;rw[if_pos h9];rfl
          rw[<- e1]
          exact Ev.bind (iDcopy hD) (Ev.now _)
        · refine evNeg (by omega) ?_
          have e1:push c d ps=ps ++ [(⟨c,d⟩:B)]:=by unfold push;rw[if_neg h9]
          rw[<- e1]
          exact Ev.bind (iDcopy hD) (Ev.now _)
    · rw[if_pos (.inl (hn hb))]
      exact evNeg hb stop
end
end Go.Proofs.Ytfooakkhkehpiaa.IdE
namespace Go.Proofs.Ytfooakkhkehpiaa.RnE
open Go.RowKit Go.Proofs.Ytfooakkhkehpiaa.PE Go.Proofs.Ytfooakkhkehpiaa.Qh Go.Proofs.Ytfooakkhkehpiaa.BkE Go.Proofs.Ytfooakkhkehpiaa.DkE Go.Proofs.Ytfooakkhkehpiaa.DdE Go.Proofs.Ytfooakkhkehpiaa.IdE Go.Proofs.YtfooakkhkehpiaaW.PrintWords Go.Proofs.YtfooakkhkehpiaaW.PrintMore
set_option linter.unusedVariables false
set_option linter.unusedSimpArgs false
abbrev D:=S69
noncomputable def rn:List D->List Int->List (List Int)->List B->Int->List Int × List (List Int) × List B × Int
  | [],c,d,ps,n=>(c,d,ps,n)
  | a :: r,c,d,ps,n=>if (dd c d ps a.f0 a.f1 a.f2 a.f3).2.2.2=true then rn r (dd c d ps a.f0 a.f1 a.f2 a.f3).1 (dd c d ps a.f0 a.f1 a.f2 a.f3).2.1 (dd c d ps a.f0 a.f1 a.f2 a.f3).2.2.1 (n + 1) else rn r c d ps n
theorem rn_ok:∀(l:List D) {c:List Int} {d:List (List Int)} {ps:List B} (n:Int),DeskP c d ps->DeskP (rn l c d ps n).1 (rn l c d ps n).2.1 (rn l c d ps n).2.2.1/\(rn l c d ps n).1.length=c.length/\n<=(rn l c d ps n).2.2.2/\(rn l c d ps n).2.2.2<=n + l.length
  | [],c,d,ps,n,h=>⟨h,rfl,Int.le_refl _,by simp[rn]⟩
  | a :: r,c,d,ps,n,h=>by
    have hk:=dd_ok (a0:=a.f0) (a1:=a.f1) (a2:=a.f2) (a3:=a.f3) h
    have hl:((a :: r).length:Int)=r.length + 1:=by simp
    rw[hl]
    unfold rn
    split
    · have h1:=rn_ok r (n + 1) hk.1
      exact⟨h1.1,h1.2.1.trans hk.2.1,by have:=h1.2.2.1;omega,by have:=h1.2.2.2;omega⟩
    · have h1:=rn_ok r n h
      exact⟨h1.1,h1.2.1,h1.2.2.1,by have:=h1.2.2.2;omega⟩
theorem rD (xs:List D) (i:Nat):rd_T69 xs (i:Int)=xs.getD i z69:=rfl
theorem drop_at (xs:List D) (i:Nat) (h:i < xs.length):xs.drop i=rd_T69 xs (i:Int) :: xs.drop (i + 1):=by
  rw[rD];exact drop_of xs _ i h
section
variable {c:List Int} {d:List (List Int)} {ps:List B} {l:List D}
theorem i_l0 (hl:l.length<=40):∀(e i:Nat) (c:List Int) (d:List (List Int)) (ps:List B) (n:Int),l.length - i=e->i<=l.length->DeskP c d ps->0<=n->n<=i->Ev (fun k=>Fj.l0 k n l (l.length:Int) (i:Int) c d ps) (rn (l.drop i) c d ps n):=by
  intro e
  induction e with
  | zero=>
    intro i c d ps n he hi h h0 h1
    obtain rfl:i=l.length:=by omega
    refine Ev.step (fun k=>by rw[Fj.l0]) ?_
    rw[List.drop_length]
    exact evNeg (by omega) (Ev.now _)
  | succ e ih=>
    intro i c d ps n he hi h h0 h1
    have hlt:i < l.length:=by omega
    have hs:Jc (wrap64 ((i:Int) + 1)=((i + 1:Nat):Int)):=⟨wsucc hlt (by omega)⟩
    have hn:Jc (wrap64 (n + 1)=n + 1):=⟨w64 (by omega) (by omega)⟩
    have hk:=dd_ok (a0:=(rd_T69 l (i:Int)).f0) (a1:=(rd_T69 l (i:Int)).f1) (a2:=(rd_T69 l (i:Int)).f2) (a3:=(rd_T69 l (i:Int)).f3) h
    refine Ev.step (fun k=>by rw[Fj.l0]) ?_
    rw[hs.out,hn.out,drop_at l i hlt]
    refine evPos (by omega) (evPos (by omega) (evPos (by omega) (Ev.bind (iDo h) ?_)))
    unfold rn
    split
    · next hb=>exact ih (i + 1) _ _ _ _ (by omega) (by omega) hk.1 (by omega) (by omega)
    · next hb=>exact ih (i + 1) _ _ _ _ (by omega) (by omega) h h0 (by omega)
theorem s_l0 (hl:l.length<=40):∀(e i:Nat) (c:List Int) (d:List (List Int)) (ps:List B) (n:Int),l.length - i=e->i<=l.length->DeskP c d ps->0<=n->n<=i->Ev (fun k=>Fp.l0 k l n (i:Int) c d ps) (rn (l.drop i) c d ps n):=by
  intro e
  induction e with
  | zero=>
    intro i c d ps n he hi h h0 h1
    obtain rfl:i=l.length:=by omega
    refine Ev.step (fun k=>by rw[Fp.l0]) ?_
    rw[List.drop_length]
    exact evNeg (by omega) (Ev.now _)
  | succ e ih=>
    intro i c d ps n he hi h h0 h1
    have hlt:i < l.length:=by omega
    have hs:Jc (wrap64 ((i:Int) + 1)=((i + 1:Nat):Int)):=⟨wsucc hlt (by omega)⟩
    have hn:Jc (wrap64 (n + 1)=n + 1):=⟨w64 (by omega) (by omega)⟩
    have h8:=h.2.1
    have hk:=dd_ok (a0:=(rd_T69 l (i:Int)).f0) (a1:=(rd_T69 l (i:Int)).f1) (a2:=(rd_T69 l (i:Int)).f2) (a3:=(rd_T69 l (i:Int)).f3) h
    refine Ev.step (fun k=>by rw[Fp.l0]) ?_
    rw[hs.out,hn.out,drop_at l i hlt]
    refine evPos (by omega) (evPos (by omega) (Ev.bind (sDo (by omega)) ?_))
    unfold rn
    split
    · next hb=>exact ih (i + 1) _ _ _ _ (by omega) (by omega) hk.1 (by omega) (by omega)
    · next hb=>exact ih (i + 1) _ _ _ _ (by omega) (by omega) h h0 (by omega)
open Classical in
noncomputable def rr (c:List Int) (d:List (List Int)) (ps:List B) (l:List D):List Int × List (List Int) × List B × Int:=if DeskP c d ps/\l.length<=40 then rn l c d ps 0 else([],[],[],0)
theorem iRun (c:List Int) (d:List (List Int)) (ps:List B) (l:List D):Ev (fun k=>Fj.f k c d ps l) (rr c d ps l):=by
  unfold Fj.f
  have no:∀(hn:¬ (DeskP c d ps/\l.length<=40)),Ev (fun k=>Fj.j0 k l true c d ps) (rr c d ps l):=fun hn=>by
    refine Ev.step (fun k=>by rw[Fj.j0]) ?_
    refine evPos rfl (evEq (Ev.now _) ?_)
    unfold rr;rw[if_neg hn]
  by_cases h:DeskP c d ps
  · refine Ev.bind ((isDesk c d ps).yes h) (evPos rfl ?_)
    by_cases hl:l.length<=40
    · have:decide ((l.length:Int) > 40)=false:=decide_eq_false (by omega)
      rw[this]
      refine Ev.step (fun k=>by rw[Fj.j0]) ?_
      refine evNeg (by decide) (Ev.bind (iDcopy h) ?_)
      have:=i_l0 hl l.length 0 c d ps 0 rfl (by omega) h (by omega) (by omega)
      rw[List.drop_zero] at this
      have e:rr c d ps l=rn l c d ps 0:=by unfold rr;rw[if_pos ⟨h,hl⟩]
      rw[e];exact this
    · have:decide ((l.length:Int) > 40)=true:=decide_eq_true (by omega)
      rw[this]
      exact no (fun z=>hl z.2)
  · exact Ev.bind ((isDesk c d ps).no h) (evNeg (by decide) (no (fun z=>h z.1)))
theorem sRun (c:List Int) (d:List (List Int)) (ps:List B) (l:List D) (hp:ps.length<=4611686018427387904):Ev (fun k=>Fp.f k c d ps l) (rr c d ps l):=by
  unfold Fp.f
  have no:∀(hn:¬ (DeskP c d ps/\l.length<=40)),Ev (fun k=>Fp.j0 k l true c d ps) (rr c d ps l):=fun hn=>by
    refine Ev.step (fun k=>by rw[Fp.j0]) ?_
    refine evPos rfl (evEq (Ev.now _) ?_)
    unfold rr;rw[if_neg hn]
  by_cases h:DeskP c d ps
  · refine Ev.bind ((deskOk c d ps hp).yes h) (evPos rfl ?_)
    by_cases hl:l.length<=40
    · have:decide ((l.length:Int) > 40)=false:=decide_eq_false (by omega)
      rw[this]
      refine Ev.step (fun k=>by rw[Fp.j0]) ?_
      refine evNeg (by decide) (Ev.bind (sDcopy h) ?_)
      have:=s_l0 hl l.length 0 c d ps 0 rfl (by omega) h (by omega) (by omega)
      rw[List.drop_zero] at this
      have e:rr c d ps l=rn l c d ps 0:=by unfold rr;rw[if_pos ⟨h,hl⟩]
      rw[e];exact this
    · have:decide ((l.length:Int) > 40)=true:=decide_eq_true (by omega)
      rw[this]
      exact no (fun z=>hl z.2)
  · exact Ev.bind ((deskOk c d ps hp).no h) (evNeg (by decide) (no (fun z=>h z.1)))
end
end Go.Proofs.Ytfooakkhkehpiaa.RnE
namespace Go.Proofs.Ytfooakkhkehpiaa.EcE
open Go.RowKit Go.Proofs.Ytfooakkhkehpiaa.PE Go.Proofs.Ytfooakkhkehpiaa.Qh Go.Proofs.Ytfooakkhkehpiaa.BkE Go.Proofs.Ytfooakkhkehpiaa.TbE Go.Proofs.Ytfooakkhkehpiaa.DkE Go.Proofs.YtfooakkhkehpiaaW.PrintWords Go.Proofs.YtfooakkhkehpiaaW.PrintMore
set_option linter.unusedVariables false
set_option linter.unusedSimpArgs false
abbrev L_:=S40
theorem small_of {c:List Int} {d:List (List Int)} (h:BookP c d):Small c d:=
  ⟨by have:=h.2.1;omega,by have:=h.2.1;have:=h.2.2.1;omega,fun i hi=>by have:=(h.2.2.2 i (by have:=h.2.2.1;omega)).2.2.1;have:=h.2.1;omega⟩
def SmD (c:List Int) (d:List (List Int)) (ps:List B):Prop:=Small c d/\ps.length<=1048576/\∀i:Nat,i < ps.length->Small (ps.getD i z25).f0 (ps.getD i z25).f1
theorem smD_of {c:List Int} {d:List (List Int)} {ps:List B} (h:DeskP c d ps):SmD c d ps:=
  ⟨small_of h.1,by have:=h.2.1;omega,fun i hi=>small_of (h.2.2 _ (getD_mem _ ps i hi)).1⟩
theorem smD_nil:SmD [] [] []:=⟨⟨by simp,by simp,fun i hi=>by simp at hi⟩,by simp,fun i hi=>by simp at hi⟩
theorem eqD {c:List Int} {d:List (List Int)} {ps:List B} (h:SmD c d ps):Ev (fun k=>Gw.f k c d ps c d ps) true:=by
  unfold Gw.f F1.f
  exact Ev.bind (TbE.eqB c d h.1) (evPos rfl (Ev.bind (evPos rfl (DtE.eq_l ps h.2.1 (fun i hi=>h.2.2 i hi) _ 0 rfl (by omega))) (evPos rfl (Ev.now _))))
theorem szD (c:List Int) (d:List (List Int)) (qs:List L_) (hc:c.length<=maxLen) (hd:d.length<=maxLen) (hr:∀y ∈ d,y.length<=maxLen) (hp:qs.length<=maxLen) (hf:∀x ∈ qs,x.f0.length<=maxLen/\x.f1.length<=maxLen/\∀y ∈ x.f1,y.length<=maxLen) :
    (∃t:Int,0<=t/\t<=1048576/\SmD c d (qs.map DtE.cv)/\Ev (fun k=>Gs.f k c d qs 1048576) t/\Ev (fun k=>Gh.f k c d qs) (c,d,qs.map DtE.cv)) ∨ Ev (fun k=>Gs.f k c d qs 1048576) (-1):=by
  unfold Gs.f
  unfold maxLen at hc hd hr hp hf
  rcases TbE.szB c d (by omega) (by omega) (fun y hy=>by have:=hr y hy;omega) 1048576 (by omega) (by omega) with⟨t,t0,t1,hs,ht⟩|ht
  case inr=>exact .inr (Ev.bind ht (evPos (by omega) (Ev.now _)))
  rcases DtE.sz qs (by omega) (fun x hx=>by have:=hf x hx;exact⟨by omega,by omega,fun y hy=>by have:=this.2.2 y hy;omega⟩) t t0 t1 with⟨q,q0,q1,hss,hq⟩|hq
  case inr=>exact .inr (Ev.bind ht (evNeg (by omega) (Ev.bind hq (evPos (by omega) (Ev.now _)))))
  refine .inl ⟨q,q0,q1,⟨hs,by rw[List.length_map];exact hss.1,fun i hi=>?_⟩,Ev.bind ht (evNeg (by omega) (Ev.bind hq (evNeg (by omega) (Ev.now _)))),?_⟩
  · rw[List.length_map] at hi
    have h2:=hss.2 i hi
    have e:(qs.map DtE.cv).getD i z25=DtE.cv (qs.getD i z40):=by
      rw[List.getD_eq_getElem?_getD,List.getD_eq_getElem?_getD,List.getElem?_map,List.getElem?_eq_getElem hi];rfl
    rw[e];exact h2
  · unfold Gh.f
    exact Ev.bind (TbE.toB c d hs) (Ev.bind (DtE.to_ qs hss) (Ev.now _))
end Go.Proofs.Ytfooakkhkehpiaa.EcE
namespace Go.Proofs.Ytfooakkhkehpiaa.EdrE
open Go.RowKit Go.Proofs.Ytfooakkhkehpiaa.PE Go.Proofs.Ytfooakkhkehpiaa.Qh Go.Proofs.Ytfooakkhkehpiaa.BkE Go.Proofs.Ytfooakkhkehpiaa.TbE Go.Proofs.Ytfooakkhkehpiaa.DkE Go.Proofs.Ytfooakkhkehpiaa.DdE Go.Proofs.Ytfooakkhkehpiaa.IdE Go.Proofs.Ytfooakkhkehpiaa.RnE Go.Proofs.Ytfooakkhkehpiaa.EcE Go.Proofs.YtfooakkhkehpiaaW.PrintWords Go.Proofs.YtfooakkhkehpiaaW.PrintMore
set_option linter.unusedVariables false
set_option linter.unusedSimpArgs false
theorem rr_small (c:List Int) (d:List (List Int)) (ps:List B) (l:List MlE.D_):SmD (rr c d ps l).1 (rr c d ps l).2.1 (rr c d ps l).2.2.1:=by
  by_cases h:DeskP c d ps/\l.length<=40
  · have e:rr c d ps l=rn l c d ps 0:=by unfold rr;rw[if_pos h]
    rw[e];exact smD_of (rn_ok l 0 h.1).1
  · have e:rr c d ps l=([],[],[],0):=by unfold rr;rw[if_neg h]
    rw[e];exact smD_nil
def Good (k:Nat) (c:List Int) (d:List (List Int)) (qs:List L_) (l:List MlE.K_):Prop:=
  (∃t:Int,t < 0/\Gs.f k c d qs 1048576=some t) ∨ (∃t t2:Int,¬ t < 0/\t2 < 0/\Gs.f k c d qs 1048576=some t/\Gy.f l t=some t2) ∨ ∃(t t2 m0 m1 m r4:Int) (ps r3 x3 y3:List B) (r1 x1 y1:List Int) (r2 x2 y2:List (List Int)) (l2 lx:List MlE.D_),¬ t < 0/\¬ t2 < 0/\¬ m1 < 0/\¬ m < 0/\Gs.f k c d qs 1048576=some t/\Gy.f l t=some t2/\Gh.f k c d qs=some (c,d,ps)/\Gi.f k l=some l2/\Fp.f k c d ps l2=some (r1,r2,r3,r4)/\Fj.f k c d ps l2=some (r1,r2,r3,r4)/\Gw.f k r1 r2 r3 r1 r2 r3=some true/\Gw.f k c d ps c d ps=some true/\Fx.f k l2 l2=some true/\Gv.f k c d ps 1=some (m0,x1,x2,x3)/\F4.f k l2 m0=some (m1,lx)/\Gv.f k r1 r2 r3 1=some (m,y1,y2,y3)/\G0.f k y1 y2 y3 1=some m
theorem holds (c:List Int) (d:List (List Int)) (qs:List L_) (l:List MlE.K_) (hc:c.length<=maxLen) (hd:d.length<=maxLen) (hr:∀y ∈ d,y.length<=maxLen) (hp:qs.length<=maxLen) (hf:∀x ∈ qs,x.f0.length<=maxLen/\x.f1.length<=maxLen/\∀y ∈ x.f1,y.length<=maxLen) (hl:l.length<=maxLen):∃k,Good k c d qs l:=by
  unfold maxLen at hl
  rcases szD c d qs hc hd hr hp hf with⟨t,t0,t1,hs,ht,hto⟩|ht
  · have hz:=MlE.szS l (by omega) t t0 t1
    by_cases hlt:(l.length:Int)<=t
    · rw[if_pos hlt] at hz
      have h2:(l.map MlE.cvD).length<=1048576:=by rw[List.length_map];omega
      have hr:=rr_small c d (qs.map DtE.cv) (l.map MlE.cvD)
      obtain⟨m0,x1,x2,x3,hm0,hm0b,e0,_⟩:=MsE.marks2 hs.1 hs.2.1 hs.2.2
      obtain⟨m,y1,y2,y3,hm,e1,e2⟩:=MsE.marks hr.1 hr.2.1 hr.2.2
      obtain⟨m1,lx,hm1,e3⟩:=MlE.mark (l.map MlE.cvD) h2 m0 hm0 hm0b
      obtain⟨k1,h1⟩:=ht
      obtain⟨k2,h2'⟩:=hto
      obtain⟨k3,h3⟩:=sRun c d (qs.map DtE.cv) (l.map MlE.cvD) (by have:=hs.2.1;omega)
      obtain⟨k4,h4⟩:=iRun c d (qs.map DtE.cv) (l.map MlE.cvD)
      obtain⟨k5,h5⟩:=eqD hr
      obtain⟨k6,h6⟩:=eqD hs
      obtain⟨k7,h7⟩:=e0
      obtain⟨k8,h8⟩:=e1
      obtain⟨k9,h9⟩:=e2
      obtain⟨ka,ha⟩:=MlE.to_ l (by omega)
      obtain⟨kb,hb⟩:=MlE.eq_ (l.map MlE.cvD) h2
      obtain⟨kc,hc'⟩:=e3
      exact⟨k1 + k2 + k3 + k4 + k5 + k6 + k7 + k8 + k9 + ka + kb + kc, .inr (.inr ⟨t,_,m0,m1,m,(rr c d (qs.map DtE.cv) (l.map MlE.cvD)).2.2.2,_,_,x3,y3,_,x1,y1,_,x2,y2,_,lx,by omega,by omega,by omega,by omega,h1 _ (by omega),hz,h2' _ (by omega),ha _ (by omega),h3 _ (by omega),h4 _ (by omega),h5 _ (by omega),h6 _ (by omega),hb _ (by omega),h7 _ (by omega),hc' _ (by omega),h8 _ (by omega),h9 _ (by omega)⟩)⟩
    · rw[if_neg hlt] at hz
      obtain⟨k1,h1⟩:=ht
      exact⟨k1, .inr (.inl ⟨t, -1,by omega,by omega,h1 _ (Nat.le_refl _),hz⟩)⟩
  · obtain⟨k1,h1⟩:=ht
    exact⟨k1, .inl ⟨-1,by omega,h1 _ (Nat.le_refl _)⟩⟩
theorem calls (k:Nat) (A0_0:Option Addr) (c0_0:Nat) (l0_0:List Int) (A0_1:Option Addr) (c0_1:Nat) (l0_1:List (List Int)) (A0_2:Option Addr) (c0_2:Nat) (l0_2:List L_) (A1:Option Addr) (c1:Nat) (l1:List MlE.K_) (r:Bool) (w:World) (hr0:Kd.C (Kd.int .i64) w A0_0 l0_0.length l0_0) (hc0:l0_0.length<=c0_0) (hr1:Kd.C (Kd.slice 3 (Kd.int .i64)) w A0_1 l0_1.length l0_1) (hc1:l0_1.length<=c0_1) (hr2:Kd.C k40 w A0_2 l0_2.length l0_2) (hc2:l0_2.length<=c0_2) (hr3:Kd.C k66 w A1 l1.length l1) (hc3:l1.length<=c1) (h:Good k l0_0 l0_1 l0_2 l1) :
    Calls Try.prog 13 #[.agg #[.slice A0_0 l0_0.length c0_0, .slice A0_1 l0_1.length c0_1, .slice A0_2 l0_2.length c0_2], .slice A1 l1.length c1] w fun e w'=>e = .returned (.bool true)/\Below w.heap.size w w':=by
  rcases h with⟨t,ht,h1⟩ | ⟨t,t2,ht,ht2,h1,h2⟩ | ⟨t,t2,m0,m1,m,r4,ps,r3,x3,y3,r1,x1,y1,r2,x2,y2,l2,lx,g0,g1,g2,g3,h1,h2,h3,h4,h5,h6,h7,h8,h9,h10,h11,h12,h13⟩
  · exact deskRun_neg k A0_0 c0_0 l0_0 A0_1 c0_1 l0_1 A0_2 c0_2 l0_2 A1 c1 l1 t w hr0 hc0 hr1 hc1 hr2 hc2 hr3 hc3 ht h1
  · exact deskRun_neg2 k A0_0 c0_0 l0_0 A0_1 c0_1 l0_1 A0_2 c0_2 l0_2 A1 c1 l1 t w hr0 hc0 hr1 hc1 hr2 hc2 hr3 hc3 t2 ht ht2 h1 h2
  · exact deskRun_walk k A0_0 c0_0 l0_0 A0_1 c0_1 l0_1 A0_2 c0_2 l0_2 A1 c1 l1 t w hr0 hc0 hr1 hc1 hr2 hc2 hr3 hc3 t2 m0 m1 m r4 ps r3 x3 y3 r1 x1 y1 r2 x2 y2 l2 lx g0 g1 g2 g3 h1 h2 h3 h4 h5 h6 h7 h8 h9 h10 h11 h12 h13
end Go.Proofs.Ytfooakkhkehpiaa.EdrE
namespace Go.Proofs.Ytfooakkhkehpiaa.fnExactDeskRun
open Go.ChangeShapes Go.WideShapes Go.ChangeAt Go.RowKit Go.Proofs.Ytfooakkhkehpiaa.PE Go.Proofs.YtfooakkhkehpiaaW.PrintWords
open Go.ChangeMaps (open_string shut_string)
set_option linter.unusedVariables false
set_option linter.unusedSimpArgs false
theorem own:ownKnob Try.prog.godebug=none:=by kernel_rfl
theorem laidOut:laidOutB Try.prog=true:=by kernel_rfl
abbrev G3 (_:Int):Prop:=True
theorem o3:Op.Opens Try.prog 3 (Kd.int .i64) G3:=Op.opens_int Try.underlying3 (by kernel_rfl)
abbrev G22 (x:List Int):Prop:=x.length<=maxLen/\∀y ∈ x,G3 y
theorem o22:Op.Opens Try.prog 22 (Kd.slice 3 (Kd.int .i64)) G22:=Op.opens_slice Try.underlying22 (by kernel_rfl) o3
abbrev G23 (x:List (List Int)):Prop:=x.length<=maxLen/\∀y ∈ x,G22 y
theorem o23:Op.Opens Try.prog 23 (Kd.slice 22 (Kd.slice 3 (Kd.int .i64))) G23:=Op.opens_slice Try.underlying23 (by kernel_rfl) o22
abbrev G40 (x:S40):Prop:=G22 x.f0/\G23 x.f1
theorem o40:Op.Opens Try.prog 40 k40 G40:=Op.opens_iso (Op.opens_struct Try.underlying40 (by kernel_rfl) (Op.opensF_cons rfl o22 (Op.opensF_one rfl o23))) (fun x:S40=>(x.f0,x.f1)) (fun z=>(⟨z.1,z.2⟩:S40)) (fun _=>rfl)
abbrev G41 (x:List S40):Prop:=x.length<=maxLen/\∀y ∈ x,G40 y
theorem o41:Op.Opens Try.prog 41 (Kd.slice 40 k40) G41:=Op.opens_slice Try.underlying41 (by kernel_rfl) o40
abbrev G43 (x:S40 × (List S40)):Prop:=G40 x.1/\G41 x.2
theorem o43:Op.Opens Try.prog 43 (Kd.pair k40 (Kd.slice 40 k40)) G43:=Op.opens_struct Try.underlying43 (by kernel_rfl) (Op.opensF_cons rfl o40 (Op.opensF_one rfl o41))
abbrev G66 (x:S66):Prop:=G3 x.f0/\G3 x.f1/\G3 x.f2/\G3 x.f3
theorem o66:Op.Opens Try.prog 66 k66 G66:=Op.opens_iso (Op.opens_struct Try.underlying66 (by kernel_rfl) (Op.opensF_cons rfl o3 (Op.opensF_cons rfl o3 (Op.opensF_cons rfl o3 (Op.opensF_one rfl o3))))) (fun x:S66=>(x.f0,x.f1,x.f2,x.f3)) (fun z=>(⟨z.1,z.2.1,z.2.2.1,z.2.2.2⟩:S66)) (fun _=>rfl)
abbrev G74 (x:List S66):Prop:=x.length<=maxLen/\∀y ∈ x,G66 y
theorem o74:Op.Opens Try.prog 74 (Kd.slice 66 k66) G74:=Op.opens_slice Try.underlying74 (by kernel_rfl) o66
set_option maxRecDepth 100000 in
theorem lifted (os:Os) (started:os.Started) (H:Type) (enc:TypeId × Value->H) :
    ReturnsInHanded {} Try.checked os 13 .any (Rows.fnExactDeskRunSpec.pre6 enc Try.prog Try.f13 Rows.fnExactDeskRunRow.domain false) (Rows.fnExactDeskRunSpec.post enc Try.prog Try.f13 false true false false):=by
  refine returnsInHanded_of_change_sized (C:=Try.checked) own started (by kernel_rfl) Try.func13
    (ChangeSpec.witness6 (enc:=enc) (C:=Try.checked) false ⟨#[],#[.agg #[.slice none 0 0, .slice none 0 0, .slice none 0 0], .slice none 0 0],[]⟩ 8 (by kernel_rfl) (by kernel_rfl) (by kernel_rfl) (by kernel_rfl)) ?_
  intro W base args ds gs before hval0 hW _ _ _
  have hval:∀(j:Nat) t v,Try.f13.params[j]? = some t->args[j]? = some v->Value.okWide Try.prog W .any base t v:=hval0
  have hW':=hW
  obtain⟨p,q,hA0,hV,rfl,_,_⟩:=hW
  have hA:DataW.TrodAll enc Try.prog W 0 (fun _=>true) true Try.f13.params.toList args.toList ds p:=hA0
  rw[Try.params13] at hA hval
  obtain⟨v0,vs0,d0,ds0,p0,q0,hargs,rfl,rfl,h0,r0⟩:=trodAll_cons hA
  obtain⟨v1,vs1,d1,ds1,p1,q1,rfl,rfl,rfl,h1,r1⟩:=trodAll_cons r0
  obtain⟨rfl,rfl,rfl⟩:=trodAll_nil r1
  obtain rfl:args=#[v0,v1]:=by cases args;simp_all
  obtain⟨rfl,rfl⟩:=trodVars_none hV
  have k0:=h0
  have lt0:∀x ∈ p0,x.block < W.heap.size:=by obtain⟨m,hm⟩:=k0;exact DataW.trod_lt m _ _ _ hm
  obtain⟨cs0,x0,rfl,hK0,g0⟩:=Op.open_agg o43 (okWide_struct Try.underlying43 (hval 0 43 v0 rfl rfl)) h0
  obtain⟨ca0_0,cb0_0,e0_0,hK0_0,hR0_0⟩:=hK0
  obtain⟨ca0_0_0,cb0_0_0,e0_0_0,hK0_0_0,hR0_0_0⟩:=hK0_0
  obtain⟨A0_0_0,c0_0_0,e20_0_0,hc0_0_0,hr0_0_0⟩:=hK0_0_0
  obtain⟨A0_0_1,c0_0_1,e20_0_1,hc0_0_1,hr0_0_1⟩:=hR0_0_0
  obtain⟨A0_1,c0_1,e20_1,hc0_1,hr0_1⟩:=hR0_0
  obtain rfl:cs0=#[.slice A0_0_0 x0.1.f0.length c0_0_0, .slice A0_0_1 x0.1.f1.length c0_0_1, .slice A0_1 x0.2.length c0_1]:=by apply Array.toList_inj.1;first|(rw[e0_0,e0_0_0,e20_0_0,e20_0_1,e20_1];rfl)|(simp only[List.singleton_append,List.cons_append,List.nil_append] at *;first|assumption|(simp_all;done))
  have k1:=h1
  have lt1:∀x ∈ p1,x.block < W.heap.size:=by obtain⟨m,hm⟩:=k1;exact DataW.trod_lt m _ _ _ hm
  obtain⟨A1,c1,l1,rfl,hc1,hr1,g1⟩:=Op.open_arg o74 (okWide_slice Try.underlying74 (hval 1 74 v1 rfl rfl)) h1
  obtain⟨k,hk⟩:=EdrE.holds x0.1.f0 x0.1.f1 x0.2 l1 g0.1.1.1 g0.1.2.1 (fun y hy=>(g0.1.2.2 y hy).1) g0.2.1 (fun x hx=>⟨(g0.2.2 x hx).1.1,(g0.2.2 x hx).2.1,fun y hy=>((g0.2.2 x hx).2.2 y hy).1⟩) g1.1
  refine(EdrE.calls k A0_0_0 c0_0_0 x0.1.f0 A0_0_1 c0_0_1 x0.1.f1 A0_1 c0_1 x0.2 A1 c1 l1 true W hr0_0_0 hc0_0_0 hr0_0_1 hc0_0_1 hr0_1 hc0_1 hr1 hc1 hk).mono fun e W' ⟨he,bel⟩=>?_
  subst he
  exact⟨_,rfl,_,_,_,[],_,[],hW',trodAll_mk1 (shut_bool Try.underlying4 _),(trodAll_cons_mk (Below.trod laidOut (by kernel_rfl) (of_decide_eq_true (by kernel_rfl)) k0 bel lt0) (trodAll_cons_mk (Below.trod laidOut (by kernel_rfl) (of_decide_eq_true (by kernel_rfl)) k1 bel lt1) trodAll_mk0)),rfl,bel.frame _,fun h=>by cases h⟩
theorem over:Rows.fnExactDeskRunRow.holds Try.pinned (OpenSpec.ofChange Rows.fnExactDeskRunSpec):=
  OpenClaim.holds_of_wide 13 Try.f13 rfl rfl rfl rfl rfl rfl rfl ⟨rfl,rfl,rfl,rfl,rfl⟩ rfl rfl rfl rfl rfl (by kernel_rfl) Try.func13 (by kernel_rfl)
    (of_decide_eq_true (by kernel_rfl)) (by unfold Func.isWrapper;first|(rw[if_pos (by decide +kernel)];kernel_rfl)|(rw[if_neg (by decide +kernel)];exact⟨rfl,rfl⟩))
    (fun os started H enc _=>lifted os started H enc)
theorem proved:Rows.FnExactDeskRunSaid:=over
end Go.Proofs.Ytfooakkhkehpiaa.fnExactDeskRun
namespace Go.Proofs.Ytfooakkhkehpiaa
theorem fnExactDeskRun_holds:Rows.FnExactDeskRunSaid:=fnExactDeskRun.proved
end Go.Proofs.Ytfooakkhkehpiaa
