/- FnExactDeskDo: for every input the law holds, and each argument reads as it read before. No condition. -/
import Derived.Test.YtfooakkhkehpiaaZFnExactDeskDo1
import Derived.Test.YtfooakkhkehpiaaZFnExactDeskDo2
import Derived.Test.YtfooakkhkehpiaaZFnExactDeskDo3
import Derived.Test.YtfooakkhkehpiaaZFnExactDeskDo4
import Derived.Test.YtfooakkhkehpiaaZFnExactDeskDo5
import Derived.Test.YtfooakkhkehpiaaRows
import Derived.ProofKit
import Derived.OpenShut
import Derived.ShutString
import Derived.ChangeOld
import Derived.SizedLaws
namespace Go.Proofs.Ytfooakkhkehpiaa.CqE
open Go.RowKit Go.Proofs.Ytfooakkhkehpiaa.PE Go.Proofs.Ytfooakkhkehpiaa.Qh Go.Proofs.Ytfooakkhkehpiaa.BkE Go.Proofs.Ytfooakkhkehpiaa.MxE Go.Proofs.Ytfooakkhkehpiaa.CrE Go.Proofs.YtfooakkhkehpiaaW.PrintWords Go.Proofs.YtfooakkhkehpiaaW.PrintMore
set_option linter.unusedVariables false
set_option linter.unusedSimpArgs false
open Go.Proofs.Ytfooakkhkehpiaa.PE.Circ (walkI rowI stepI lastI foundI cmpI lexc cmpl insL srtL)
variable {c:List Int} {d:List (List Int)}
theorem row_lead {F:List Int->List (List Int)} {p row:List Int} {n a:Nat} (ha:rd p 0=(a:Int)) (han:a < n):∀(e j:Nat),j + e=n->j<=a->rowI F p row e j=rowI F p row (n - a) a
  | 0,j,he,hj=>by omega
  | e + 1,j,he,hj=>by
    by_cases h:j=a
    · subst h
      have:n - j=e + 1:=by omega
      rw[this]
    · rw[rowI]
      have hs:stepI F p row j=[]:=by unfold stepI;rw[if_pos (.inr (by rw[ha];omega))]
      rw[hs,List.nil_append]
      exact row_lead ha han e (j + 1) (by omega) (by omega)
theorem walk_eq (h:BookP c d):∀(m m':Nat) (p:List Int),PathP c.length d p->c.length < m + p.length->c.length < m' + p.length->walkI d m p=P c.length d m' p
  | 0,_,p,hp,hm,_=>by have:=hp.len;omega
  | _,0,p,hp,_,hm=>by have:=hp.len;omega
  | m + 1,m' + 1,p,hp,hm,hm'=>by
    have hh:=hp.head
    have hl:=hp.last
    have hrl:=row_len h hl
    obtain⟨a,ha⟩:=Int.eq_ofNat_of_zero_le hh.1
    have han:a < c.length:=by omega
    have e1:d.getD (lastI p).toNat []=Jm d (la p):=rfl
    rw[walkI,P,e1,hrl,row_lead ha han c.length 0 (by omega) (by omega)]
    have e2:c.length - a=(c.length - (a + 1)) + 1:=by omega
    rw[e2,rowI]
    have ha':(rd p 0).toNat=a:=by rw[ha];rfl
    rw[ha']
    have s0:stepI (walkI d m) p (Jm d (la p)) a=self d p:=by
      unfold stepI self
      have hge:=row_ge h hl (j:=(a:Int)) ⟨by omega,by omega⟩
      rw[ha]
      by_cases hz:rd (Jm d (la p)) (a:Int)=0
      · rw[if_pos (.inl hz),if_neg (fun z=>by have:=z.2;omega)]
      · rw[if_neg (fun z=>z.elim hz (fun y=>by omega)),if_pos rfl]
        have h1:1 < p.length:=by
          apply Classical.byContradiction
          intro h1
          have hp0:=hp.1
          have hp1:p.length=1:=by omega
          have e3:la p=(a:Int):=by unfold la;rw[hp1];exact ha
          rw[e3] at hz
          exact hz (h.2.2.2 a han).2.2.2.1
        rw[if_pos ⟨h1,by omega⟩]
    rw[s0]
    congr 1
    have key:∀(e j:Nat),j + e=c.length->a < j->rowI (walkI d m) p (Jm d (la p)) e j=rest (P c.length d m') d p e j:=by
      intro e
      induction e with
      | zero=>intro j _ _;rfl
      | succ e ih=>
        intro j he hj
        rw[rowI,rest,ih (j + 1) (by omega) (by omega)]
        congr 1
        unfold stepI
        have hge:=row_ge h hl (j:=(j:Int)) ⟨by omega,by omega⟩
        rw[ha]
        by_cases hz:rd (Jm d (la p)) (j:Int)=0
        · rw[if_pos (.inl hz),if_pos (.inl hz)]
        · rw[if_neg (fun z=>z.elim hz (fun y=>by omega)),if_neg (by omega)]
          by_cases hm:(j:Int) ∈ p
          · rw[if_pos hm,if_pos (.inr hm)]
          · rw[if_neg hm,if_neg (fun z=>z.elim hz hm)]
            have hs:=hp.snoc (j:=j) (by omega) (by omega) hm (by omega)
            exact walk_eq h m m' _ hs (by rw[List.length_append,List.length_singleton];omega) (by rw[List.length_append,List.length_singleton];omega)
    exact key _ (a + 1) (by omega) (by omega)
theorem found_eq (h:BookP c d):∀(e i:Nat),i + e=c.length->foundI d e i=found c.length d e i
  | 0,_,_=>rfl
  | e + 1,i,hi=>by
    have h4:=h.2.1
    have hdl:=h.2.2.1
    rw[foundI,found,found_eq h e (i + 1) (by omega),walk_eq h d.length 4 [(i:Int)] (PathP.one (by omega)) (by rw[List.length_singleton];omega) (by rw[List.length_singleton];omega)]
def cR (F:List Int->Nat) (p:List Int):Nat->Nat->Nat
  | 0,_=>0
  | e + 1,j=>(if (j:Int) ∈ p then 0 else F (p ++ [(j:Int)])) + cR F p e (j + 1)
def cP (n:Nat):Nat->List Int->Nat
  | 0,_=>0
  | m + 1,p=>(if 1 < p.length then 1 else 0) + cR (cP n m) p (n - ((rd p 0).toNat + 1)) ((rd p 0).toNat + 1)
def cF (n:Nat):Nat->Nat->Nat
  | 0,_=>0
  | e + 1,i=>cP n 4 [(i:Int)] + cF n e (i + 1)
theorem cR_le {F:List Int->List (List Int)} {G:List Int->Nat} (hFG:∀q,(F q).length<=G q) (p:List Int):∀(e j:Nat),(rest F d p e j).length<=cR G p e j
  | 0,_=>Nat.le_refl _
  | e + 1,j=>by
    rw[rest,cR,List.length_append]
    have h1:=cR_le hFG p e (j + 1)
    have h2:(if rd (Jm d (la p)) (j:Int)=0 ∨ (j:Int) ∈ p then[] else F (p ++ [(j:Int)])).length<=(if (j:Int) ∈ p then 0 else G (p ++ [(j:Int)])):=by
      by_cases hm:(j:Int) ∈ p
      · rw[if_pos (.inr hm),if_pos hm];exact Nat.le_refl _
      · rw[if_neg hm]
        split
        · exact Nat.zero_le _
        · exact hFG _
    omega
theorem cP_le (n:Nat):∀(m:Nat) (p:List Int),(P n d m p).length<=cP n m p
  | 0,_=>Nat.le_refl _
  | m + 1,p=>by
    rw[P,cP,List.length_append]
    have h1:=cR_le (d:=d) (cP_le n m) p (n - ((rd p 0).toNat + 1)) ((rd p 0).toNat + 1)
    have h2:(self d p).length<=if 1 < p.length then 1 else 0:=by
      unfold self
      by_cases h:1 < p.length
      · rw[if_pos h];split <;> simp
      · rw[if_neg h,if_neg (fun z=>h z.1)];exact Nat.le_refl _
    omega
theorem cF_le (n:Nat):∀(e i:Nat),(found n d e i).length<=cF n e i
  | 0,_=>Nat.le_refl _
  | e + 1,i=>by
    rw[found,cF,List.length_append]
    have h1:=cP_le (d:=d) n 4 [(i:Int)]
    have h2:=cF_le n e (i + 1)
    omega
theorem cF4:∀n,n<=4->cF n n 0<=20
  | 0,_=>by decide
  | 1,_=>by decide
  | 2,_=>by decide
  | 3,_=>by decide
  | 4,_=>by decide
  | n + 5,h=>by omega
theorem cmpI_lt (a b:Int):(cmpI a b < 0 ↔ a < b)/\(cmpI a b=0 ↔ a=b):=by
  unfold cmpI
  by_cases h:a < b
  · rw[if_pos h];exact⟨⟨fun _=>h,fun _=>by decide⟩,⟨fun z=>by simp at z,fun z=>by omega⟩⟩
  · rw[if_neg h]
    by_cases h2:a > b
    · rw[if_pos h2];exact⟨⟨fun z=>by simp at z,fun z=>by omega⟩,⟨fun z=>by simp at z,fun z=>by omega⟩⟩
    · rw[if_neg h2];exact⟨⟨fun z=>by simp at z,fun z=>by omega⟩,⟨fun _=>by omega,fun _=>rfl⟩⟩
theorem lex_lt:∀(a b:List Int),a.length=b.length->(lexc a b < 0 ↔ lexlt a b=true)
  | [],[],_=>by simp[lexc,lexlt]
  | [],_ :: _,h=>by simp at h
  | _ :: _,[],h=>by simp at h
  | a :: r,b :: s,h=>by
    rw[lexc,lexlt]
    have hc:=cmpI_lt a b
    by_cases e:a=b
    · rw[if_pos (hc.2.2 e),if_pos e];exact lex_lt r s (by simpa using h)
    · rw[if_neg (fun z=>e (hc.2.1 z)),if_neg e,hc.1];simp
theorem cmp_bef (a b:List Int):cmpl a b < 0 ↔ bef a b=true:=by
  unfold cmpl bef
  have hc:=cmpI_lt (a.length:Int) (b.length:Int)
  by_cases e:a.length=b.length
  · rw[if_pos (hc.2.2 (by omega)),if_pos e];exact lex_lt a b e
  · rw[if_neg (fun z=>e (by have:=hc.2.1 z;omega)),if_neg e,hc.1];simp
theorem insL_eq:∀(j:Nat) (xs:List (List Int)),insL j xs=ins bef j xs
  | 0,_=>rfl
  | j + 1,xs=>by
    rw[insL,ins]
    by_cases h:bef (xs.getD (j + 1) []) (xs.getD j [])=true
    · rw[if_pos ((cmp_bef _ _).2 h),if_pos h];exact insL_eq j _
    · rw[if_neg (fun z=>h ((cmp_bef _ _).1 z)),if_neg h]
theorem srtL_eq:∀(e i:Nat) (xs:List (List Int)),srtL e i xs=srt bef e i xs
  | 0,_,_=>rfl
  | e + 1,i,xs=>by rw[srtL,srt,insL_eq,srtL_eq e]
theorem circ_20 (h:BookP c d):(circ c d).length<=20:=by
  rw[circ_len]
  exact Nat.le_trans (cF_le c.length c.length 0) (cF4 c.length h.2.1)
theorem iCircles (h:BookP c d):Ev (fun k=>G0.f k c d) (circ c d):=by
  have h4:=h.2.1
  have hdl:=h.2.2.1
  have h20:=circ_20 h
  rw[circ_len] at h20
  have e:∀k,G0.f k c d=some (circ c d):=fun k=>by
    unfold G0.f
    rw[hdl,found_eq h c.length 0 (by omega),if_pos ⟨rfl,h4,fun i hi=>(h.2.2.2 i hi).2.2.1,h20⟩,srtL_eq]
    rfl
  simp only[e]
  exact Ev.now _
end Go.Proofs.Ytfooakkhkehpiaa.CqE
namespace Go.Proofs.Ytfooakkhkehpiaa.WiE
open Go.RowKit Go.Proofs.Ytfooakkhkehpiaa.PE Go.Proofs.Ytfooakkhkehpiaa.Qh Go.Proofs.Ytfooakkhkehpiaa.BkE Go.Proofs.Ytfooakkhkehpiaa.MxE Go.Proofs.Ytfooakkhkehpiaa.OwE Go.Proofs.Ytfooakkhkehpiaa.CrE Go.Proofs.Ytfooakkhkehpiaa.SkE Go.Proofs.Ytfooakkhkehpiaa.SnE Go.Proofs.YtfooakkhkehpiaaW.PrintWords Go.Proofs.YtfooakkhkehpiaaW.PrintMore
set_option linter.unusedVariables false
set_option linter.unusedSimpArgs false
open Go.Proofs.Ytfooakkhkehpiaa.NeE (cs)
variable {c:List Int} {d:List (List Int)}
theorem no_more (h:BookP c d) (ht:tot c d<=0):(circ c d).length=0:=by
  apply Classical.byContradiction
  intro hz
  have hq:=mem_circ h (getD_mem [] (circ c d) 0 (by omega))
  have h1:=struck_less h hq
  have h2:=tot_bd (struck_ok h hq)
  omega
theorem iWoc:∀(N:Nat) (d:List (List Int)) (n:Int),BookP c d->tot c d<=(N:Int)->0<=n->n + N<=1000->Ev (fun k=>Fe.l0 k n c d) (c,(woc c N d n).1,(woc c N d n).2):=by
  intro N
  induction N with
  | zero=>
    intro d n h ht hn hN
    refine Ev.step (fun k=>by rw[Fe.l0]) ?_
    refine Ev.bind (CqE.iCircles h) ?_
    have hz:=no_more h (by omega)
    exact evPos (by omega) (Ev.now _)
  | succ N ih=>
    intro d n h ht hn hN
    refine Ev.step (fun k=>by rw[Fe.l0]) ?_
    refine Ev.bind (CqE.iCircles h) ?_
    by_cases hz:(circ c d).length=0
    · refine evPos (by omega) (evEq (Ev.now _) ?_)
      rw[woc,if_pos hz]
    · refine evNeg (by omega) (evPos (by omega) ?_)
      have hq:=mem_circ h (getD_mem [] (circ c d) 0 (by omega))
      have e1:Jm (circ c d) 0=(circ c d).getD 0 []:=rfl
      rw[e1]
      refine Ev.bind (SiE.iStruck h hq) ?_
      have hw:wrap64 (n + 1)=n + 1:=w64 (by omega) (by omega)
      rw[hw]
      have h1:=struck_less h hq
      refine evEq (ih _ (n + 1) (struck_ok h hq) (by show tot c (struck c d ((circ c d).getD 0 []))<=(N:Int);omega) (by omega) (by omega)) ?_
      rw[woc,if_neg hz]
theorem iwithout (h:BookP c d):Ev (fun k=>Fe.f k c d) (c,(without c d).1,(without c d).2):=by
  unfold Fe.f
  exact Ev.bind (icopy h) (iWoc 144 d 0 h (tot_bd h).2 (by omega) (by omega))
end Go.Proofs.Ytfooakkhkehpiaa.WiE
namespace Go.Proofs.Ytfooakkhkehpiaa.IdE
open Go.RowKit Go.Proofs.Ytfooakkhkehpiaa.PE Go.Proofs.Ytfooakkhkehpiaa.Qh Go.Proofs.Ytfooakkhkehpiaa.BkE Go.Proofs.Ytfooakkhkehpiaa.MxE Go.Proofs.Ytfooakkhkehpiaa.NtE Go.Proofs.Ytfooakkhkehpiaa.DkE Go.Proofs.Ytfooakkhkehpiaa.SkE Go.Proofs.Ytfooakkhkehpiaa.DdE Go.Proofs.YtfooakkhkehpiaaW.PrintWords Go.Proofs.YtfooakkhkehpiaaW.PrintMore
set_option linter.unusedVariables false
set_option linter.unusedSimpArgs false
section
variable {c c':List Int} {d d':List (List Int)} {ps:List B} {a0 a1 a2 a3:Int}
theorem isBank (c:List Int) (d:List (List Int)) (a:Int):EvB (fun k=>Gp.f k c d a) (BookP c d/\0<=a/\a < c.length):=by
  unfold Gp.f
  obtain⟨b,hb,e⟩:=isBook c d
  refine EvB.bind e ?_
  by_cases h:BookP c d
  · refine EvB.pos (hb.2 h) ?_
    by_cases h0:a ≥ 0
    · refine EvB.pos h0 ⟨_,?_,Ev.now _⟩
      rw[decide_eq_true_iff]
      exact⟨fun z=>⟨h,h0,z⟩,fun z=>z.2.2⟩
    · exact EvB.neg h0 (EvB.ff (fun z=>h0 z.2.1))
  · exact EvB.neg (fun z=>h (hb.1 z)) (EvB.ff (fun z=>h z.1))
theorem iDcopy (h:DeskP c d ps):Ev (fun k=>Fh.f k c d ps) (c,d,ps):=by
  unfold Fh.f
  refine Ev.bind (icopy h.1) ?_
  have h8:=h.2.1
  have key:∀(e i:Nat),ps.length - i=e->i<=ps.length->Ev (fun k=>Fh.l0 k ps (ps.length:Int) (i:Int) c d (ps.take i)) (c,d,ps):=by
    intro e
    induction e with
    | zero=>
      intro i he hi
      obtain rfl:i=ps.length:=by omega
      refine Ev.step (fun k=>by rw[Fh.l0]) ?_
      rw[List.take_length]
      exact evNeg (by omega) (Ev.now _)
    | succ e ih=>
      intro i he hi
      have hlt:i < ps.length:=by omega
      have hs:G7 (wrap64 ((i:Int) + 1)=((i + 1:Nat):Int)):=⟨wsucc hlt (by omega)⟩
      have htl:(ps.take i).length=i:=by rw[List.length_take];omega
      have hmem:Jn ps (i:Int) ∈ ps:=by rw[rT];exact getD_mem _ ps i hlt
      have e2:ps.take i ++ [Jn ps (i:Int)]=ps.take (i + 1):=by
        rw[rT,List.getD_eq_getElem?_getD,List.getElem?_eq_getElem hlt,List.take_succ_eq_append_getElem hlt];rfl
      refine Ev.step (fun k=>by rw[Fh.l0]) ?_
      rw[hs.out]
      refine evPos (by omega) (evPos (by omega) (evPos (by omega) (Ev.bind (icopy (h.2.2 _ hmem).1) (evPos (by omega) ?_))))
      show Ev (fun k=>Fh.l0 k ps (ps.length:Int) ((i + 1:Nat):Int) c d (ps.take i ++ [Jn ps (i:Int)])) _
      rw[e2]
      exact ih (i + 1) (by omega) (by omega)
  exact key ps.length 0 rfl (by omega)
theorem eqI_l (a b:List Int) (ha:a.length<=4611686018427387904) (hl:a.length=b.length):∀(e i:Nat),a.length - i=e->i<=a.length->EvB (fun k=>Fs.l0 k a b (a.length:Int) (i:Int)) (∀i':Nat,i<=i'->i' < a.length->rd a (i':Int)=rd b (i':Int)):=by
  intro e
  induction e with
  | zero=>
    intro i he hi
    refine EvB.step (fun k=>by rw[Fs.l0]) ?_
    exact EvB.neg (by omega) (EvB.tt (fun i' h1 h2=>by omega))
  | succ e ih=>
    intro i he hi
    have hlt:i < a.length:=by omega
    have hs:wrap64 ((i:Int) + 1)=((i + 1:Nat):Int):=wsucc hlt ha
    refine EvB.step (fun k=>by rw[Fs.l0]) ?_
    rw[hs]
    refine EvB.pos (by omega) (EvB.pos (by omega) (EvB.pos (by omega) (EvB.pos (by omega) ?_)))
    by_cases h:rd a (i:Int)=rd b (i:Int)
    · refine EvB.pos h ((ih (i + 1) (by omega) (by omega)).congr ⟨fun z i' h1 h2=>?_,fun z i' h1 h2=>z i' (by omega) h2⟩)
      by_cases e':i'=i
      · subst e';exact h
      · exact z i' (by omega) h2
    · exact EvB.neg h (EvB.ff (fun z=>h (z i (Nat.le_refl _) hlt)))
theorem eqI (a b:List Int) (ha:a.length<=4611686018427387904):EvB (fun k=>Fs.f k a b) (a=b):=by
  unfold Fs.f
  by_cases hl:a.length=b.length
  · exact EvB.pos (by omega) ((eqI_l a b ha hl _ 0 rfl (by omega)).congr ⟨fun z=>ext_rd a b hl (fun i hi=>z i (by omega) hi),fun z i' _ _=>by rw[z]⟩)
  · exact EvB.neg (by omega) (EvB.ff (fun z=>hl (by rw[z])))
theorem eqEl:∀(a b:List (List Int)),(∀x ∈ a,x.length<=4611686018427387904)->a.length=b.length->EvB (fun k=>F8.el k a b) (a=b)
  | [],[],_,_=>EvB.tt rfl
  | x :: r,y :: s,h,hl=>by
    show EvB (fun k=>(Fs.f k x y).bind fun t=>if t=true then F8.el k r s else some false) _
    obtain⟨t,ht,e⟩:=eqI x y (h x List.mem_cons_self)
    refine EvB.bind e ?_
    by_cases hx:x=y
    · refine EvB.pos (ht.2 hx) ((eqEl r s (fun z hz=>h z (List.mem_cons_of_mem _ hz)) (by simpa using hl)).congr ?_)
      rw[hx];simp
    · exact EvB.neg (fun z=>hx (ht.1 z)) (EvB.ff (fun z=>hx (by injection z)))
theorem sameBk (h:BookP c' d') (c:List Int) (d:List (List Int)):EvB (fun k=>G2.f k c' d' c d) (c'=c/\d'=d):=by
  have h4:=h.2.1
  have hdl:=h.2.2.1
  unfold G2.f
  obtain⟨t,ht,e⟩:=eqI c' c (by omega)
  refine EvB.bind e ?_
  by_cases hc:c'=c
  · refine EvB.pos (ht.2 hc) ?_
    have key:EvB (fun k=>F8.f k d' d) (d'=d):=by
      unfold F8.f
      by_cases hl:d'.length=d.length
      · refine EvB.pos (by omega) (eqEl d' d (fun x hx=>?_) hl)
        obtain⟨i,hi,rfl⟩:=List.mem_iff_getElem.mp hx
        have:=(h.2.2.2 i (by omega)).2.2.1
        rw[rL,List.getD_eq_getElem?_getD,List.getElem?_eq_getElem hi] at this
        simp only[Option.getD_some] at this
        omega
      · exact EvB.neg (by omega) (EvB.ff (fun z=>hl (by rw[z])))
    obtain⟨u,hu,eu⟩:=key
    exact EvB.bind eu ⟨u,hu.trans ⟨fun z=>⟨hc,z⟩,fun z=>z.2⟩,Ev.now _⟩
  · exact EvB.neg (fun z=>hc (ht.1 z)) (EvB.ff (fun z=>hc z.1))
def Np (o:Option (List Int × List (List Int))) (g:Nat->Option (List Int × List (List Int) × Bool)):Prop:=
  ∃c' d' b,Ev g (c',d',b)/\(b=true->o=some (c',d'))/\(¬ b=true->o=none)
theorem NpE.step {o:Option (List Int × List (List Int))} {g f:Nat->Option (List Int × List (List Int) × Bool)} (e:∀k,g (k + 1)=f k) (h:Np o f):Np o g:=by
  obtain⟨c',d',b,h1,h2⟩:=h
  exact⟨c',d',b,Ev.step e h1,h2⟩
theorem NpE.pos {o:Option (List Int × List (List Int))} {p:Prop} [Decidable p] {g f:Nat->Option (List Int × List (List Int) × Bool)} (hp:p) (h:Np o g):Np o (fun k=>if p then g k else f k):=by
  obtain⟨c',d',b,h1,h2⟩:=h
  exact⟨c',d',b,evPos hp h1,h2⟩
theorem NpE.neg {o:Option (List Int × List (List Int))} {p:Prop} [Decidable p] {g f:Nat->Option (List Int × List (List Int) × Bool)} (hp:¬ p) (h:Np o f):Np o (fun k=>if p then g k else f k):=by
  obtain⟨c',d',b,h1,h2⟩:=h
  exact⟨c',d',b,evNeg hp h1,h2⟩
theorem NpE.bind {β:Type} {o:Option (List Int × List (List Int))} {g:Nat->Option β} {f:Nat->β->Option (List Int × List (List Int) × Bool)} {a:β} (e:Ev g a) (h:Np o (fun k=>f k a)):Np o (fun k=>(g k).bind (f k)):=by
  obtain⟨c',d',b,h1,h2⟩:=h
  exact⟨c',d',b,Ev.bind e h1,h2⟩
theorem NpE.bind0 {β:Type} {o:Option (List Int × List (List Int))} {g:Option β} {f:Nat->β->Option (List Int × List (List Int) × Bool)} {a:β} (e:g=some a) (h:Np o (fun k=>f k a)):Np o (fun k=>g.bind (f k)):=by
  obtain⟨c',d',b,h1,h2⟩:=h
  exact⟨c',d',b,evBind0 e h1,h2⟩
theorem NpE.yes:Np (some (c',d')) (fun _=>some (c',d',true)):=⟨c',d',true,Ev.now _,fun _=>rfl,fun z=>absurd rfl z⟩
theorem NpE.no:Np none (fun _=>some ([],[],false)):=⟨[],[],false,Ev.now _,fun z=>by simp at z,fun _=>rfl⟩
theorem NpE.book {o:Option (List Int × List (List Int))} (hp:BookP c' d'->o=some (c',d')) (hn:¬ BookP c' d'->o=none):Np o (fun k=>(Fi.f k c' d').bind fun t=>some (c',d',t)):=by
  obtain⟨b,hb,e⟩:=isBook c' d'
  exact⟨c',d',b,Ev.bind e (Ev.now _),fun z=>hp (hb.1 z),fun z=>hn (fun w=>z (hb.2 w))⟩
theorem j1f (h:BookP c d) (h0:¬ (a0=0/\(0<=a1/\a1 < (c.length:Int))/\a2=0)) (h1:¬ (a0=1/\(0<=a1/\a1 < (c.length:Int))/\(0<=a2/\a2 < (c.length:Int))/\a1≠a2)):Np (made c d a0 a1 a2 a3) (fun k=>Fo.j1 k false c d a0 a1 a2 a3):=by
  refine NpE.step (fun k=>by rw[Fo.j1]) ?_
  refine NpE.neg (by decide) ?_
  unfold made
  rw[if_neg (fun z=>h0 ⟨z.1,z.2.1,z.2.2.1⟩),if_neg (fun z=>h1 ⟨z.1,z.2.1,z.2.2.1,z.2.2.2.1⟩)]
  by_cases g2:a0=2/\a1=0/\a2=0/\a3=0
  · rw[if_pos g2]
    exact NpE.pos (by simp[g2]) (NpE.bind (inetted h) NpE.yes)
  rw[if_neg g2]
  refine NpE.neg (by simpa using g2) ?_
  by_cases g3:a0=3/\a1=0/\a2=0/\a3=0
  · rw[if_pos g3]
    exact NpE.pos (by simp[g3]) (NpE.bind (WiE.iwithout h) NpE.yes)
  rw[if_neg g3]
  exact NpE.neg (by simpa using g3) NpE.no
theorem j0f (h:BookP c d) (h0:¬ (a0=0/\(0<=a1/\a1 < (c.length:Int))/\a2=0)):Np (made c d a0 a1 a2 a3) (fun k=>Fo.j0 k false c d a0 a1 a2 a3):=by
  have hdl:=h.2.2.1
  refine NpE.step (fun k=>by rw[Fo.j0]) ?_
  refine NpE.neg (by decide) ?_
  by_cases k1:a0=1
  · obtain⟨b1,hb1,e1⟩:=isBank c d a1
    refine NpE.pos k1 (NpE.bind e1 ?_)
    by_cases k2:0<=a1/\a1 < (c.length:Int)
    · obtain⟨b2,hb2,e2⟩:=isBank c d a2
      refine NpE.pos (hb1.2 ⟨h,k2⟩) (NpE.bind e2 ?_)
      by_cases k3:0<=a2/\a2 < (c.length:Int)
      · refine NpE.pos (hb2.2 ⟨h,k3⟩) ?_
        by_cases k4:a1=a2
        · have:(a1 != a2)=false:=bne_eq_false_iff_eq.mpr k4
          rw[this]
          exact j1f h h0 (fun z=>z.2.2.2 k4)
        · have:(a1 != a2)=true:=bne_iff_ne.mpr k4
          rw[this]
          have hrl:=CrE.row_len h (i:=a1) ⟨by omega,by omega⟩
          refine NpE.step (fun k=>by rw[Fo.j1]) ?_
          refine NpE.pos rfl (NpE.bind (icopy h) (NpE.pos k2.1 (NpE.pos (by show a1 < (d.length:Int);omega) (NpE.pos k3.1 (NpE.pos (by show a2 < ((Jm d a1).length:Int);omega) (NpE.bind0 rfl ?_))))))
          unfold made
          rw[if_neg (fun z=>h0 ⟨z.1,z.2.1,z.2.2.1⟩)]
          refine NpE.book (fun z=>?_) (fun z=>?_)
          · have hi:a1.toNat < c.length:=by omega
            have hj:a2.toNat < c.length:=by omega
            have z2:=(z.2.2.2 a1.toNat hi).2.2.2.2 a2.toNat hj
            rw[debt_mk h k2 k3,mk_get hi,rd_rowF hj,if_pos ⟨rfl,rfl⟩] at z2
            rw[if_pos ⟨k1,k2,k3,k4,z2⟩]
          · rw[if_neg (fun w=>z (debt_ok h w.2.1 w.2.2.1 w.2.2.2.1 w.2.2.2.2)),if_neg (by omega),if_neg (by omega)]
      · exact NpE.neg (fun z=>k3 (hb2.1 z).2) (j1f h h0 (fun z=>k3 z.2.2.1))
    · exact NpE.neg (fun z=>k2 (hb1.1 z).2) (j1f h h0 (fun z=>k2 z.2.1))
  · exact NpE.neg k1 (j1f h h0 (fun z=>k1 z.1))
theorem nextBook (h:BookP c d):Np (made c d a0 a1 a2 a3) (fun k=>Fo.f k c d a0 a1 a2 a3):=by
  unfold Fo.f
  by_cases k0:a0=0
  · refine NpE.pos k0 ?_
    by_cases k2:a2=0
    · obtain⟨b1,hb1,e1⟩:=isBank c d a1
      refine NpE.pos k2 (NpE.bind e1 ?_)
      by_cases k1:0<=a1/\a1 < (c.length:Int)
      · rw[hb1.2 ⟨h,k1⟩]
        refine NpE.step (fun k=>by rw[Fo.j0]) ?_
        have hw:Ev (fun k=>G5.f k c d a1 a3) (c.set a1.toNat a3,d):=by
          unfold G5.f
          exact Ev.bind (icopy h) (evPos k1.1 (evPos k1.2 (Ev.now _)))
        refine NpE.pos rfl (NpE.bind hw ?_)
        unfold made
        refine NpE.book (fun z=>?_) (fun z=>?_)
        · have hl:(c.set a1.toNat a3).length=c.length:=List.length_set
          have z2:=z.2.2.2 a1.toNat (by rw[hl];omega)
          have e:rd (c.set a1.toNat a3) (a1.toNat:Int)=a3:=by
            rw[rd_set c a3 a1 _ k1.1 k1.2 (by omega),if_pos (by omega)]
          have z3:=z2.1
          have z4:=z2.2.1
          rw[e] at z3 z4
          rw[if_pos ⟨k0,k1,k2,z3,z4⟩]
        · rw[if_neg (fun w=>z (cash_ok h w.2.1 w.2.2.2)),if_neg (by omega),if_neg (by omega),if_neg (by omega)]
      · have:b1=false:=by
          cases b1 with
          | false=>rfl
          | true=>exact absurd (hb1.1 rfl).2 k1
        rw[this]
        exact j0f h (fun z=>k1 z.2.1)
    · exact NpE.neg k2 (j0f h (fun z=>k2 z.2.2))
  · exact NpE.neg k0 (j0f h (fun z=>k0 z.1))
theorem made4:made c d 4 0 0 0=none:=by
  unfold made
  rw[if_neg (by omega),if_neg (by omega),if_neg (by omega),if_neg (by omega)]
theorem iDo (h:DeskP c d ps):Ev (fun k=>Fb.f k c d ps a0 a1 a2 a3) (dd c d ps a0 a1 a2 a3):=by
  have h8:=h.2.1
  unfold Fb.f dd
  rw[if_pos h]
  refine Ev.bind (iDcopy h) ?_
  have hw:G7 (wrap64 ((ps.length:Int) - 1)=(ps.length:Int) - 1):=⟨w64 (by omega) (by omega)⟩
  show Ev (fun k=>if (a0 == 4 && (a1 == 0 && (a2 == 0 && (a3 == 0))))=true then(if (wrap64 ((ps.length:Int) - 1)) < 0 then(some (c,d,ps,false)) else(if 0<=(wrap64 ((ps.length:Int) - 1)) then(if (wrap64 ((ps.length:Int) - 1)) < (ps.length:Int) then(if (wrap64 ((ps.length:Int) - 1))<=(ps.length:Int) then((Fh.f k ((Jn ps (wrap64 ((ps.length:Int) - 1))).f0) ((Jn ps (wrap64 ((ps.length:Int) - 1))).f1) (ps.take ((wrap64 ((ps.length:Int) - 1)):Int).toNat)).bind fun bt=>(some (bt.1,bt.2.1,bt.2.2,true))) else(none)) else(none)) else(none))) else((Fo.f k c d a0 a1 a2 a3).bind fun bt525=>(if bt525.2.2=true then((G2.f k bt525.1 bt525.2.1 c d).bind fun cn3=>(Fb.j0 k cn3 c d ps bt525.1 bt525.2.1)) else(Fb.j0 k true c d ps bt525.1 bt525.2.1)))) _
  rw[hw.out]
  by_cases hA:a0=4/\a1=0/\a2=0/\a3=0
  · refine evPos (by simp[hA]) ?_
    by_cases hp:0 < ps.length
    · rw[if_pos ⟨hA,hp⟩]
      refine evNeg (by omega) (evPos (by omega) (evPos (by omega) (evPos (by omega) ?_)))
      have e1:(ps.length:Int) - 1=((ps.length - 1:Nat):Int):=by omega
      rw[e1,Int.toNat_natCast]
      have hmem:Jn ps ((ps.length - 1:Nat):Int) ∈ ps:=by rw[rT];exact getD_mem _ ps _ (by omega)
      have hk:=h.2.2 _ hmem
      refine Ev.bind (iDcopy ⟨hk.1,by rw[List.length_take];omega,fun x hx=>?_⟩) (Ev.now _)
      have:=h.2.2 x (List.mem_of_mem_take hx)
      exact⟨this.1,by rw[this.2,hk.2]⟩
    · obtain⟨rfl,rfl,rfl,rfl⟩:=hA
      rw[if_neg (fun z=>hp z.2),if_pos (.inl made4)]
      exact evPos (by omega) (Ev.now _)
  · rw[if_neg (fun z=>hA z.1)]
    refine evNeg (by simpa using hA) ?_
    obtain⟨c',d',b,e,hy,hn⟩:=nextBook (a0:=a0) (a1:=a1) (a2:=a2) (a3:=a3) h.1
    refine Ev.bind e ?_
    have stop:Ev (fun k=>Fb.j0 k true c d ps c' d') (c,d,ps,false):=by
      refine Ev.step (fun k=>by rw[Fb.j0]) ?_
      exact evPos rfl (Ev.now _)
    by_cases hb:b=true
    · have hm:=hy hb
      have hok:=made_ok h.1 hm
      obtain⟨t,ht,es⟩:=sameBk hok.1 c d
      refine evPos hb (Ev.bind es ?_)
      by_cases hs:c'=c/\d'=d
      · rw[if_pos (.inr (by rw[hm,hs.1,hs.2])),ht.2 hs]
        exact stop
      · have htf:t=false:=by
          cases t with
          | false=>rfl
          | true=>exact absurd (ht.1 rfl) hs
        rw[if_neg (fun z=>z.elim (fun z=>by rw[hm] at z;cases z) (fun z=>hs (by rw[hm] at z;have:=Option.some.inj z;exact⟨congrArg Prod.fst this,congrArg Prod.snd this⟩))),htf,hm]
        refine Ev.step (fun k=>by rw[Fb.j0]) ?_
        have hlen:(ps ++ [(⟨c,d⟩:B)]).length=ps.length + 1:=by simp
        have hD:DeskP c' d' (push c d ps):=by
          refine⟨hok.1,(push_len h8).1,fun x hx=>?_⟩
          rcases push_mem hx with hx|rfl
          · have:=h.2.2 x hx
            exact⟨this.1,by rw[this.2];exact hok.2.symm⟩
          · exact⟨h.1,hok.2.symm⟩
        refine evNeg (by decide) (evPos (by omega) (evBind0 rfl ?_))
        show Ev _ (c',d',push c d ps,true)
        by_cases h9:ps.length + 1 > 8
        · refine evPos (by omega) (evPos (by omega) ?_)
          have e1:push c d ps=(ps ++ [(⟨c,d⟩:B)]).drop (1:Int).toNat:=by unfold push;rw[if_pos h9];rfl
          rw[<- e1]
          exact Ev.bind (iDcopy hD) (Ev.now _)
        · refine evNeg (by omega) ?_
          have e1:push c d ps=ps ++ [(⟨c,d⟩:B)]:=by unfold push;rw[if_neg h9]
          rw[<- e1]
          exact Ev.bind (iDcopy hD) (Ev.now _)
    · rw[if_pos (.inl (hn hb))]
      exact evNeg hb stop
theorem iDeskDo:Ev (fun k=>F2.f k c d ps a0 a1 a2 a3) (dd c d ps a0 a1 a2 a3):=by
  unfold F2.f
  by_cases h:DeskP c d ps
  · exact Ev.bind ((isDesk c d ps).yes h) (evPos rfl (Ev.bind (iDo h) (Ev.now _)))
  · refine Ev.bind ((isDesk c d ps).no h) (evNeg (by decide) (evEq (Ev.now _) ?_))
    unfold dd
    rw[if_neg h]
end
end Go.Proofs.Ytfooakkhkehpiaa.IdE
namespace Go.Proofs.Ytfooakkhkehpiaa.EddE
open Go.RowKit Go.Proofs.Ytfooakkhkehpiaa.PE Go.Proofs.Ytfooakkhkehpiaa.Qh Go.Proofs.Ytfooakkhkehpiaa.BkE Go.Proofs.Ytfooakkhkehpiaa.TbE Go.Proofs.Ytfooakkhkehpiaa.DkE Go.Proofs.Ytfooakkhkehpiaa.DdE Go.Proofs.Ytfooakkhkehpiaa.IdE Go.Proofs.YtfooakkhkehpiaaW.PrintWords Go.Proofs.YtfooakkhkehpiaaW.PrintMore
set_option linter.unusedVariables false
set_option linter.unusedSimpArgs false
abbrev L_:=S40
theorem small_of {c:List Int} {d:List (List Int)} (h:BookP c d):Small c d:=
  ⟨by have:=h.2.1;omega,by have:=h.2.1;have:=h.2.2.1;omega,fun i hi=>by have:=(h.2.2.2 i (by have:=h.2.2.1;omega)).2.2.1;have:=h.2.1;omega⟩
def SmD (c:List Int) (d:List (List Int)) (ps:List B):Prop:=Small c d/\ps.length<=1048576/\∀i:Nat,i < ps.length->Small (ps.getD i z25).f0 (ps.getD i z25).f1
theorem smD_of {c:List Int} {d:List (List Int)} {ps:List B} (h:DeskP c d ps):SmD c d ps:=
  ⟨small_of h.1,by have:=h.2.1;omega,fun i hi=>small_of (h.2.2 _ (getD_mem _ ps i hi)).1⟩
theorem smD_nil:SmD [] [] []:=⟨⟨by simp,by simp,fun i hi=>by simp at hi⟩,by simp,fun i hi=>by simp at hi⟩
theorem eqD {c:List Int} {d:List (List Int)} {ps:List B} (h:SmD c d ps):Ev (fun k=>Gr.f k c d ps c d ps) true:=by
  unfold Gr.f Fz.f
  exact Ev.bind (TbE.eqB c d h.1) (evPos rfl (Ev.bind (evPos rfl (DtE.eq_l ps h.2.1 (fun i hi=>h.2.2 i hi) _ 0 rfl (by omega))) (evPos rfl (Ev.now _))))
theorem dd_small (c:List Int) (d:List (List Int)) (ps:List B) (a0 a1 a2 a3:Int):SmD (dd c d ps a0 a1 a2 a3).1 (dd c d ps a0 a1 a2 a3).2.1 (dd c d ps a0 a1 a2 a3).2.2.1:=by
  by_cases h:DeskP c d ps
  · exact smD_of (dd_ok h).1
  · have e:dd c d ps a0 a1 a2 a3=([],[],[],false):=by unfold dd;rw[if_neg h]
    rw[e];exact smD_nil
def Good (k:Nat) (c:List Int) (d:List (List Int)) (qs:List L_) (a0 a1 a2 a3:Int):Prop:=
  (∃t:Int,t < 0/\Gw.f k c d qs 1048576=some t) ∨ ∃(t m0 m:Int) (ps r3 x3 y3:List B) (r1 x1 y1:List Int) (r2 x2 y2:List (List Int)) (r4:Bool),¬ t < 0/\¬ m0 < 0/\¬ m < 0/\Gw.f k c d qs 1048576=some t/\Gf.f k c d qs=some (c,d,ps)/\Gx.f a0 a1 a2 a3=some (a0,a1,a2,a3)/\Gy.f k c d ps a0 a1 a2 a3=some (r1,r2,r3,r4)/\F2.f k c d ps a0 a1 a2 a3=some (r1,r2,r3,r4)/\Gr.f k r1 r2 r3 r1 r2 r3=some true/\Gr.f k c d ps c d ps=some true/\Gu.f k c d ps 1=some (m0,x1,x2,x3)/\Gu.f k r1 r2 r3 1=some (m,y1,y2,y3)/\Gz.f k y1 y2 y3 1=some m
theorem szD (c:List Int) (d:List (List Int)) (qs:List L_) (hc:c.length<=maxLen) (hd:d.length<=maxLen) (hr:∀y ∈ d,y.length<=maxLen) (hp:qs.length<=maxLen) (hf:∀x ∈ qs,x.f0.length<=maxLen/\x.f1.length<=maxLen/\∀y ∈ x.f1,y.length<=maxLen) :
    (∃t:Int,0<=t/\t<=1048576/\SmD c d (qs.map DtE.cv)/\Ev (fun k=>Gw.f k c d qs 1048576) t/\Ev (fun k=>Gf.f k c d qs) (c,d,qs.map DtE.cv)) ∨ Ev (fun k=>Gw.f k c d qs 1048576) (-1):=by
  unfold Gw.f
  unfold maxLen at hc hd hr hp hf
  rcases TbE.szB c d (by omega) (by omega) (fun y hy=>by have:=hr y hy;omega) 1048576 (by omega) (by omega) with⟨t,t0,t1,hs,ht⟩|ht
  case inr=>exact .inr (Ev.bind ht (evPos (by omega) (Ev.now _)))
  rcases DtE.sz qs (by omega) (fun x hx=>by have:=hf x hx;exact⟨by omega,by omega,fun y hy=>by have:=this.2.2 y hy;omega⟩) t t0 t1 with⟨q,q0,q1,hss,hq⟩|hq
  case inr=>exact .inr (Ev.bind ht (evNeg (by omega) (Ev.bind hq (evPos (by omega) (Ev.now _)))))
  refine .inl ⟨q,q0,q1,⟨hs,by rw[List.length_map];exact hss.1,fun i hi=>?_⟩,Ev.bind ht (evNeg (by omega) (Ev.bind hq (evNeg (by omega) (Ev.now _)))),?_⟩
  · rw[List.length_map] at hi
    have h2:=hss.2 i hi
    have e:(qs.map DtE.cv).getD i z25=DtE.cv (qs.getD i z40):=by
      rw[List.getD_eq_getElem?_getD,List.getD_eq_getElem?_getD,List.getElem?_map,List.getElem?_eq_getElem hi];rfl
    rw[e];exact h2
  · unfold Gf.f
    exact Ev.bind (TbE.toB c d hs) (Ev.bind (DtE.to_ qs hss) (Ev.now _))
theorem holds (c:List Int) (d:List (List Int)) (qs:List L_) (a0 a1 a2 a3:Int) (hc:c.length<=maxLen) (hd:d.length<=maxLen) (hr:∀y ∈ d,y.length<=maxLen) (hp:qs.length<=maxLen) (hf:∀x ∈ qs,x.f0.length<=maxLen/\x.f1.length<=maxLen/\∀y ∈ x.f1,y.length<=maxLen):∃k,Good k c d qs a0 a1 a2 a3:=by
  rcases szD c d qs hc hd hr hp hf with⟨t,t0,t1,hs,ht,hto⟩|ht
  · have hr:=dd_small c d (qs.map DtE.cv) a0 a1 a2 a3
    obtain⟨m0,x1,x2,x3,hm0,e0,_⟩:=MsE.marks hs.1 hs.2.1 hs.2.2
    obtain⟨m,y1,y2,y3,hm,e1,e2⟩:=MsE.marks hr.1 hr.2.1 hr.2.2
    obtain⟨k1,h1⟩:=ht
    obtain⟨k2,h2⟩:=hto
    obtain⟨k3,h3⟩:=sDo (c:=c) (d:=d) (ps:=qs.map DtE.cv) (a0:=a0) (a1:=a1) (a2:=a2) (a3:=a3) (by have:=hs.2.1;omega)
    obtain⟨k4,h4⟩:=iDeskDo (c:=c) (d:=d) (ps:=qs.map DtE.cv) (a0:=a0) (a1:=a1) (a2:=a2) (a3:=a3)
    obtain⟨k5,h5⟩:=eqD hr
    obtain⟨k6,h6⟩:=eqD hs
    obtain⟨k7,h7⟩:=e0
    obtain⟨k8,h8⟩:=e1
    obtain⟨k9,h9⟩:=e2
    exact⟨k1 + k2 + k3 + k4 + k5 + k6 + k7 + k8 + k9, .inr ⟨t,m0,m,_,_,x3,y3,_,x1,y1,_,x2,y2,(dd c d (qs.map DtE.cv) a0 a1 a2 a3).2.2.2,by omega,by omega,by omega,h1 _ (by omega),h2 _ (by omega),rfl,h3 _ (by omega),h4 _ (by omega),h5 _ (by omega),h6 _ (by omega),h7 _ (by omega),h8 _ (by omega),h9 _ (by omega)⟩⟩
  · obtain⟨k1,h1⟩:=ht
    exact⟨k1, .inl ⟨-1,by omega,h1 _ (Nat.le_refl _)⟩⟩
theorem calls (k:Nat) (A0_0:Option Addr) (c0_0:Nat) (l0_0:List Int) (A0_1:Option Addr) (c0_1:Nat) (l0_1:List (List Int)) (A0_2:Option Addr) (c0_2:Nat) (l0_2:List L_) (a0 a1 a2 a3:Int) (r:Bool) (w:World) (hr0:Kd.C (Kd.int .i64) w A0_0 l0_0.length l0_0) (hc0:l0_0.length<=c0_0) (hr1:Kd.C (Kd.slice 3 (Kd.int .i64)) w A0_1 l0_1.length l0_1) (hc1:l0_1.length<=c0_1) (hr2:Kd.C k40 w A0_2 l0_2.length l0_2) (hc2:l0_2.length<=c0_2) (h:Good k l0_0 l0_1 l0_2 a0 a1 a2 a3) :
    Calls Try.prog 11 #[.agg #[.slice A0_0 l0_0.length c0_0, .slice A0_1 l0_1.length c0_1, .slice A0_2 l0_2.length c0_2], .agg #[.int .i64 a0, .int .i64 a1, .int .i64 a2, .int .i64 a3]] w fun e w'=>e = .returned (.bool true)/\Below w.heap.size w w':=by
  rcases h with⟨t,ht,h1⟩ | ⟨t,m0,m,ps,r3,x3,y3,r1,x1,y1,r2,x2,y2,r4,g0,g1,g2,h1,h2,h3,h4,h5,h6,h7,h8,h9,h10⟩
  · exact deskDo_neg k A0_0 c0_0 l0_0 A0_1 c0_1 l0_1 A0_2 c0_2 l0_2 a0 a1 a2 a3 t w hr0 hc0 hr1 hc1 hr2 hc2 ht h1
  · exact deskDo_walk k A0_0 c0_0 l0_0 A0_1 c0_1 l0_1 A0_2 c0_2 l0_2 a0 a1 a2 a3 t w hr0 hc0 hr1 hc1 hr2 hc2 m0 m ps r3 x3 y3 r1 x1 y1 r2 x2 y2 r4 g0 g1 g2 h1 h2 h3 h4 h5 h6 h7 h8 h9 h10
end Go.Proofs.Ytfooakkhkehpiaa.EddE
namespace Go.Proofs.Ytfooakkhkehpiaa.fnExactDeskDo
open Go.ChangeShapes Go.WideShapes Go.ChangeAt Go.RowKit Go.Proofs.Ytfooakkhkehpiaa.PE Go.Proofs.YtfooakkhkehpiaaW.PrintWords
open Go.ChangeMaps (open_string shut_string)
set_option linter.unusedVariables false
set_option linter.unusedSimpArgs false
theorem own:ownKnob Try.prog.godebug=none:=by kernel_rfl
theorem laidOut:laidOutB Try.prog=true:=by kernel_rfl
abbrev G3 (_:Int):Prop:=True
theorem o3:Op.Opens Try.prog 3 (Kd.int .i64) G3:=Op.opens_int Try.underlying3 (by kernel_rfl)
abbrev G22 (x:List Int):Prop:=x.length<=maxLen/\∀y ∈ x,G3 y
theorem o22:Op.Opens Try.prog 22 (Kd.slice 3 (Kd.int .i64)) G22:=Op.opens_slice Try.underlying22 (by kernel_rfl) o3
abbrev G23 (x:List (List Int)):Prop:=x.length<=maxLen/\∀y ∈ x,G22 y
theorem o23:Op.Opens Try.prog 23 (Kd.slice 22 (Kd.slice 3 (Kd.int .i64))) G23:=Op.opens_slice Try.underlying23 (by kernel_rfl) o22
abbrev G40 (x:S40):Prop:=G22 x.f0/\G23 x.f1
theorem o40:Op.Opens Try.prog 40 k40 G40:=Op.opens_iso (Op.opens_struct Try.underlying40 (by kernel_rfl) (Op.opensF_cons rfl o22 (Op.opensF_one rfl o23))) (fun x:S40=>(x.f0,x.f1)) (fun z=>(⟨z.1,z.2⟩:S40)) (fun _=>rfl)
abbrev G41 (x:List S40):Prop:=x.length<=maxLen/\∀y ∈ x,G40 y
theorem o41:Op.Opens Try.prog 41 (Kd.slice 40 k40) G41:=Op.opens_slice Try.underlying41 (by kernel_rfl) o40
abbrev G43 (x:S40 × (List S40)):Prop:=G40 x.1/\G41 x.2
theorem o43:Op.Opens Try.prog 43 (Kd.pair k40 (Kd.slice 40 k40)) G43:=Op.opens_struct Try.underlying43 (by kernel_rfl) (Op.opensF_cons rfl o40 (Op.opensF_one rfl o41))
abbrev G66 (x:S66):Prop:=G3 x.f0/\G3 x.f1/\G3 x.f2/\G3 x.f3
theorem o66:Op.Opens Try.prog 66 k66 G66:=Op.opens_iso (Op.opens_struct Try.underlying66 (by kernel_rfl) (Op.opensF_cons rfl o3 (Op.opensF_cons rfl o3 (Op.opensF_cons rfl o3 (Op.opensF_one rfl o3))))) (fun x:S66=>(x.f0,x.f1,x.f2,x.f3)) (fun z=>(⟨z.1,z.2.1,z.2.2.1,z.2.2.2⟩:S66)) (fun _=>rfl)
set_option maxRecDepth 100000 in
theorem lifted (os:Os) (started:os.Started) (H:Type) (enc:TypeId × Value->H) :
    ReturnsInHanded {} Try.checked os 11 .any (Rows.fnExactDeskDoSpec.pre6 enc Try.prog Try.f11 Rows.fnExactDeskDoRow.domain false) (Rows.fnExactDeskDoSpec.post enc Try.prog Try.f11 false true false false):=by
  refine returnsInHanded_of_change_sized (C:=Try.checked) own started (by kernel_rfl) Try.func11
    (ChangeSpec.witness6 (enc:=enc) (C:=Try.checked) false ⟨#[],#[.agg #[.slice none 0 0, .slice none 0 0, .slice none 0 0], .agg #[.int .i64 0, .int .i64 0, .int .i64 0, .int .i64 0]],[]⟩ 8 (by kernel_rfl) (by kernel_rfl) (by kernel_rfl) (by kernel_rfl)) ?_
  intro W base args ds gs before hval0 hW _ _ _
  have hval:∀(j:Nat) t v,Try.f11.params[j]? = some t->args[j]? = some v->Value.okWide Try.prog W .any base t v:=hval0
  have hW':=hW
  obtain⟨p,q,hA0,hV,rfl,_,_⟩:=hW
  have hA:DataW.TrodAll enc Try.prog W 0 (fun _=>true) true Try.f11.params.toList args.toList ds p:=hA0
  rw[Try.params11] at hA hval
  obtain⟨v0,vs0,d0,ds0,p0,q0,hargs,rfl,rfl,h0,r0⟩:=trodAll_cons hA
  obtain⟨v1,vs1,d1,ds1,p1,q1,rfl,rfl,rfl,h1,r1⟩:=trodAll_cons r0
  obtain⟨rfl,rfl,rfl⟩:=trodAll_nil r1
  obtain rfl:args=#[v0,v1]:=by cases args;simp_all
  obtain⟨rfl,rfl⟩:=trodVars_none hV
  have k0:=h0
  have lt0:∀x ∈ p0,x.block < W.heap.size:=by obtain⟨m,hm⟩:=k0;exact DataW.trod_lt m _ _ _ hm
  obtain⟨cs0,x0,rfl,hK0,g0⟩:=Op.open_agg o43 (okWide_struct Try.underlying43 (hval 0 43 v0 rfl rfl)) h0
  obtain⟨ca0_0,cb0_0,e0_0,hK0_0,hR0_0⟩:=hK0
  obtain⟨ca0_0_0,cb0_0_0,e0_0_0,hK0_0_0,hR0_0_0⟩:=hK0_0
  obtain⟨A0_0_0,c0_0_0,e20_0_0,hc0_0_0,hr0_0_0⟩:=hK0_0_0
  obtain⟨A0_0_1,c0_0_1,e20_0_1,hc0_0_1,hr0_0_1⟩:=hR0_0_0
  obtain⟨A0_1,c0_1,e20_1,hc0_1,hr0_1⟩:=hR0_0
  obtain rfl:cs0=#[.slice A0_0_0 x0.1.f0.length c0_0_0, .slice A0_0_1 x0.1.f1.length c0_0_1, .slice A0_1 x0.2.length c0_1]:=by apply Array.toList_inj.1;first|(rw[e0_0,e0_0_0,e20_0_0,e20_0_1,e20_1];rfl)|(simp only[List.singleton_append,List.cons_append,List.nil_append] at *;first|assumption|(simp_all;done))
  have k1:=h1
  have lt1:∀x ∈ p1,x.block < W.heap.size:=by obtain⟨m,hm⟩:=k1;exact DataW.trod_lt m _ _ _ hm
  obtain⟨cs1,x1,rfl,hK1,g1⟩:=Op.open_agg o66 (okWide_struct Try.underlying66 (hval 1 66 v1 rfl rfl)) h1
  obtain⟨ca1_0,cb1_0,e1_0,hK1_0,hR1_0⟩:=hK1
  have e21_0:ca1_0=[.int .i64 x1.f0]:=hK1_0
  obtain⟨ca1_1,cb1_1,e1_1,hK1_1,hR1_1⟩:=hR1_0
  have e21_1:ca1_1=[.int .i64 x1.f1]:=hK1_1
  obtain⟨ca1_2,cb1_2,e1_2,hK1_2,hR1_2⟩:=hR1_1
  have e21_2:ca1_2=[.int .i64 x1.f2]:=hK1_2
  have e21_3:cb1_2=[.int .i64 x1.f3]:=hR1_2
  obtain rfl:cs1=#[.int .i64 x1.f0, .int .i64 x1.f1, .int .i64 x1.f2, .int .i64 x1.f3]:=by apply Array.toList_inj.1;first|(rw[e1_0,e1_1,e1_2,e21_0,e21_1,e21_2,e21_3];rfl)|(simp only[List.singleton_append,List.cons_append,List.nil_append] at *;first|assumption|(simp_all;done))
  obtain⟨k,hk⟩:=EddE.holds x0.1.f0 x0.1.f1 x0.2 x1.f0 x1.f1 x1.f2 x1.f3 g0.1.1.1 g0.1.2.1 (fun y hy=>(g0.1.2.2 y hy).1) g0.2.1 (fun x hx=>⟨(g0.2.2 x hx).1.1,(g0.2.2 x hx).2.1,fun y hy=>((g0.2.2 x hx).2.2 y hy).1⟩)
  refine(EddE.calls k A0_0_0 c0_0_0 x0.1.f0 A0_0_1 c0_0_1 x0.1.f1 A0_1 c0_1 x0.2 x1.f0 x1.f1 x1.f2 x1.f3 true W hr0_0_0 hc0_0_0 hr0_0_1 hc0_0_1 hr0_1 hc0_1  hk).mono fun e W' ⟨he,bel⟩=>?_
  subst he
  exact⟨_,rfl,_,_,_,[],_,[],hW',trodAll_mk1 (shut_bool Try.underlying4 _),(trodAll_cons_mk (Below.trod laidOut (by kernel_rfl) (of_decide_eq_true (by kernel_rfl)) k0 bel lt0) (trodAll_cons_mk (Below.trod laidOut (by kernel_rfl) (of_decide_eq_true (by kernel_rfl)) k1 bel lt1) trodAll_mk0)),rfl,bel.frame _,fun h=>by cases h⟩
theorem over:Rows.fnExactDeskDoRow.holds Try.pinned (OpenSpec.ofChange Rows.fnExactDeskDoSpec):=
  OpenClaim.holds_of_wide 11 Try.f11 rfl rfl rfl rfl rfl rfl rfl ⟨rfl,rfl,rfl,rfl,rfl⟩ rfl rfl rfl rfl rfl (by kernel_rfl) Try.func11 (by kernel_rfl)
    (of_decide_eq_true (by kernel_rfl)) (by unfold Func.isWrapper;first|(rw[if_pos (by decide +kernel)];kernel_rfl)|(rw[if_neg (by decide +kernel)];exact⟨rfl,rfl⟩))
    (fun os started H enc _=>lifted os started H enc)
theorem proved:Rows.FnExactDeskDoSaid:=over
end Go.Proofs.Ytfooakkhkehpiaa.fnExactDeskDo
namespace Go.Proofs.Ytfooakkhkehpiaa
theorem fnExactDeskDo_holds:Rows.FnExactDeskDoSaid:=fnExactDeskDo.proved
end Go.Proofs.Ytfooakkhkehpiaa
