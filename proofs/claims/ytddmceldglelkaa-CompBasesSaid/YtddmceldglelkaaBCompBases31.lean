/- A claim's texts, in the order of what they need: CmpBases, CmpWhole. -/
import Derived.Test.YtddmceldglelkaaBCompBases27
import Derived.Test.YtddmceldglelkaaBCompBases28
import Derived.Test.YtddmceldglelkaaBCompBases30
import Derived.Deep.LoopGhost
import Derived.Deep.RegionLaw
import Derived.Deep.RegionHeld3
import Derived.Deep.QuietTactic
set_option maxRecDepth 100000
set_option maxHeartbeats 8000000
set_option linter.unusedVariables false
set_option linter.unusedSimpArgs false
set_option linter.unusedSectionVars false
namespace Go.Proofs.Ytddmceldglelkaa
namespace CmpBases
open Go Go.RowKit RefPure CmpPure
theorem addP_zero (q:ProgT):addP prog0 q=q:=by cases q;rfl
theorem basesS_ok {f:ByteArray→Nat→Option (Nat×Int×ProgT)} {b:ByteArray} {l:List ByteArray} {n:Nat} {out:ProgT} {m:Nat} {q:ProgT} (h:basesS f (b :: l) n out=some (m,0,q)):∃ m1 q1,f b n=some (m1,0,q1)∧¬96<manyP (addP out q1)∧basesS f l m1 (addP out q1)=some (m,0,q):=by
 unfold basesS at h;cases e:f b n with
 | none=>rw[e] at h;cases h
 | some r=>
   obtain⟨m1,z,q1⟩:=r;rw[e] at h;simp only at h;by_cases hz:z=0
   · subst hz;rw[if_neg (by simp)] at h;by_cases hm:96<manyP (addP out q1)
     · rw[if_pos hm] at h;injection h with h;simp only[Prod.mk.injEq] at h;omega
     · rw[if_neg hm] at h;exact⟨m1,q1,rfl,hm,h⟩
   · rw[if_pos hz] at h;injection h with h;simp only[Prod.mk.injEq] at h;omega
theorem basesS_make {f:ByteArray→Nat→Option (Nat×Int×ProgT)} {b:ByteArray} {l:List ByteArray} {n:Nat} {out:ProgT} {m1:Nat} {q1:ProgT} (h1:f b n=some (m1,0,q1)) (h2:¬96<manyP (addP out q1)):basesS f (b :: l) n out=basesS f l m1 (addP out q1):=by rw[basesS,h1];simp only;rw[if_neg (by simp),if_neg h2]
theorem wholeS_ok {cs:List CompT} {k:Nat} {on:List ByteArray} {nm:ByteArray} {n m:Nat} {q:ProgT} (h:wholeS cs k on nm n=some (m,0,q)):∃ j c out,k=j+1∧findC cs nm=some c∧hasS on nm=false∧¬96<n+1∧basesS (wholeS cs j (nm :: on)) c.bases (n+1) prog0=some (m,0,out)∧¬96<manyP (addP out c.body)∧q=addP out c.body:=by
 cases k with
 | zero=>cases h
 | succ j=>
   unfold wholeS at h;cases e:findC cs nm with
   | none=>rw[e] at h;simp at h
   | some c=>
     rw[e] at h;simp only at h;by_cases ho:hasS on nm=true
     · rw[if_pos ho] at h;simp at h
     · rw[if_neg ho] at h;by_cases hn:96<n+1
       · rw[if_pos hn] at h;simp at h
       · rw[if_neg hn] at h;cases eb:basesS (wholeS cs j (nm :: on)) c.bases (n+1) prog0 with
         | none=>rw[eb] at h;cases h
         | some r=>
           obtain⟨m1,z,out⟩:=r;rw[eb] at h;simp only at h;by_cases hz:z=0
           · subst hz;rw[if_neg (by simp)] at h;by_cases hm:96<manyP (addP out c.body)
             · rw[if_pos hm] at h;simp at h
             · rw[if_neg hm] at h;injection h with h
               simp only[Prod.mk.injEq] at h;obtain⟨rfl,_,rfl⟩:=h;exact⟨j,c,out,rfl,rfl,by simpa using ho,hn,eb,hm,rfl⟩
           · rw[if_pos hz] at h;injection h with h;simp only[Prod.mk.injEq] at h;omega
theorem wholeS_make {cs:List CompT} {j:Nat} {on:List ByteArray} {nm:ByteArray} {n m:Nat} {c:CompT} {out:ProgT} (h1:findC cs nm=some c) (h2:hasS on nm=false) (h3:¬96<n+1) (h4:basesS (wholeS cs j (nm :: on)) c.bases (n+1) prog0=some (m,0,out)) (h5:¬96<manyP (addP out c.body)):wholeS cs (j+1) on nm n=some (m,0,addP out c.body):=by rw[wholeS,h1];simp only;rw[if_neg (by rw[h2];simp),if_neg h3,h4];simp only;rw[if_neg (by simp),if_neg h5]
theorem wholeS_one (cs:List CompT):∀ (k:Nat) (on:List ByteArray) (nm:ByteArray) (n m:Nat) (q:ProgT),wholeS cs k on nm n=some (m,0,q)→n<m∧∀ k2 on2 n2 m2 q2,wholeS cs k2 on2 nm n2=some (m2,0,q2)→q2=q:=by
 intro k;induction k with
 | zero=>intro on nm n m q h;cases h
 | succ k ih=>
   intro on nm n m q h;obtain⟨j,c,out,hj,hc,_,_,hb,_,hq⟩:=wholeS_ok h;injection hj with hj
   subst hj;have hbs:∀ (l:List ByteArray) (n:Nat) (o:ProgT) (m:Nat) (q:ProgT),basesS (wholeS cs k (nm :: on)) l n o=some (m,0,q)→n≤m∧∀ k2 on2 n2 m2 q2,basesS (wholeS cs k2 on2) l n2 o=some (m2,0,q2)→q2=q:=by
    intro l;induction l with
    | nil=>
      intro n o m q h;injection h with h
      simp only[Prod.mk.injEq] at h;obtain⟨rfl,_,rfl⟩:=h;refine⟨Zc _,fun k2 on2 n2 m2 q2 h2=>?_⟩;injection h2 with h2
      simp only[Prod.mk.injEq] at h2;exact h2.2.2.symm
    | cons b l ihl=>intro n o m q h;obtain⟨m1,q1,e1,_,e2⟩:=basesS_ok h;obtain⟨h3,h4⟩:=ih _ _ _ _ _ e1;obtain⟨h5,h6⟩:=ihl _ _ _ _ e2;refine⟨by omega,fun k2 on2 n2 m2 q2 h2=>?_⟩;obtain⟨m1',q1',e1',_,e2'⟩:=basesS_ok h2;have:=h4 _ _ _ _ _ e1';subst this;exact h6 _ _ _ _ _ e2'
   obtain⟨h1,h2⟩:=hbs _ _ _ _ _ hb;refine⟨by omega,fun k2 on2 n2 m2 q2 h3=>?_⟩;obtain⟨j2,c2,out2,rfl,hc2,_,_,hb2,_,hq2⟩:=wholeS_ok h3;rw[hc] at hc2;injection hc2 with hc2
   subst hc2;have:=h2 _ _ _ _ _ hb2;rw[hq,hq2,this]
theorem wholeS_many {cs:List CompT} {k:Nat} {on:List ByteArray} {nm:ByteArray} {n m:Nat} {q:ProgT} (h:wholeS cs k on nm n=some (m,0,q)):¬96<manyP q:=by obtain⟨_,_,_,_,_,_,_,_,hm,hq⟩:=wholeS_ok h;rw[hq];exact hm
section
variable {cs cs':List CompT} {c:CompT} {w:ProgT}
structure Turned (cs cs':List CompT) (c:CompT) (w:ProgT):Prop where
 there:findC cs c.name=some c
 this:findC cs' c.name=some ⟨c.name,[],w,c.at_⟩
 that:∀ n,n≠c.name→findC cs' n=findC cs n
 whole:∃ m,wholeS cs (cs.length+1) [] c.name 0=some (m,0,w)
 len:cs'.length=cs.length
theorem Turned.whole_ok (T:Turned cs cs' c w):∀ (k:Nat) (on:List ByteArray) (nm:ByteArray) (n m:Nat) (q:ProgT),wholeS cs k on nm n=some (m,0,q)→∀ on' n',(∀ x,hasS on' x=true→hasS on x=true)→n'≤n→∃ m',m'≤m∧wholeS cs' k on' nm n'=some (m',0,q):=by
 intro k;induction k with
 | zero=>intro on nm n m q h;cases h
 | succ k ih=>
   intro on nm n m q h on' n' hon hn;obtain⟨h1,h2⟩:=wholeS_one cs _ _ _ _ _ _ h;obtain⟨j,d,out,hj,hd,ho,hn1,hb,hm,hq⟩:=wholeS_ok h;injection hj with hj
   subst hj;have ho':hasS on' nm=false:=by
    cases e:hasS on' nm with
    | false=>rfl
    | true=>rw[hon nm e] at ho;cases ho
   by_cases hnm:nm=c.name
   · subst hnm;obtain⟨m0,h0⟩:=T.whole;have hw:w=q:=h2 _ _ _ _ _ h0;subst hw;have hmany:=wholeS_many h;refine⟨n'+1,by omega,?_⟩;have:=wholeS_make (cs:=cs') (j:=k) (on:=on') (n:=n') (m:=n'+1) (out:=prog0) T.this ho' (by omega) rfl (by rw[addP_zero];exact hmany);rw[addP_zero] at this;exact this
   · have hd':findC cs' nm=some d:=(by rw[T.that nm hnm,hd]);have hbs:∀ (l:List ByteArray) (n:Nat) (o:ProgT) (m:Nat) (q:ProgT) (n':Nat),n'≤n→basesS (wholeS cs k (nm :: on)) l n o=some (m,0,q)→∃ m',m'≤m∧basesS (wholeS cs' k (nm :: on')) l n' o=some (m',0,q):=by
      intro l;induction l with
      | nil=>
        intro n o m q n' hn h;injection h with h
        simp only[Prod.mk.injEq] at h;obtain⟨rfl,_,rfl⟩:=h;exact⟨n',hn,rfl⟩
      | cons b l ihl=>intro n o m q n' hn h;obtain⟨m1,q1,e1,e3,e2⟩:=basesS_ok h;obtain⟨m1',hm1,e1'⟩:=ih _ _ _ _ _ e1 (nm :: on') n' (fun x hx=>by rw[hasS_cons,Bool.or_eq_true] at hx ⊢;exact hx.imp id (hon x)) hn;obtain⟨m',hm',e2'⟩:=ihl _ _ _ _ m1' hm1 e2;exact⟨m',hm',by rw[basesS_make e1' e3,e2']⟩
     obtain⟨m',hm',hb'⟩:=hbs _ _ _ _ _ (n'+1) (by omega) hb;refine⟨m',hm',?_⟩;rw[hq];exact wholeS_make hd' ho' (by omega) hb' hm
theorem Turned.of_ok (T:Turned cs cs' c w) (nm:ByteArray) (q:ProgT) (h:wholeOf cs nm=some (0,q)):wholeOf cs' nm=some (0,q):=by unfold wholeOf at h ⊢;obtain⟨⟨m,e,q'⟩,h1,h2⟩:=Option.map_eq_some_iff.1 h;simp only[Prod.mk.injEq] at h2;obtain⟨rfl,rfl⟩:=h2;obtain⟨m',_,h3⟩:=T.whole_ok _ _ _ _ _ _ h1 [] 0 (fun x hx=>hx) (Zc _);rw[T.len,h3];rfl
theorem initsS_turned {wh wh':ByteArray→Option (Int×ProgT)} (hw:∀ nm q,wh nm=some (0,q)→wh' nm=some (0,q)) {inst inst':ProgT→ByteArray→Int→List ByteArray→Out→Option (Except (Int×Int) Out)} (hi:∀ b p a wy o o',inst b p a wy o=some (.ok o')→inst' b p a wy o=some (.ok o')) (pre:ByteArray) (way:List ByteArray) :
    ∀ (l:List InitT) (met:List ByteArray) (o o':Out),initsS wh inst pre way l met o=some (.ok o')→initsS wh' inst' pre way l met o=some (.ok o'):=by
 intro l;induction l with
 | nil=>intro met o o' h;exact h
 | cons x l ih=>
   intro met o o' h;unfold initsS at h ⊢;by_cases h1:hasS met x.name=true
   · rw[if_pos h1] at h;injection h with h;cases h
   · rw[if_neg h1] at h ⊢;cases e:wh x.comp with
     | none=>rw[e] at h;cases h
     | some r=>
       obtain⟨z,b⟩:=r;rw[e] at h;simp only at h;by_cases hz:z=0
       · subst hz;rw[if_neg (by simp)] at h;rw[hw _ _ e];simp only;rw[if_neg (by simp)];by_cases h2:hasS way x.comp=true
         · rw[if_pos h2] at h;injection h with h;cases h
         · rw[if_neg h2] at h ⊢;cases e2:inst b (dot pre x.name) x.at_ (way++[x.comp]) o with
           | none=>rw[e2] at h;cases h
           | some r=>
             rw[e2] at h;cases r with
             | error z=>injection h with h;cases h
             | ok o1=>rw[hi _ _ _ _ _ _ e2];exact ih _ _ _ h
       · rw[if_pos hz] at h;injection h with h;cases h
theorem instS_turned {wh wh':ByteArray→Option (Int×ProgT)} (hw:∀ nm q,wh nm=some (0,q)→wh' nm=some (0,q)):∀ (k:Nat) (b:ProgT) (pre:ByteArray) (at_:Int) (way:List ByteArray) (o o':Out),instS wh k b pre at_ way o=some (.ok o')→instS wh' k b pre at_ way o=some (.ok o'):=by
 intro k;induction k with
 | zero=>intro b pre at_ way o o' h;cases h
 | succ k ih=>
   intro b pre at_ way o o' h;unfold instS at h ⊢;by_cases h1:96<o.made+1
   · rw[if_pos h1] at h;injection h with h;cases h
   · rw[if_neg h1] at h ⊢;cases e:allS (declS pre (ownS b)) b.decls with
     | error z=>rw[e] at h;injection h with h;cases h
     | ok ds=>
       rw[e] at h;simp only at h ⊢;cases e2:allS (clauseS pre (ownS b)) b.clauses with
       | error z=>rw[e2] at h;injection h with h;cases h
       | ok ls=>
         rw[e2] at h;simp only at h ⊢;by_cases h2:96<o.decls.length+o.clauses.length+ds.length+ls.length
         · rw[if_pos h2] at h;injection h with h;cases h
         · rw[if_neg h2] at h ⊢;exact initsS_turned hw ih pre way _ _ _ _ h
end
theorem twice_set:∀ (cs:List CompT) (met:List ByteArray) (i:Nat) (c:CompT) (w:ProgT) (bs:List ByteArray),cs[i]?=some c→twice cs met=none→twice (cs.set i ⟨c.name,bs,w,c.at_⟩) met=none:=by
 intro cs;induction cs with
 | nil=>intro met i c w bs h;simp at h
 | cons d cs ih=>
   intro met i c w bs h ht;rw[twice] at ht;by_cases hm:hasS met d.name=true
   · rw[if_pos hm] at ht;cases ht
   · rw[if_neg hm] at ht;cases i with
     | zero=>simp only[List.getElem?_cons_zero,Option.some.injEq] at h;subst h;rw[List.set_cons_zero,twice,if_neg hm];exact ht
     | succ i=>rw[List.getElem?_cons_succ] at h;rw[List.set_cons_succ,twice,if_neg hm];exact ih _ _ _ _ _ h ht
theorem twice_apart:∀ (cs:List CompT) (met:List ByteArray),twice cs met=none→(∀ c∈cs,hasS met c.name=false)∧(cs.map (·.name)).Nodup:=by
 intro cs;induction cs with
 | nil=>intro met _;exact⟨fun c hc=>absurd hc List.not_mem_nil,List.nodup_nil⟩
 | cons d cs ih=>
   intro met ht;rw[twice] at ht;by_cases hm:hasS met d.name=true
   · rw[if_pos hm] at ht;cases ht
   · rw[if_neg hm] at ht;obtain⟨h1,h2⟩:=ih _ ht;refine⟨fun c hc=>?_,?_⟩
     · rcases List.mem_cons.1 hc with rfl|hc
       · simpa using hm
       · have:=h1 c hc;rw[hasS_cons,Bool.or_eq_false_iff] at this;exact this.2
     · rw[List.map_cons,List.nodup_cons];refine⟨fun hd=>?_,h2⟩;obtain⟨c,hc,e⟩:=List.mem_map.1 hd;have:=h1 c hc;rw[hasS_cons,e,Zl rfl] at this;cases this
theorem find_there:∀ (cs:List CompT) (i:Nat) (c:CompT),cs[i]?=some c→(cs.map (·.name)).Nodup→findC cs c.name=some c:=by
 intro cs;induction cs with
 | nil=>intro i c h;simp at h
 | cons d cs ih=>
   intro i c h hn;rw[List.map_cons,List.nodup_cons] at hn;unfold findC;rw[List.find?_cons];cases i with
   | zero=>simp only[List.getElem?_cons_zero,Option.some.injEq] at h;subst h;rw[Zl rfl]
   | succ i=>rw[List.getElem?_cons_succ] at h;have hne:d.name≠c.name:=fun e=>hn.1 (e▸List.mem_map.2 ⟨c,List.mem_of_getElem? h,rfl⟩);rw[Zm hne];exact ih i c h hn.2
theorem find_that:∀ (cs:List CompT) (i:Nat) (c:CompT) (w:ProgT) (bs:List ByteArray) (n:ByteArray),cs[i]?=some c→n≠c.name→findC (cs.set i ⟨c.name,bs,w,c.at_⟩) n=findC cs n:=by
 intro cs;induction cs with
 | nil=>intro i c w bs n h;simp at h
 | cons d cs ih=>
   intro i c w bs n h hn;cases i with
   | zero=>simp only[List.getElem?_cons_zero,Option.some.injEq] at h;subst h;rw[List.set_cons_zero];unfold findC;rw[List.find?_cons,List.find?_cons,Zm (fun e=>hn e.symm)]
   | succ i=>
     rw[List.getElem?_cons_succ] at h;rw[List.set_cons_succ];unfold findC;rw[List.find?_cons,List.find?_cons];split
     · rfl
     · exact ih i c w bs n h hn
theorem inner_none:∀ (cs:List CompT),inner cs=none↔∀ c∈cs,c.body.types=[]∧c.body.comps=[]:=by
 intro cs;induction cs with
 | nil=>exact⟨fun _ c hc=>absurd hc List.not_mem_nil,fun _=>rfl⟩
 | cons d cs ih=>
   unfold inner;constructor
   · intro h c hc;cases e1:d.body.types with
     | cons t l=>rw[e1] at h;cases h
     | nil=>
       rw[e1] at h;simp only at h;cases e2:d.body.comps with
       | cons t l=>rw[e2] at h;cases h
       | nil=>
         rw[e2] at h;rcases List.mem_cons.1 hc with rfl|hc
         · exact⟨e1,e2⟩
         · exact ih.1 h c hc
   · intro h;obtain⟨h1,h2⟩:=h d (List.mem_cons_self ..);rw[h1,h2];exact ih.2 (fun c hc=>h c (List.mem_cons_of_mem _ hc))
theorem wholeS_bare {cs:List CompT} (hD:∀ c∈cs,c.body.types=[]∧c.body.comps=[]):∀ (k:Nat) (on:List ByteArray) (nm:ByteArray) (n m:Nat) (q:ProgT),wholeS cs k on nm n=some (m,0,q)→q.types=[]∧q.comps=[]:=by
 intro k;induction k with
 | zero=>intro on nm n m q h;cases h
 | succ k ih=>
   intro on nm n m q h;obtain⟨j,d,out,hj,hd,_,_,hb,_,hq⟩:=wholeS_ok h;injection hj with hj
   subst hj;have hbs:∀ (l:List ByteArray) (n:Nat) (o:ProgT) (m:Nat) (q:ProgT),o.types=[]∧o.comps=[]→basesS (wholeS cs k (nm :: on)) l n o=some (m,0,q)→q.types=[]∧q.comps=[]:=by
    intro l;induction l with
    | nil=>
      intro n o m q ho h;injection h with h
      simp only[Prod.mk.injEq] at h;obtain⟨_,_,rfl⟩:=h;exact ho
    | cons b l ihl=>intro n o m q ho h;obtain⟨m1,q1,e1,_,e2⟩:=basesS_ok h;have:=ih _ _ _ _ _ e1;exact ihl _ _ _ _ ⟨by simp[addP,ho.1,this.1],by simp[addP,ho.2,this.2]⟩ e2
   have h1:=hbs _ _ _ _ _ ⟨rfl,rfl⟩ hb;have h2:=hD d (findC_mem hd).1;rw[hq];exact⟨by simp[addP,h1.1,h2.1],by simp[addP,h1.2,h2.2]⟩
theorem flatS_bases (p a:ProgT) (i:Nat) (c:CompT) (w:ProgT) (hc:p.comps[i]?=some c) (hw:wholeOf p.comps c.name=some (0,w)) (h:flatS p=some (.ok a)):flatS { p with comps:=p.comps.set i ⟨c.name,[],w,c.at_⟩ }=some (.ok a):=by
 unfold flatS at h ⊢;cases hr:rulesS p.comps with
 | some z=>rw[hr] at h;injection h with h;cases h
 | none=>
   rw[hr] at h;have ht:twice p.comps []=none:=by
    unfold rulesS at hr;cases e:twice p.comps [] with
    | none=>rfl
    | some z=>rw[e] at hr;cases hr
   have hin:inner p.comps=none:=(by unfold rulesS at hr;rw[ht] at hr;exact hr);have hbare:=(inner_none _).1 hin;obtain⟨_,hnd⟩:=twice_apart _ _ ht;have hw0:=hw;unfold wholeOf at hw0;obtain⟨⟨m,e,q'⟩,h1,h2⟩:=Option.map_eq_some_iff.1 hw0;simp only[Prod.mk.injEq] at h2;obtain⟨rfl,rfl⟩:=h2;have hil:i<p.comps.length:=(Zq hc).1;have hr':rulesS (p.comps.set i ⟨c.name,[],q',c.at_⟩)=none:=by
    unfold rulesS;rw[twice_set _ _ _ _ _ _ hc ht];refine (inner_none _).2 fun d hd=>?_;rcases List.mem_or_eq_of_mem_set hd with hd|rfl
    · exact hbare d hd
    · exact wholeS_bare hbare _ _ _ _ _ _ h1
   have T:Turned p.comps (p.comps.set i ⟨c.name,[],q',c.at_⟩) c q':=by
    refine⟨find_there _ _ _ hc hnd,?_,fun n hn=>find_that _ _ _ _ _ _ hc hn,⟨m,h1⟩,List.length_set⟩;have hget:(p.comps.set i ⟨c.name,[],q',c.at_⟩)[i]?=some ⟨c.name,[],q',c.at_⟩:=(by rw[List.getElem?_set_self hil]);refine find_there _ i ⟨c.name,[],q',c.at_⟩ hget ?_;have:(p.comps.set i ⟨c.name,[],q',c.at_⟩).map (·.name)=p.comps.map (·.name):=by
     refine List.ext_getElem? fun j=>?_;rw[List.getElem?_map,List.getElem?_map,List.getElem?_set];split
     · next e=>subst e;rw[hc];rfl
     · rfl
    rw[this];exact hnd
   rw[hr'];simp only at h ⊢;obtain⟨r,h3,h4⟩:=Option.map_eq_some_iff.1 h;cases r with
   | error z=>cases h4
   | ok o=>have:=initsS_turned (T.of_ok) (instS_turned (T.of_ok) (p.comps.length+1)) _ _ _ _ _ _ h3;rw[T.len,this,Option.map_some];exact congrArg some h4
end CmpBases
namespace CmpWhole
open Go Go.RowKit RefPure RefKinds RefMem RefSameP CmpPure CmpMem CmpFind CmpAdd CmpDefer RefCells RefExpr YtddmceldglelkaaW.PrintWords
structure WSt (w0 w:World) (vT vD vC vI vL:Value) (p:ProgT) (bp bon bb bw mb:Nat) (on:List ByteArray) (n:Nat):Prop where
 base:Below w0.heap.size w0 w
 pv:PV w0 w0 vT vD vC vI vL p
 box:Blk w bp 28 #[vT,vD,vC,vI,vL]
 onb:Blk w bon 85 #[.map (some mb)]
 bod:Blk w bb 3 #[.int .i64 ((n:Nat):Int)]
 whl:∃ t,Blk w bw t #[.func (.func 29) #[] #[.pointer (some ⟨bp,0,none⟩),.pointer (some ⟨bon,0,none⟩),.pointer (some ⟨bb,0,none⟩),.pointer (some ⟨bw,0,none⟩)]]
 met:CmpMap.Met w mb n on
 old:w0.heap.size≤bb∧w0.heap.size≤mb
 ne:bb≠bp∧bb≠bon∧bb≠bw∧mb≠bp∧mb≠bon∧mb≠bw∧mb≠bb
def WPost (w0 w:World) (vT vD vC vI vL:Value) (p:ProgT) (bp bon bb bw mb:Nat) (on:List ByteArray) (r:Nat×Int×ProgT) (e:Ending) (w':World):Prop:=
 ∃ uT uD uC uI uL,e=.returned (.tuple #[.agg #[uT,uD,uC,uI,uL],.int .i64 r.2.1])∧FRows w0 w' w.heap.size uT uD uC uI uL r.2.2∧WSt w0 w' vT vD vC vI vL p bp bon bb bw mb on r.1∧Kp (fun k=>k=bb∨k=mb) w w'
def PW (w0:World) (vT vD vC vI vL:Value) (p:ProgT) (bp bon bb bw mb k:Nat):Prop:=∀ w on nm n r,WSt w0 w vT vD vC vI vL p bp bon bb bw mb on n→wholeS p.comps k on nm n=some r→n≤96→nm.size≤65536→
 Calls Try.prog 29 #[.string nm,.pointer (some ⟨bp,0,none⟩),.pointer (some ⟨bon,0,none⟩),.pointer (some ⟨bb,0,none⟩),.pointer (some ⟨bw,0,none⟩)] w (WPost w0 w vT vD vC vI vL p bp bon bb bw mb on r)
section
variable {w0 w w1:World} {vT vD vC vI vL:Value} {p:ProgT} {bp bon bb bw mb n:Nat} {on:List ByteArray} {S:Nat→Prop}
theorem WSt.size (h:WSt w0 w vT vD vC vI vL p bp bon bb bw mb on n):w0.heap.size≤w.heap.size:=h.base.size
theorem WSt.ltm (h:WSt w0 w vT vD vC vI vL p bp bon bb bw mb on n):mb<w.heap.size:=by
 obtain⟨D,⟨es,ck,h1,h2⟩,h3⟩:=h.met;rcases Nat.lt_or_ge mb w.heap.size with q|q
 · exact q
 · rw[Array.getElem?_eq_none q] at h1;cases h1
theorem WSt.kp (h:WSt w0 w vT vD vC vI vL p bp bon bb bw mb on n) (hk:Kp S w w1) (hS:∀ k,S k→k<w.heap.size→w0.heap.size≤k∧k≠bp∧k≠bon∧k≠bb∧k≠bw∧k≠mb):WSt w0 w1 vT vD vC vI vL p bp bon bb bw mb on n:=by obtain⟨t,hw⟩:=h.whl;have q1:=h.box.lt;have q2:=h.onb.lt;have q3:=h.bod.lt;have q4:=hw.lt;have q5:=h.ltm;have q6:=h.size;refine⟨h.base.trans (hk.below (fun k hl hs=>by have:=(hS k hs (by omega)).1;omega) h.size),h.pv,hk.blk h.box (fun q=>(hS _ q (by assumption)).2.1 rfl),hk.blk h.onb (fun q=>(hS _ q (by assumption)).2.2.1 rfl),hk.blk h.bod (fun q=>(hS _ q (by assumption)).2.2.2.1 rfl),⟨t,hk.blk hw (fun q=>(hS _ q (by assumption)).2.2.2.2.1 rfl)⟩,hk.met h.met (fun q=>(hS _ q (by assumption)).2.2.2.2.2 rfl),h.old,h.ne⟩
theorem WSt.up (h:WSt w0 w vT vD vC vI vL p bp bon bb bw mb on n) (hb:Below w.heap.size w w1):WSt w0 w1 vT vD vC vI vL p bp bon bb bw mb on n:=h.kp (Kp.of_below (fun _=>False) hb) (fun _ q _=>q.elim)
theorem WSt.count (h:WSt w0 w vT vD vC vI vL p bp bon bb bw mb on n) (m:Nat) (hm:n≤m):WSt w0 (w.setCell ⟨bb,0,none⟩ (.int .i64 ((m:Nat):Int))) vT vD vC vI vL p bp bon bb bw mb on m:=by obtain⟨t,hw⟩:=h.whl;have hk:Kp (fun k=>k=bb) w (w.setCell ⟨bb,0,none⟩ (.int .i64 ((m:Nat):Int))):=(Kp.refl (fun k=>k=bb) _).set (fun _=>rfl) _ _;obtain⟨n1,n2,n3,n4,n5,n6,n7⟩:=h.ne;refine⟨h.base.trans (hk.below (fun k hl hs=>by have:=h.old.1;omega) h.size),h.pv,hk.blk h.box (fun e=>n1 e.symm),hk.blk h.onb (fun e=>n2 e.symm),h.bod.set_ 0 _,⟨t,hk.blk hw (fun e=>n3 e.symm)⟩,?_,h.old,h.ne⟩;obtain⟨D,⟨es,ck,h1,h2,h3,h4⟩,h5⟩:=hk.met h.met n7;exact⟨D,⟨es,ck,h1,h2,Ze h3 hm,h4⟩,h5⟩
theorem WSt.turn (h:WSt w0 w vT vD vC vI vL p bp bon bb bw mb on n) (hg:w.grownBy w1 (some mb)) {on':List ByteArray} (hm:CmpMap.Met w1 mb n on'):WSt w0 w1 vT vD vC vI vL p bp bon bb bw mb on' n:=by obtain⟨t,hw⟩:=h.whl;obtain⟨n1,n2,n3,n4,n5,n6,n7⟩:=h.ne;have hk:Kp (fun k=>k=mb) w w1:=Kp.of_grown hg (fun k e=>by injection e with e;exact e.symm);exact⟨h.base.trans (hk.below (fun k hl hs=>by have:=h.old.2;omega) h.size),h.pv,hk.blk h.box (fun e=>n4 e.symm),hk.blk h.onb (fun e=>n5 e.symm),hk.blk h.bod (fun e=>n7 e.symm),⟨t,hk.blk hw (fun e=>n6 e.symm)⟩,hm,h.old,h.ne⟩
end
theorem five_below {n:Nat} {w W:World} {X:Nat} {a b c d e:Value} (h:Below n w W) (hX:n≤X):Below n w (five W X a b c d e):=
 ((((h.setCell (p:=⟨X,0,none⟩) hX _).setCell (p:=⟨X,1,none⟩) hX _).setCell (p:=⟨X,2,none⟩) hX _).setCell (p:=⟨X,3,none⟩) hX _).setCell (p:=⟨X,4,none⟩) hX _
theorem below_then5 {w w2:World} {o o2:Obj} {a b c d e:Value} (h:Below (w.alloc o).heap.size (w.alloc o) w2):Below w.heap.size w ((five w2 w.heap.size a b c d e).alloc o2):=
 (five_below (below_in (below1 _ _) h) (Zc _)).alloc (five_below (below_in (below1 _ _) h) (Zc _)).size _
theorem wfin {w0 w w1:World} {vT vD vC vI vL:Value} {p:ProgT} {bp bon bb bw mb n:Nat} {on:List ByteArray} (h:WSt w0 w vT vD vC vI vL p bp bon bb bw mb on n) (e:Int) (hb:Below w.heap.size w w1):WPost w0 w vT vD vC vI vL p bp bon bb bw mb on (n,e,prog0) (.returned (.tuple #[.agg #[.slice none 0 0,.slice none 0 0,.slice none 0 0,.slice none 0 0,.slice none 0 0],.int .i64 e])) w1:=⟨_,_,_,_,_,rfl,FRows.nil _ _ _,h.up hb,Kp.of_below _ hb⟩
theorem wfin2 {w0 w w1:World} {vT vD vC vI vL:Value} {p:ProgT} {bp bon bb bw mb n:Nat} {on:List ByteArray} (e:Int) (h:WSt w0 w1 vT vD vC vI vL p bp bon bb bw mb on n) (hk:Kp (fun k=>k=bb∨k=mb) w w1):WPost w0 w vT vD vC vI vL p bp bon bb bw mb on (n,e,prog0) (.returned (.tuple #[.agg #[.slice none 0 0,.slice none 0 0,.slice none 0 0,.slice none 0 0,.slice none 0 0],.int .i64 e])) w1:=⟨_,_,_,_,_,rfl,FRows.nil _ _ _,h,hk⟩
theorem kp_five {S:Nat→Prop} {w W:World} {X:Nat} {a b c d e:Value} (h:Kp S w W) (hX:X<w.heap.size→S X):Kp S w (five W X a b c d e):=((((h.set hX 0 _).set hX 1 _).set hX 2 _).set hX 3 _).set hX 4 _
theorem many_end {w0 w w2:World} {vT vD vC vI vL:Value} {p:ProgT} {bp bon bb bw mb n:Nat} {on:List ByteArray} {o o2:Obj} {a b c d e:Value} (h:WSt w0 w vT vD vC vI vL p bp bon bb bw mb on n) (hb:Below (w.alloc o).heap.size (w.alloc o) w2) :
    WSt w0 ((five (w2.setCell ⟨bb,0,none⟩ (.int .i64 ((n+1:Nat):Int))) w.heap.size a b c d e).alloc o2) vT vD vC vI vL p bp bon bb bw mb on (n+1)∧Kp (fun k=>k=bb∨k=mb) w ((five (w2.setCell ⟨bb,0,none⟩ (.int .i64 ((n+1:Nat):Int))) w.heap.size a b c d e).alloc o2):=by
 have h2:=h.up (below_in (below1 _ _) hb);have h3:=h2.count (n+1) (Nat.le_succ _);obtain⟨t,hw⟩:=h.whl;refine⟨h3.kp (S:=fun k=>k=w.heap.size) ((kp_five (Kp.refl (fun k=>k=w.heap.size) _) (fun _=>rfl)).alloc _) (fun k hk _=>?_),(kp_five ((Kp.of_below _ (below_in (below1 _ _) hb)).set (fun _=>.inl rfl) 0 _) (fun q=>absurd q (Nat.lt_irrefl _))).alloc _⟩;have q1:=h.box.lt;have q2:=h.onb.lt;have q3:=h.bod.lt;have q4:=hw.lt;have q5:=h.ltm;have q6:=h.size;subst hk;exact⟨q6,by omega,by omega,by omega,by omega,by omega⟩
theorem go_state {w0 w2 w3:World} {vT vD vC vI vL:Value} {p:ProgT} {bp bon bb bw mb n:Nat} {on:List ByteArray} {nm:ByteArray} {o:Obj} (h:WSt w0 w2 vT vD vC vI vL p bp bon bb bw mb on n) (hg:(w2.alloc o).grownBy w3 (some mb)) (hm:CmpMap.Met w3 mb n (nm :: on)):WSt w0 w3 vT vD vC vI vL p bp bon bb bw mb (nm :: on) n:=(h.up (below1 _ _)).turn hg hm
theorem door {w0 w W:World} {vT vD vC vI vL:Value} {p:ProgT} {bp bon bb bw mb m:Nat} {on:List ByteArray} {nm:ByteArray} {c1 c2 c3 c4 c5:Value} {q:ProgT} (e:Int) (tmps:Array Value) (h:WSt w0 W vT vD vC vI vL p bp bon bb bw mb (nm :: on) m) (hk:Kp (fun k=>k=bb∨k=mb) w W) (hr:Blk W w.heap.size 28 #[c1,c2,c3,c4,c5]) (hq:FRows w0 W w.heap.size c1 c2 c3 c4 c5 q) (hmb:mb<w.heap.size) (hon:hasS on nm=false) (hs:nm.size≤maxLen)
    (h6:tmps.getD 6 undef=.pointer (some ⟨w.heap.size,0,none⟩)) (h7:tmps.getD 7 undef=.int .i64 e) :
    bodyPostB Try.prog Try.f29 (WPost w0 w vT vD vC vI vL p bp bon bb bw mb on (m,e,q)) .ret { tmps:=tmps,defers:=[{ target:=.builtin .delete #[85,9] 0 #[false,false],args:=#[.map (some mb),.string nm] }] } W:=by
 obtain⟨w9,hrun,hgr,hmet⟩:=h.met.drop hs 0;have hm9:=hmet on (fun u=>by
  rw[hasS_cons];by_cases e:nm=u
  · subst e;rw[hon];simp
  · rw[Zm e];simp)
 have h9:=h.turn hgr hm9;have hk9:Kp (fun k=>k=mb) W w9:=Kp.of_grown hgr (fun k e=>by injection e with e;exact e.symm);refine⟨.tuple #[],w9,⟨_,_,_,_,rfl⟩,?_,_,results_ct rfl tmps w9 w.heap.size 28 #[c1,c2,c3,c4,c5] (0,0) _ h6 (hk9.blk hr (by omega)) Try.underlying28 rfl (by kernel_rfl),?_⟩
 · simp[invoke,builtin,hrun,Result.andThen]
 · rw[h7];exact⟨_,_,_,_,_,rfl,hq.kp hk9 (fun k hk _ e=>by omega),h9,hk.trans hk9 (fun _ _ e=>.inr e)⟩
theorem after {w0 w W w6:World} {vT vD vC vI vL:Value} {p:ProgT} {bp bon bb bw mb m n CB X:Nat} {on on':List ByteArray} {rv cb:Array Value} (h:WSt w0 w vT vD vC vI vL p bp bon bb bw mb on' n) (st:WSt w0 W vT vD vC vI vL p bp bon bb bw mb on m) (kp:Kp (fun k=>k=bb∨k=mb) w W) (rb:Blk W w.heap.size 28 rv) (cbx:Blk W CB 42 cb) (hX:w.heap.size<X∧CB<X) (hk:Kp (fun k=>k=X∨X+1≤k) W w6) :
    WSt w0 w6 vT vD vC vI vL p bp bon bb bw mb on m∧Kp (fun k=>k=bb∨k=mb) w w6∧Blk w6 w.heap.size 28 rv∧Blk w6 CB 42 cb:=by
 obtain⟨t,hw⟩:=h.whl;have q1:=h.box.lt;have q2:=h.onb.lt;have q3:=h.bod.lt;have q4:=hw.lt;have q5:=h.ltm;have q6:=h.size;exact⟨st.kp hk (fun k hk _=>⟨by omega,by omega,by omega,by omega,by omega,by omega⟩),kp.trans hk (fun b hb hs=>by omega),hk.blk rb (fun q=>by omega),hk.blk cbx (fun q=>by omega)⟩
theorem fend {w0 w w6:World} {vT vD vC vI vL:Value} {p:ProgT} {bp bon bb bw mb m n:Nat} {on on':List ByteArray} {r1 r2 r3 r4 r5 c1 c2 c3 c4 c5:Value} (h:WSt w0 w vT vD vC vI vL p bp bon bb bw mb on' n) (st:WSt w0 w6 vT vD vC vI vL p bp bon bb bw mb on m) (kp:Kp (fun k=>k=bb∨k=mb) w w6) (rb:Blk w6 w.heap.size 28 #[r1,r2,r3,r4,r5]) :
    WSt w0 (five w6 w.heap.size c1 c2 c3 c4 c5) vT vD vC vI vL p bp bon bb bw mb on m∧Kp (fun k=>k=bb∨k=mb) w (five w6 w.heap.size c1 c2 c3 c4 c5)∧Blk (five w6 w.heap.size c1 c2 c3 c4 c5) w.heap.size 28 #[c1,c2,c3,c4,c5]:=by
 obtain⟨t,hw⟩:=h.whl;have q1:=h.box.lt;have q2:=h.onb.lt;have q3:=h.bod.lt;have q4:=hw.lt;have q5:=h.ltm;have q6:=h.size;exact⟨st.kp (S:=fun k=>k=w.heap.size) (kp_five (Kp.refl (fun k=>k=w.heap.size) _) (fun _=>rfl)) (fun k hk _=>by subst hk;exact⟨by omega,by omega,by omega,by omega,by omega,by omega⟩),kp_five kp (fun q=>absurd q (Nat.lt_irrefl _)),ZS rb⟩
theorem body_pv {w0 W:World} {X:Nat} {yT yD yC yI yL uT uD uC uI uL:Value} {b out:ProgT} (hb:PV w0 w0 yT yD yC yI yL b) (hbase:Below w0.heap.size w0 W) (hX:w0.heap.size≤X) (hf:FRows w0 W (X+1) uT uD uC uI uL out):∀ W',Kp (fun k=>k=X∨∃ o∈[uT,uD,uC,uI,uL],o.ownBlock=some k) W W'→PV w0 W' yT yD yC yI yL b:=fun W' hk=>
 hb.below (hk.below2 hbase (fun k hl hs=>by
  rcases hs with hs|⟨o,ho,hs⟩
  · omega
  · have:=hf.own o ho k hs;omega) hbase.size)
theorem made_pv {w0 w5:World} {N X:Nat} {yT yD yC yI yL uT uD uC uI uL:Value} {b:ProgT} {o5:Obj} (hb:FRows w0 w5 N yT yD yC yI yL b) (hX:X<N) (ho:∀ o∈[uT,uD,uC,uI,uL],∀ k,o.ownBlock=some k→k<N):∀ W',Kp (fun k=>k=X∨∃ o∈[uT,uD,uC,uI,uL],o.ownBlock=some k) (w5.alloc o5) W'→PV w0 W' yT yD yC yI yL b:=fun W' hk=>
 ((hb.kp ((Kp.refl (fun _=>False) _).alloc o5) (fun _ _ _ e=>e)).kp hk (fun k hN _ hs=>by
   rcases hs with hs|⟨o,h1,hs⟩
   · omega
   · have:=ho o h1 k hs;omega)).view
theorem wholeS_le (cs:List CompT):∀ (k:Nat) (on:List ByteArray) (nm:ByteArray) (n m:Nat) (q:ProgT),wholeS cs k on nm n=some (m,0,q)→n≤96→m≤96∧manyP q≤96:=by
 intro k;induction k with
 | zero=>intro on nm n m q h;cases h
 | succ k ih=>
   intro on nm n m q h hn;obtain⟨j,c,out,hj,hc,_,h96,hb,hm,hq⟩:=CmpBases.wholeS_ok h;injection hj with hj
   subst hj;refine⟨?_,by rw[hq];omega⟩;have hbs:∀ (l:List ByteArray) (n:Nat) (o:ProgT) (m:Nat) (q:ProgT),n≤96→basesS (wholeS cs k (nm :: on)) l n o=some (m,0,q)→m≤96:=by
    intro l;induction l with
    | nil=>intro n o m q hn h;injection h with h;simp only[Prod.mk.injEq] at h;omega
    | cons b l ihl=>intro n o m q hn h;obtain⟨m1,q1,e1,_,e2⟩:=CmpBases.basesS_ok h;exact ihl _ _ _ _ (ih _ _ _ _ _ e1 hn).1 e2
   exact hbs _ _ _ _ _ (by omega) hb
theorem bases_at {f:ByteArray→Nat→Option (Nat×Int×ProgT)} {bs:List ByteArray} {i:Nat} {b:ByteArray} {n:Nat} {out:ProgT} {r:Nat×Int×ProgT} (hb:bs[i]?=some b) (h:basesS f (bs.drop i) n out=some r):∃ m z q,f b n=some (m,z,q)∧(z≠0→r=(m,z,prog0))∧(z=0→96<manyP (addP out q)→r=(m,3,prog0))∧(z=0→¬96<manyP (addP out q)→basesS f (bs.drop (i+1)) m (addP out q)=some r):=by
 obtain⟨hi,rfl⟩:=Zq hb;rw[List.drop_eq_getElem_cons hi] at h;unfold basesS at h;cases e:f bs[i] n with
 | none=>rw[e] at h;cases h
 | some t=>
   obtain⟨m,z,q⟩:=t;rw[e] at h;simp only at h;refine⟨m,z,q,rfl,fun hz=>?_,fun hz hm=>?_,fun hz hm=>?_⟩
   · rw[if_pos hz] at h;injection h with h;exact h.symm
   · rw[if_neg (by simpa using hz),if_pos hm] at h;injection h with h;exact h.symm
   · rw[if_neg (by simpa using hz),if_neg hm] at h;exact h
theorem add_made {w0 w5:World} {N X:Nat} {s1 s2 s3 s4 s5 uT uD uC uI uL:Value} {q out:ProgT} (hob:Blk w5 X 28 #[uT,uD,uC,uI,uL]) (hr:FRows w0 w5 (X+1) uT uD uC uI uL out) (hF:FRows w0 w5 N s1 s2 s3 s4 s5 q) (hX:X<N) (ho:∀ o∈[uT,uD,uC,uI,uL],∀ k,o.ownBlock=some k→k<N) (h1:manyP out≤96) (h2:manyP q≤96) (z:Int) (hz:(if 96<manyP (addP out q) then (3:Int) else 0)=z) :
    Calls Try.prog 31 #[.pointer (some ⟨X,0,none⟩),.agg #[s1,s2,s3,s4,s5]] (w5.alloc (.cells #[s1,s2,s3,s4,s5] 28)) fun e w'=>e=.returned (.int .i64 z)∧∃ tT tD tC tI tL,Blk w' X 28 #[tT,tD,tC,tI,tL]∧FRows w0 w' (X+1) tT tD tC tI tL (addP out q)∧Kp (fun k=>k=X∨X+1≤k) (w5.alloc (.cells #[s1,s2,s3,s4,s5] 28)) w':=by
 subst hz;exact add_any w0 (w5.alloc (.cells #[s1,s2,s3,s4,s5] 28)) (X+1) X uT uD uC uI uL out q s1 s2 s3 s4 s5 (hob.alloc _) (Zh _) (hob.alloc _).lt (hr.kp ((Kp.refl (fun _=>False) _).alloc _) (fun _ _ _ e=>e)) (made_pv hF hX ho) h1 (by omega)
theorem go_kp {w w2 w3:World} {bb mb:Nat} {o o2 o3:Obj} {v:Value} (hb:Below (w.alloc o).heap.size (w.alloc o) w2) (hg:((w2.setCell ⟨bb,0,none⟩ v).alloc o2).grownBy w3 (some mb)) (hbb:bb<w.heap.size):Kp (fun k=>k=bb∨k=mb) w (w3.alloc o3):=
 ((((Kp.of_below _ (below_in (below1 _ _) hb)).set (fun _=>.inl rfl) 0 v).alloc o2).then_grown hg (fun b e _=>by injection e with e;exact .inr e.symm)).alloc o3
theorem size_set (w:World) (p:Addr) (v:Value):(w.setCell p v).heap.size=w.heap.size:=by simp[World.setCell]
theorem text_cells {w:World} {A:Option Addr} {n c:Nat} {l:List ByteArray} (h:Vw Kd.string w (.slice A n c) l) (i:Nat) (x:ByteArray) (hx:l[i]?=some x) :
    ∃ ad,A=some ad∧w.cell? (ad.add i)=some (.string x):=by
 obtain⟨ad,cs,hA,hK,hcell0⟩:=h.at_ i x hx;have hcell:∀ j u,cs[j]?=some u→w.cell? (ad.add (i*1+j))=some u:=hcell0;have hK2:cs=[.string x]:=hK;subst hK2;exact⟨ad,hA,by simpa using hcell 0 _ rfl⟩
structure LRel (w0 w:World) (vT vD vC vI vL:Value) (p:ProgT) (bp bon bb bw mb k:Nat) (on:List ByteArray) (bs:List ByteArray) (r:Nat×Int×ProgT) (CB X:Nat) (cb:Array Value) (i g:Nat) (wr:World) (n:Nat) (out:ProgT) (uT uD uC uI uL:Value):Prop where
 le:i≤bs.length∧bs.length - i<g
 n96:n≤96
 o96:manyP out≤96
 run:basesS (wholeS p.comps k on) (bs.drop i) n out=some r
 st:WSt w0 wr vT vD vC vI vL p bp bon bb bw mb on n
 ob:Blk wr X 28 #[uT,uD,uC,uI,uL]
 rows:FRows w0 wr (X+1) uT uD uC uI uL out
 rb:Blk wr w.heap.size 28 #[.slice none 0 0,.slice none 0 0,.slice none 0 0,.slice none 0 0,.slice none 0 0]
 cbx:Blk wr CB 42 cb
 kp:Kp (fun k=>k=bb∨k=mb) w wr
theorem ret0 {P:Program} {fn:Func} {R:Ending→World→Prop} {tmps:Array Value} {w:World} {v:Value} (h:(results fn tmps).run P w=.ok v w) (hR:R (.returned v) w):bodyPostB P fn R .ret { tmps:=tmps,defers:=[] } w:=⟨v,h,hR⟩
theorem whole_none (w0 w:World) (vT vD vC vI vL:Value) (p:ProgT) (bp bon bb bw mb:Nat) (on:List ByteArray) (nm:ByteArray) (n:Nat) (h:WSt w0 w vT vD vC vI vL p bp bon bb bw mb on n) (hf:findC p.comps nm=none) :
    Calls Try.prog 29 #[.string nm,.pointer (some ⟨bp,0,none⟩),.pointer (some ⟨bon,0,none⟩),.pointer (some ⟨bb,0,none⟩),.pointer (some ⟨bw,0,none⟩)] w (WPost w0 w vT vD vC vI vL p bp bon bb bw mb on (n,6,prog0)):=by
 have H:=Za h;obtain⟨q0,q1,q2,q3,q4⟩:=Zt h.box;have hltp:=h.box.lt;have HF:=Za (fun W (hb:Below w.heap.size w W)=>find_any w0 W p nm vT vD vC vI vL (h.pv.below (h.base.trans (hb.mono h.base.size))));rw[hf] at HF;clear h hf;refine calls_of_wp_builtins Try.func29 rfl ?_;simp only[Try.ntmps29,List.size_toArray,Zj,Zk,Nat.reduceAdd,Nat.reduceSub,Array.replicate_succ,Array.replicate_zero,List.push_toArray,List.append_toArray,List.nil_append,List.cons_append];go_wp2_with (first|(go_at_call 30;(with_reducible refine (HF.out _ (below1 _ _)).mono ?_);rintro e w2 ⟨hb,rfl⟩;have hbx:=(Blk.new w _ _).below hb (Blk.new w _ _).lt;have HBX:=Za hbx;have HB:=Za hb;have qc:=Zt hbx;have qf:=Zz hbx;have hlt2:=hbx.lt;clear hb hbx))
 refine ret0 (results_ct rfl _ _ w.heap.size 28 #[.slice none 0 0,.slice none 0 0,.slice none 0 0,.slice none 0 0,.slice none 0 0] (0,0) _ rfl ?_ Try.underlying28 rfl (by kernel_rfl)) ?_
 · exact (ZS HBX.out).alloc _
 · exact wfin H.out 6 (below_then5 HB.out)
theorem whole_ring (w0 w:World) (vT vD vC vI vL:Value) (p:ProgT) (bp bon bb bw mb:Nat) (on:List ByteArray) (nm:ByteArray) (n:Nat) (h:WSt w0 w vT vD vC vI vL p bp bon bb bw mb on n) (x:CompT) (hf:findC p.comps nm=some x) (hs:nm.size≤65536) (hon:hasS on nm=true) :
    Calls Try.prog 29 #[.string nm,.pointer (some ⟨bp,0,none⟩),.pointer (some ⟨bon,0,none⟩),.pointer (some ⟨bb,0,none⟩),.pointer (some ⟨bw,0,none⟩)] w (WPost w0 w vT vD vC vI vL p bp bon bb bw mb on (n,12,prog0)):=by
 have H:=Za h;obtain⟨q0,q1,q2,q3,q4⟩:=Zt h.box;have hltp:=h.box.lt;have HF:=Za (fun W (hb:Below w.heap.size w W)=>find_any w0 W p nm vT vD vC vI vL (h.pv.below (h.base.trans (hb.mono h.base.size))));rw[hf] at HF;have HS:Hid (nm.size≤maxLen):=Za (Ze hs (by decide));have HON:=Za hon;clear h hf hs hon;refine calls_of_wp_builtins Try.func29 rfl ?_;simp only[Try.ntmps29,List.size_toArray,Zj,Zk,Nat.reduceAdd,Nat.reduceSub,Array.replicate_succ,Array.replicate_zero,List.push_toArray,List.append_toArray,List.nil_append,List.cons_append];go_wp2_with (first|(go_at_call 30;(with_reducible refine (HF.out _ (below1 _ _)).mono ?_);rintro e w2 ⟨hb,vB,yT,yD,yC,yI,yL,rfl,hcv⟩;obtain⟨a1,b1,e1⟩:=hcv.bases.slice;subst e1;obtain⟨a2,b2,a3,b3,a4,b4,a5,b5,a6,b6,rfl,rfl,rfl,rfl,rfl⟩:=hcv.body.values;have HCV:=Za hcv;have hbx:=(Blk.new w _ _).below hb (Blk.new w _ _).lt;have HBX:=Za hbx;have HB:=Za hb;have qc:=Zt hbx;have qf:=Zz hbx;have hlt2:=hbx.lt;have hst:=H.out.up (below_in (below1 _ _) hb);have HST:=Za hst;have qon:=hst.onb.cell 0;have lon:=hst.onb.lt;have qbb:=hst.bod.cell 0;have fbb:=hst.bod.frozen 0;have lbb:=hst.bod.lt;have lmb:=hst.ltm;simp only[List.getElem?_toArray,List.getElem?_cons_zero] at qon qbb;have hlk:=(fun (o:Obj)=>(hst.met.alloc o).get HS.out);rw[HON.out] at hlk;obtain⟨z1,z2,z3,z4,z5,z6,z7⟩:=hst.ne;clear hb hbx hcv hst))
 refine ret0 (results_ct rfl _ _ w.heap.size 28 #[.slice none 0 0,.slice none 0 0,.slice none 0 0,.slice none 0 0,.slice none 0 0] (0,0) _ rfl ?_ Try.underlying28 rfl (by kernel_rfl)) ?_
 · exact (ZS HBX.out).alloc _
 · exact wfin H.out 12 (below_then5 HB.out)
theorem whole_many (w0 w:World) (vT vD vC vI vL:Value) (p:ProgT) (bp bon bb bw mb:Nat) (on:List ByteArray) (nm:ByteArray) (n:Nat) (h:WSt w0 w vT vD vC vI vL p bp bon bb bw mb on n) (x:CompT) (hf:findC p.comps nm=some x) (hs:nm.size≤65536) (hon:hasS on nm=false) (hn:96<n+1) (hn2:n≤96) :
    Calls Try.prog 29 #[.string nm,.pointer (some ⟨bp,0,none⟩),.pointer (some ⟨bon,0,none⟩),.pointer (some ⟨bb,0,none⟩),.pointer (some ⟨bw,0,none⟩)] w (WPost w0 w vT vD vC vI vL p bp bon bb bw mb on (n+1,3,prog0)):=by
 have H:=Za h;obtain⟨q0,q1,q2,q3,q4⟩:=Zt h.box;have hltp:=h.box.lt;have HF:=Za (fun W (hb:Below w.heap.size w W)=>find_any w0 W p nm vT vD vC vI vL (h.pv.below (h.base.trans (hb.mono h.base.size))));rw[hf] at HF;have HS:Hid (nm.size≤maxLen):=Za (Ze hs (by decide));have HON:=Za hon;have hwr0:wrap64 ((n:Int)+1)=((n+1:Nat):Int):=wrap_up n (by omega);have HME:=Za (fun (w2:World) (o o2:Obj) (a b c d e:Value) (hb:Below (w.alloc o).heap.size (w.alloc o) w2)=>many_end (o2:=o2) (a:=a) (b:=b) (c:=c) (d:=d) (e:=e) h hb);obtain⟨n1,hn1⟩:∃ n1,n+1=n1:=⟨_,rfl⟩;rw[hn1] at hwr0 HME ⊢;have hwr:=hwr0;have hgt:decide ((96:Int)<((n1:Nat):Int))=true:=Zl (by omega);have lb0:=h.bod.lt;have lb1:¬bb=w.heap.size:=(by omega);have lb2:¬w.heap.size=bb:=(by omega);clear h hf hs hon hn1 hwr0 hn hn2;refine calls_of_wp_builtins Try.func29 rfl ?_;simp only[Try.ntmps29,List.size_toArray,Zj,Zk,Nat.reduceAdd,Nat.reduceSub,Array.replicate_succ,Array.replicate_zero,List.push_toArray,List.append_toArray,List.nil_append,List.cons_append];go_wp2_with (first|(go_at_call 30;(with_reducible refine (HF.out _ (below1 _ _)).mono ?_);rintro e w2 ⟨hb,vB,yT,yD,yC,yI,yL,rfl,hcv⟩;obtain⟨a1,b1,e1⟩:=hcv.bases.slice;subst e1;obtain⟨a2,b2,a3,b3,a4,b4,a5,b5,a6,b6,rfl,rfl,rfl,rfl,rfl⟩:=hcv.body.values;have HCV:=Za hcv;have hbx:=(Blk.new w _ _).below hb (Blk.new w _ _).lt;have HBX:=Za hbx;have HB:=Za hb;have qc:=Zt hbx;have qf:=Zz hbx;have hlt2:=hbx.lt;have hst:=H.out.up (below_in (below1 _ _) hb);have HST:=Za hst;have qon:=hst.onb.cell 0;have lon:=hst.onb.lt;have qbb:=hst.bod.cell 0;have fbb:=hst.bod.frozen 0;have lbb:=hst.bod.lt;have lmb:=hst.ltm;simp only[List.getElem?_toArray,List.getElem?_cons_zero] at qon qbb;have hlk:=(fun (o:Obj)=>(hst.met.alloc o).get HS.out);rw[HON.out] at hlk;obtain⟨z1,z2,z3,z4,z5,z6,z7⟩:=hst.ne;clear hb hbx hcv hst))
 refine ret0 (results_ct rfl _ _ w.heap.size 28 #[.slice none 0 0,.slice none 0 0,.slice none 0 0,.slice none 0 0,.slice none 0 0] (0,0) _ rfl ?_ Try.underlying28 rfl (by kernel_rfl)) ?_
 · exact (ZS (HBX.out.far (p:=⟨bb,0,none⟩) (Zg H.out.bod.lt) _)).alloc _
 · exact wfin2 3 (HME.out _ _ _ _ _ _ _ _ HB.out).1 (HME.out _ _ _ _ _ _ _ _ HB.out).2
theorem whole_go (w0 w:World) (vT vD vC vI vL:Value) (p:ProgT) (bp bon bb bw mb:Nat) (on:List ByteArray) (nm:ByteArray) (n:Nat) (h:WSt w0 w vT vD vC vI vL p bp bon bb bw mb on n) (x:CompT) (hf:findC p.comps nm=some x) (hs:nm.size≤65536) (k:Nat) (ih:PW w0 vT vD vC vI vL p bp bon bb bw mb k) (hon:hasS on nm=false) (hn:n+1≤96) (hsx:CmpSize.OkC 65536 1048576 x) (r:Nat×Int×ProgT) (hb:basesS (wholeS p.comps k (nm :: on)) x.bases (n+1) prog0=some r) (res:Nat×Int×ProgT) (hres:res=if r.2.1≠0 then (r.1,r.2.1,prog0) else if 96<manyP (addP r.2.2 x.body) then (r.1,3,prog0) else (r.1,0,addP r.2.2 x.body)) :
    Calls Try.prog 29 #[.string nm,.pointer (some ⟨bp,0,none⟩),.pointer (some ⟨bon,0,none⟩),.pointer (some ⟨bb,0,none⟩),.pointer (some ⟨bw,0,none⟩)] w (WPost w0 w vT vD vC vI vL p bp bon bb bw mb on res):=by
 have H:=Za h;obtain⟨q0,q1,q2,q3,q4⟩:=Zt h.box;have hltp:=h.box.lt;have HF:=Za (fun W (hb:Below w.heap.size w W)=>find_any w0 W p nm vT vD vC vI vL (h.pv.below (h.base.trans (hb.mono h.base.size))));rw[hf] at HF;have HS:Hid (nm.size≤maxLen):=Za (Ze hs (by decide));have HON:=Za hon;have hwr0:wrap64 ((n:Int)+1)=((n+1:Nat):Int):=wrap_up n (by omega);have HCO:=Za (fun (W:World) (h:WSt w0 W vT vD vC vI vL p bp bon bb bw mb on n)=>h.count (n+1) (Nat.le_succ _));have HBS:=Za hb;have HIH:=Za ih;have HSX:=Za hsx;have HRES:=Za hres;have HON2:=Za hon;obtain⟨n1,hn1⟩:∃ n1,n+1=n1:=⟨_,rfl⟩;rw[hn1] at hwr0 HCO HBS;have hwr:=hwr0;have hgt:decide ((96:Int)<((n1:Nat):Int))=false:=Zm (by omega);have HNE:=Za hn1;have HN1:Hid (n<maxLen):=Za (Nat.lt_of_le_of_lt (show n≤96 by omega) (by decide));have HN96:Hid (n1≤96):=Za (by omega);have lb0:=h.bod.lt;have lb1:¬bb=w.heap.size:=(by omega);have lb2:¬w.heap.size=bb:=(by omega);have lm0:=h.ltm;have lm2:¬w.heap.size=mb:=(by omega);clear h hf hs hon hn1 hwr0 hn hb ih hsx hres;refine calls_of_wp_builtins Try.func29 rfl ?_;simp only[Try.ntmps29,List.size_toArray,Zj,Zk,Nat.reduceAdd,Nat.reduceSub,Array.replicate_succ,Array.replicate_zero,List.push_toArray,List.append_toArray,List.nil_append,List.cons_append];go_wp2_with (first|(go_at_call 30;(with_reducible refine (HF.out _ (below1 _ _)).mono ?_);rintro e w2 ⟨hb,vB,yT,yD,yC,yI,yL,rfl,hcv⟩;obtain⟨a1,b1,e1⟩:=hcv.bases.slice;subst e1;obtain⟨a2,b2,a3,b3,a4,b4,a5,b5,a6,b6,rfl,rfl,rfl,rfl,rfl⟩:=hcv.body.values;have HCV:=Za hcv;have hbx:=(Blk.new w _ _).below hb (Blk.new w _ _).lt;have HBX:=Za hbx;have HB:=Za hb;have qc:=Zt hbx;have qf:=Zz hbx;have hlt2:=hbx.lt;have hst:=H.out.up (below_in (below1 _ _) hb);have HST:=Za hst;have qon:=hst.onb.cell 0;have lon:=hst.onb.lt;have qbb:=hst.bod.cell 0;have fbb:=hst.bod.frozen 0;have lbb:=hst.bod.lt;have lmb:=hst.ltm;simp only[List.getElem?_toArray,List.getElem?_cons_zero] at qon qbb;have hlk:=(fun (o:Obj)=>(hst.met.alloc o).get HS.out);rw[HON.out] at hlk;obtain⟨z1,z2,z3,z4,z5,z6,z7⟩:=hst.ne;have hst2:=HCO.out _ HST.out;have HST2:=Za hst2;obtain⟨w3,hput,hmet3,hgr3⟩:=((((Kp.refl (fun k=>k=bb) w2).set (fun _=>rfl) 0 (.int .i64 ((n1:Nat):Int))).met HST.out.met z7).alloc (.cells #[.string x.name,.slice a1 x.bases.length b1,.slice a2 x.body.types.length b2,.slice a3 x.body.decls.length b3,.slice a4 x.body.comps.length b4,.slice a5 x.body.inits.length b5,.slice a6 x.body.clauses.length b6,.int .i64 x.at_] 42)).put HN1.out HS.out;have HM3:=Za hmet3;have HG3:=Za hgr3;have HW3:=Za (go_state HST2.out HG3.out (HNE.out▸HM3.out));have HRB:=Za (((HBX.out.far (p:=⟨bb,0,none⟩) lb2 (.int .i64 ((n1:Nat):Int))).alloc _).grown HG3.out (fun e=>by injection e with e;exact lm2 e));have HCB:=Za ((Blk.new _ _ _).grown HG3.out (fun e=>by injection e with e;have:=HST2.out.ltm;omega));rw[size_set] at HCB;have HRB1:=HRB.out.lt;have HCB1:=HCB.out.lt;have qcb:=s8_cells HCB.out;have qon3:=HW3.out.onb.cell 0;have lon3:=HW3.out.onb.lt;simp only[List.getElem?_toArray,List.getElem?_cons_zero] at qon3;clear hb hbx hcv hst hst2 hmet3 hgr3 qc qf))
 have HL0:Hid (LRel w0 w vT vD vC vI vL p bp bon bb bw mb k (nm :: on) x.bases r w2.heap.size w3.heap.size #[.string x.name,.slice a1 x.bases.length b1,.slice a2 x.body.types.length b2,.slice a3 x.body.decls.length b3,.slice a4 x.body.comps.length b4,.slice a5 x.body.inits.length b5,.slice a6 x.body.clauses.length b6,.int .i64 x.at_] 0 (x.bases.length+1) (w3.alloc (.cells #[.slice none 0 0,.slice none 0 0,.slice none 0 0,.slice none 0 0,.slice none 0 0] 28)) n1 prog0 (.slice none 0 0) (.slice none 0 0) (.slice none 0 0) (.slice none 0 0) (.slice none 0 0)):=Za ⟨⟨Nat.zero_le _,by omega⟩,HN96.out,Nat.zero_le _,HBS.out,HW3.out.up (below1 _ _),Blk.new _ _ _,FRows.nil _ _ _,HRB.out.alloc _,HCB.out.alloc _,go_kp HB.out HG3.out lb0⟩;have HX3:Hid (w.heap.size<w3.heap.size∧w2.heap.size<w3.heap.size):=Za ⟨HRB1,HCB1⟩;have HX4:Hid (w.heap.size<w2.heap.size):=Za hlt2;obtain⟨CB,hCB⟩:∃ CB,w2.heap.size=CB:=⟨_,rfl⟩;obtain⟨X,hX⟩:∃ X,w3.heap.size=X:=⟨_,rfl⟩;rw[hCB,hX] at HL0 HX3;rw[hCB] at HX4;have HW:=Za H.out;obtain⟨L,hL⟩:∃ L,x.bases.length=L:=⟨_,rfl⟩;have HLL:=Za hL;simp only[hCB,hX,hL];rw[hL] at HL0;have HAC:=Za HCV.out;rw[hL] at HAC;clear hCB hX hL HST2 HM3 HG3 HRB HCB HRB1 HCB1 qcb qon3 lon3 HBX HB hlt2 HST lon lbb lmb qon qbb fbb hlk z1 z2 z3 z4 z5 z6 z7 hput HW3 HCO hwr hgt lb0 lb1 lb2 lm0 lm2 HCV;go_loopg [43] (L+1) (fun g v43 wr=>∃ i:Nat,v43=.int .i64 (i:Int)∧∃ n out uT uD uC uI uL,Hid (LRel w0 w vT vD vC vI vL p bp bon bb bw mb k (nm :: on) x.bases r CB X #[.string x.name,.slice a1 L b1,.slice a2 x.body.types.length b2,.slice a3 x.body.decls.length b3,.slice a4 x.body.comps.length b4,.slice a5 x.body.inits.length b5,.slice a6 x.body.clauses.length b6,.int .i64 x.at_] i g wr n out uT uD uC uI uL))
 case atStart=>exact⟨0,rfl,_,_,_,_,_,_,_,HL0⟩
 case round=>
  obtain⟨i,rfl,m,out,uT,uD,uC,uI,uL,HI⟩:=hrel;by_cases hi:i<L
  · have hib:decide (i<L)=true:=Zl hi;obtain⟨b,hx⟩:∃ t,x.bases[i]?=some t:=⟨x.bases[i]'(by rw[HLL.out];exact hi),by simp⟩;obtain⟨ad,rfl,hcell⟩:=text_cells (HAC.out.bases.below (HI.out.st.base)) i b hx;have hbs:=HSX.out.bases b (List.mem_of_getElem? hx);obtain⟨m1,z,q,hc1,hc2,hc3,hc4⟩:=bases_at hx HI.out.run;have HC:=Za (HIH.out wr (nm :: on) b m _ HI.out.st hc1 HI.out.n96 hbs);have HC1:=Za hc1;have HC2:=Za hc2;have HC3:=Za hc3;have HC4:=Za hc4;obtain⟨tw,hwb⟩:=HI.out.st.whl;have qw:=hwb.cell 0;simp only[List.getElem?_toArray,List.getElem?_cons_zero] at qw;have hi0:(0:Int)≤(i:Int):=(by omega);have hi1:(i:Int)<(L:Int):=(by omega);clear hx hbs hc1 hc2 hc3 hc4 hwb;by_cases hz:z=0;rotate_left
    · have hz1:(z==0)=false:=(by simpa using hz);have hz2:(z != 0)=true:=(by simpa using hz);have hres:res=(m1,z,prog0):=(by rw[HRES.out,HC2.out hz];simp[hz]);subst hres;clear hz;go_wp2_with (first|(go_at_call 29;(with_reducible refine (HC.out).mono ?_);rintro e w5 ⟨yT,yD,yC,yI,yL,rfl,hF5,hst5,hK5⟩;obtain⟨g1,f1,g2,f2,g3,f3,g4,f4,g5,f5,rfl,rfl,rfl,rfl,rfl⟩:=hF5.view.values;have HF5:=Za hF5;have HST5:=Za hst5;have HK5:=Za hK5;have HR5:=Za (hK5.blk HI.out.rb (by have:=HW.out.bod.lt;have:=HW.out.ltm;omega));have qc:=Zt HR5.out;have qf:=Zz HR5.out;have lr5:=HR5.out.lt;have HP5:=Za (HI.out.kp.trans hK5 (fun _ _ h=>h));clear hF5 hst5 hK5))
      have HE:=fend (c1:=.slice none 0 0) (c2:=.slice none 0 0) (c3:=.slice none 0 0) (c4:=.slice none 0 0) (c5:=.slice none 0 0) HW.out HST5.out HP5.out HR5.out;exact door z _ (HE.1.up (below1 _ _)) (HE.2.1.alloc _) (HE.2.2.alloc _) (FRows.nil _ _ _) HW.out.ltm HON.out HS.out rfl rfl
    · subst hz;have HQ96:=Za (wholeS_le p.comps k _ _ _ _ _ HC1.out HI.out.n96).2;by_cases hmany:96<manyP (addP out q)
      · have HMANY:=Za hmany;have hres:res=(m1,3,prog0):=(by rw[HRES.out,HC3.out rfl hmany];simp);subst hres;clear hmany
        go_wp2_with (first
         | (go_at_call 29;(with_reducible refine (HC.out).mono ?_);rintro e w5 ⟨yT,yD,yC,yI,yL,rfl,hF5,hst5,hK5⟩;obtain⟨g1,f1,g2,f2,g3,f3,g4,f4,g5,f5,rfl,rfl,rfl,rfl,rfl⟩:=hF5.view.values;have HF5:=Za hF5;have HST5:=Za hst5;have HK5:=Za hK5;have HR5:=Za (hK5.blk HI.out.rb (by have:=HW.out.bod.lt;have:=HW.out.ltm;omega));have qc:=Zt HR5.out;have qf:=Zz HR5.out;have lr5:=HR5.out.lt;have HP5:=Za (HI.out.kp.trans hK5 (fun _ _ h=>h));have HCB5:=Za (hK5.blk HI.out.cbx (by have:=HW.out.bod.lt;have:=HW.out.ltm;have:=HX4.out;omega));have hob5:=hK5.blk HI.out.ob (by have:=HW.out.bod.lt;have:=HW.out.ltm;have:=HX3.out;omega);have lx5:=hob5.lt;have hr5:=HI.out.rows.kp hK5 (fun k hk _ e=>by have:=HW.out.bod.lt;have:=HW.out.ltm;have:=HX3.out;omega);have HADD:=Za (add_made hob5 hr5 hF5 HI.out.ob.lt (fun o ho k e=>Nat.lt_of_not_le (fun hk=>HI.out.rows.newer k hk o ho e)) HI.out.o96 HQ96.out _ (if_pos HMANY.out));clear hob5 hr5;clear hF5 hst5 hK5)
         | (go_at_call 31;(with_reducible refine (HADD.out).mono ?_);rintro e w6 ⟨rfl,tT,tD,tC,tI,tL,hB6,hF6,hK6⟩;have HA6:=Za (after HW.out (HST5.out.up (below1 _ _)) (HP5.out.alloc _) (HR5.out.alloc _) (HCB5.out.alloc _) HX3.out hK6);have HB6:=Za hB6;have HF6:=Za hF6;have qc:=Zt HA6.out.2.2.1;have qf:=Zz HA6.out.2.2.1;have lr6:=HA6.out.2.2.1.lt;clear hB6 hF6 hK6))
        have HE:=fend (c1:=.slice none 0 0) (c2:=.slice none 0 0) (c3:=.slice none 0 0) (c4:=.slice none 0 0) (c5:=.slice none 0 0) HW.out HA6.out.1 HA6.out.2.1 HA6.out.2.2.1;exact door 3 _ HE.1 HE.2.1 HE.2.2 (FRows.nil _ _ _) HW.out.ltm HON.out HS.out rfl rfl
      · have HMANY:=Za hmany;clear hmany
        go_wp2_with (first
         | (go_at_call 29;(with_reducible refine (HC.out).mono ?_);rintro e w5 ⟨yT,yD,yC,yI,yL,rfl,hF5,hst5,hK5⟩;obtain⟨g1,f1,g2,f2,g3,f3,g4,f4,g5,f5,rfl,rfl,rfl,rfl,rfl⟩:=hF5.view.values;have HF5:=Za hF5;have HST5:=Za hst5;have HK5:=Za hK5;have HR5:=Za (hK5.blk HI.out.rb (by have:=HW.out.bod.lt;have:=HW.out.ltm;omega));have qc:=Zt HR5.out;have qf:=Zz HR5.out;have lr5:=HR5.out.lt;have HP5:=Za (HI.out.kp.trans hK5 (fun _ _ h=>h));have HCB5:=Za (hK5.blk HI.out.cbx (by have:=HW.out.bod.lt;have:=HW.out.ltm;have:=HX4.out;omega));have hob5:=hK5.blk HI.out.ob (by have:=HW.out.bod.lt;have:=HW.out.ltm;have:=HX3.out;omega);have lx5:=hob5.lt;have hr5:=HI.out.rows.kp hK5 (fun k hk _ e=>by have:=HW.out.bod.lt;have:=HW.out.ltm;have:=HX3.out;omega);have HADD:=Za (add_made hob5 hr5 hF5 HI.out.ob.lt (fun o ho k e=>Nat.lt_of_not_le (fun hk=>HI.out.rows.newer k hk o ho e)) HI.out.o96 HQ96.out _ (if_neg HMANY.out));clear hob5 hr5;clear hF5 hst5 hK5)
         | (go_at_call 31;(with_reducible refine (HADD.out).mono ?_);rintro e w6 ⟨rfl,tT,tD,tC,tI,tL,hB6,hF6,hK6⟩;have HA6:=Za (after HW.out (HST5.out.up (below1 _ _)) (HP5.out.alloc _) (HR5.out.alloc _) (HCB5.out.alloc _) HX3.out hK6);have HB6:=Za hB6;have HF6:=Za hF6;have qc:=Zt HA6.out.2.2.1;have qf:=Zz HA6.out.2.2.1;have lr6:=HA6.out.2.2.1.lt;clear hB6 hF6 hK6))
        go_roundg (L - i)
        all_goals first
         | (have:=HI.out.le.2;have:=HLL.out;omega)
         | exact⟨i+1,by rw[wrap_up i (by have:=HSX.out.len;have:=HLL.out;omega)],m1,addP out q,_,_,_,_,_,Za ⟨⟨by have:=HLL.out;omega,by have:=HLL.out;omega⟩,(wholeS_le p.comps k _ _ _ _ _ HC1.out HI.out.n96).1,by have:=HMANY.out;omega,HC4.out (by simp) HMANY.out,HA6.out.1,HB6.out,HF6.out,HA6.out.2.2.1,HA6.out.2.2.2,HA6.out.2.1⟩⟩
  · have hib:decide (i<L)=false:=Zm hi;have hiL:i=L:=(by have:=HI.out.le.1;have:=HLL.out;omega);have hr:r=(m,0,out):=by
     have:=HI.out.run;rw[List.drop_eq_nil_of_le (by have:=HLL.out;omega)] at this;injection this with this
     exact this.symm
    have HRR:=Za hr;obtain⟨cc0,cc1,cc2,cc3,cc4,cc5,cc6,cc7⟩:=s8_cells HI.out.cbx;have lcb:=HI.out.cbx.lt;have HADD:=Za (add_any w0 wr (X+1) X uT uD uC uI uL out x.body _ _ _ _ _ HI.out.ob (Zh _) HI.out.ob.lt HI.out.rows (body_pv HAC.out.body HI.out.st.base (by have:=HW.out.size;have:=HX3.out.1;omega) HI.out.rows) HI.out.o96 HSX.out.body.many);have HAF:=Za (fun w6 (hk:Kp (fun k=>k=X∨X+1≤k) wr w6)=>after HW.out HI.out.st HI.out.kp HI.out.rb HI.out.cbx HX3.out hk);clear hr hi hiL;by_cases hmany:96<manyP (addP out x.body)
    · have hres:res=(m,3,prog0):=(by rw[HRES.out,HRR.out];simp[hmany]);rw[if_pos hmany] at HADD;subst hres;clear hmany;go_wp2_with (first|(go_at_call 31;(with_reducible refine (HADD.out).mono ?_);rintro e w6 ⟨rfl,tT,tD,tC,tI,tL,hB6,hF6,hK6⟩;have HA6:=Za (HAF.out w6 hK6);have qc:=Zt HA6.out.2.2.1;have qf:=Zz HA6.out.2.2.1;clear hB6 hF6 hK6))
      have HE:=fend (c1:=.slice none 0 0) (c2:=.slice none 0 0) (c3:=.slice none 0 0) (c4:=.slice none 0 0) (c5:=.slice none 0 0) HW.out HA6.out.1 HA6.out.2.1 HA6.out.2.2.1;exact door 3 _ HE.1 HE.2.1 HE.2.2 (FRows.nil _ _ _) HW.out.ltm HON.out HS.out rfl rfl
    · have hres:res=(m,0,addP out x.body):=(by rw[HRES.out,HRR.out];simp[hmany]);rw[if_neg hmany] at HADD;subst hres;clear hmany;go_wp2_with (first|(go_at_call 31;(with_reducible refine (HADD.out).mono ?_);rintro e w6 ⟨rfl,tT,tD,tC,tI,tL,hB6,hF6,hK6⟩;have HA6:=Za (HAF.out w6 hK6);obtain⟨g1,f1,g2,f2,g3,f3,g4,f4,g5,f5,rfl,rfl,rfl,rfl,rfl⟩:=hF6.view.values;have HF6:=Za hF6;have qc:=Zt HA6.out.2.2.1;have qf:=Zz HA6.out.2.2.1;have qo:=Zt hB6;clear hB6 hF6 hK6))
      have HE:=fend (c1:=.slice g1 (addP out x.body).types.length f1) (c2:=.slice g2 (addP out x.body).decls.length f2) (c3:=.slice g3 (addP out x.body).comps.length f3) (c4:=.slice g4 (addP out x.body).inits.length f4) (c5:=.slice g5 (addP out x.body).clauses.length f5) HW.out HA6.out.1 HA6.out.2.1 HA6.out.2.2.1;have hR:FRows w0 (five w6 w.heap.size (.slice g1 (addP out x.body).types.length f1) (.slice g2 (addP out x.body).decls.length f2) (.slice g3 (addP out x.body).comps.length f3) (.slice g4 (addP out x.body).inits.length f4) (.slice g5 (addP out x.body).clauses.length f5)) w.heap.size _ _ _ _ _ (addP out x.body):=(HF6.out.kp (kp_five (Kp.refl (fun k=>k=w.heap.size) _) (fun _=>rfl)) (fun k hk _ e=>by have:=HX3.out.1;omega)).lower (by have:=HX3.out.1;omega);exact door 0 _ HE.1 HE.2.1 HE.2.2 hR HW.out.ltm HON.out HS.out rfl rfl
end CmpWhole
end Go.Proofs.Ytddmceldglelkaa
