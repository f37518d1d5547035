/- A claim's texts, in the order of what they need: CmpWholeOf, CmpInst, CmpContains, CmpInits. -/
import Derived.Test.YtddmceldglelkaaBCompBases28
import Derived.Test.YtddmceldglelkaaBCompBases30
import Derived.Test.YtddmceldglelkaaBCompBases31
import Derived.Deep.RegionHeldLaw
set_option maxRecDepth 100000
set_option maxHeartbeats 8000000
set_option linter.unusedVariables false
set_option linter.unusedSimpArgs false
set_option linter.unusedSectionVars false
namespace Go.Proofs.Ytddmceldglelkaa
namespace CmpWholeOf
open Go Go.RowKit RefPure RefKinds RefMem RefSameP CmpPure CmpMem CmpFind CmpAdd CmpDefer CmpWhole RefCells RefExpr YtddmceldglelkaaW.PrintWords
theorem pw_all (w0:World) (vT vD vC vI vL:Value) (p:ProgT) (bp bon bb bw mb:Nat) (hp:CmpSize.Small p):∀ k,PW w0 vT vD vC vI vL p bp bon bb bw mb k:=by
 intro k;induction k with
 | zero=>intro w on nm n r h hr;cases hr
 | succ k ih=>
   intro w on nm n r h hr hn hs;unfold wholeS at hr;cases hf:findC p.comps nm with
   | none=>
     rw[hf] at hr;injection hr with hr
     subst hr;exact whole_none w0 w vT vD vC vI vL p bp bon bb bw mb on nm n h hf
   | some x=>
     rw[hf] at hr;simp only at hr;cases hon:hasS on nm with
     | true=>
       rw[if_pos hon] at hr;injection hr with hr
       subst hr;exact whole_ring w0 w vT vD vC vI vL p bp bon bb bw mb on nm n h x hf hs hon
     | false=>
       rw[if_neg (by rw[hon];simp)] at hr;by_cases hm:96<n+1
       · rw[if_pos hm] at hr;injection hr with hr
         subst hr;exact whole_many w0 w vT vD vC vI vL p bp bon bb bw mb on nm n h x hf hs hon hm hn
       · rw[if_neg hm] at hr;cases hb:basesS (wholeS p.comps k (nm :: on)) x.bases (n+1) prog0 with
         | none=>rw[hb] at hr;cases hr
         | some t=>
           rw[hb] at hr;refine whole_go w0 w vT vD vC vI vL p bp bon bb bw mb on nm n h x hf hs k ih hon (by omega) (hp.comps x (findC_mem hf).1) t hb r ?_;obtain⟨m,e,out⟩:=t;simp only at hr ⊢;split at hr
           · next he=>rw[if_pos he];injection hr with hr;exact hr.symm
           · next he=>
             rw[if_neg he];split at hr
             · next h9=>rw[if_pos h9];injection hr with hr;exact hr.symm
             · next h9=>rw[if_neg h9];injection hr with hr;exact hr.symm
theorem wst_new {w0 w:World} {vT vD vC vI vL:Value} {p:ProgT} (hv:PV w0 w0 vT vD vC vI vL p) (hb:Below w0.heap.size w0 w) (tf:TypeId):WSt w0 ((((((w.alloc (.cells #[vT,vD,vC,vI,vL] 28)).alloc (.cells #[.slice none 0 0,.slice none 0 0,.slice none 0 0,.slice none 0 0,.slice none 0 0] 28)).alloc (.map #[] 0)).alloc (.cells #[.map (some (w.heap.size+1+1))] 85)).alloc (.cells #[.int .i64 0] 3)).alloc (.cells #[.func (.func 29) #[] #[.pointer (some ⟨w.heap.size,0,none⟩),.pointer (some ⟨w.heap.size+1+1+1,0,none⟩),.pointer (some ⟨w.heap.size+1+1+1+1,0,none⟩),.pointer (some ⟨w.heap.size+1+1+1+1+1,0,none⟩)]] tf)) vT vD vC vI vL p w.heap.size (w.heap.size+1+1+1) (w.heap.size+1+1+1+1) (w.heap.size+1+1+1+1+1) (w.heap.size+1+1) [] 0:=by
 have h4:∀ o o1 o2 o3:Obj,((((w.alloc o).alloc o1).alloc o2).alloc o3).heap.size=w.heap.size+1+1+1+1:=fun o o1 o2 o3=>(by rw[size1,size1,size1,size1]);have hs:=hb.size;refine⟨hb.trans ((((below4 w _ _ _ _).alloc (below4 w _ _ _ _).size _).alloc ((below4 w _ _ _ _).alloc (below4 w _ _ _ _).size _).size _).mono hs),hv,((((((Blk.new w _ _).alloc _).alloc _).alloc _).alloc _).alloc _),((blk_new3 w _ _ _ _ _).alloc _).alloc _,?_,⟨tf,?_⟩,?_,⟨by omega,by omega⟩,⟨by omega,by omega,by omega,by omega,by omega,by omega,by omega⟩⟩
 · have:=blk_new3 (w.alloc (.cells #[vT,vD,vC,vI,vL] 28)) (.cells #[.slice none 0 0,.slice none 0 0,.slice none 0 0,.slice none 0 0,.slice none 0 0] 28) (.map #[] 0) (.cells #[.map (some (w.heap.size+1+1))] 85) 3 #[.int .i64 0];rw[size1] at this;exact this.alloc _
 · have:=blk_new3 ((w.alloc (.cells #[vT,vD,vC,vI,vL] 28)).alloc (.cells #[.slice none 0 0,.slice none 0 0,.slice none 0 0,.slice none 0 0,.slice none 0 0] 28)) (.map #[] 0) (.cells #[.map (some (w.heap.size+1+1))] 85) (.cells #[.int .i64 0] 3) tf #[.func (.func 29) #[] #[.pointer (some ⟨w.heap.size,0,none⟩),.pointer (some ⟨w.heap.size+1+1+1,0,none⟩),.pointer (some ⟨w.heap.size+1+1+1+1,0,none⟩),.pointer (some ⟨w.heap.size+1+1+1+1+1,0,none⟩)]];rw[size1,size1] at this;exact this
 · have:=((((CmpMap.Met.made ((w.alloc (.cells #[vT,vD,vC,vI,vL] 28)).alloc (.cells #[.slice none 0 0,.slice none 0 0,.slice none 0 0,.slice none 0 0,.slice none 0 0] 28))).alloc (.cells #[.map (some (w.heap.size+1+1))] 85)).alloc (.cells #[.int .i64 0] 3)).alloc (.cells #[.func (.func 29) #[] #[.pointer (some ⟨w.heap.size,0,none⟩),.pointer (some ⟨w.heap.size+1+1+1,0,none⟩),.pointer (some ⟨w.heap.size+1+1+1+1,0,none⟩),.pointer (some ⟨w.heap.size+1+1+1+1+1,0,none⟩)]] tf));rw[size1,size1] at this;exact this
def WholePost (w0 w:World) (z:Int) (q:ProgT) (e:Ending) (w':World):Prop:=
 ∃ uT uD uC uI uL,e=.returned (.tuple #[.agg #[uT,uD,uC,uI,uL],.int .i64 z])∧FRows w0 w' w.heap.size uT uD uC uI uL q∧Below w.heap.size w w'
theorem whole_end {w0 w w2:World} {o1 o2 o3 o4 o5 o6:Obj} {z:Int} {q:ProgT} {c1 c2 c3 c4 c5:Value} (hF:FRows w0 w2 ((((((w.alloc o1).alloc o2).alloc o3).alloc o4).alloc o5).alloc o6).heap.size c1 c2 c3 c4 c5 q) (hK:Kp (fun k=>k=w.heap.size+1+1+1+1∨k=w.heap.size+1+1) ((((((w.alloc o1).alloc o2).alloc o3).alloc o4).alloc o5).alloc o6) w2) :
    WholePost w0 w z q (.returned (.tuple #[.agg #[c1,c2,c3,c4,c5],.int .i64 z])) (five w2 (w.heap.size+1) c1 c2 c3 c4 c5):=by
 have hs:((((((w.alloc o1).alloc o2).alloc o3).alloc o4).alloc o5).alloc o6).heap.size=w.heap.size+1+1+1+1+1+1:=(by rw[size1,size1,size1,size1,size1,size1]);have h6:Below w.heap.size w ((((((w.alloc o1).alloc o2).alloc o3).alloc o4).alloc o5).alloc o6):=((below4 w _ _ _ _).alloc (below4 w _ _ _ _).size _).alloc ((below4 w _ _ _ _).alloc (below4 w _ _ _ _).size _).size _;have hb:Below w.heap.size w w2:=hK.below2 h6 (fun k hl hs=>by omega) h6.size;rw[hs] at hF;exact⟨_,_,_,_,_,rfl,(hF.kp (kp_five (Kp.refl (fun k=>k=w.heap.size+1) _) (fun _=>rfl)) (fun k hk _ e=>by omega)).lower (by omega),five_below hb (Nat.le_succ _)⟩
theorem whole_any (w0 w:World) (vT vD vC vI vL:Value) (p:ProgT) (hp:CmpSize.Small p) (hv:PV w0 w0 vT vD vC vI vL p) (hb:Below w0.heap.size w0 w) (nm:ByteArray) (hs:nm.size≤65536) (z:Int) (q:ProgT) (hw:wholeOf p.comps nm=some (z,q)) :
    Calls Try.prog 11 #[.agg #[vT,vD,vC,vI,vL],.string nm] w (WholePost w0 w z q):=by
 unfold wholeOf at hw;obtain⟨⟨m0,z0,q0⟩,hr,hrz⟩:=Option.map_eq_some_iff.1 hw;simp only[Prod.mk.injEq] at hrz;obtain⟨rfl,rfl⟩:=hrz;have HR:=Za hr;have HV:=Za hv;have HB:=Za hb;have HS:=Za hs;have HP:=Za hp;clear hw hr hv hb hs hp;have HC:=Za (fun tf=>pw_all w0 vT vD vC vI vL p w.heap.size (w.heap.size+1+1+1) (w.heap.size+1+1+1+1) (w.heap.size+1+1+1+1+1) (w.heap.size+1+1) HP.out (p.comps.length+1) _ [] nm 0 (m0,z0,q0) (wst_new HV.out HB.out tf) HR.out (by omega) HS.out);have hmf:∀ (fn:Fn) (first cap:Array Value) (w:World),(Instr.makeFunc fn first cap).run Try.prog w=.ok (.func fn first cap) w:=fun _ _ _ _=>rfl;have hmk:∀ W:World,(Instr.makeMap 85 none).run Try.prog W=.ok (.map (some W.heap.size)) (W.alloc (.map #[] 0)):=fun W=>(by kernel_rfl);have hst:∀ (a:Addr) (c:Array Value) (W:World),(store a (.func (.func 29) #[] c)).run Try.prog W=stored Try.prog W a (.func (.func 29) #[] c) .plain:=fun a c W=>run_store Try.prog W a _ _ rfl;go_enter Try.func11,Try.ntmps11;go_wp2_with (first|(go_at_call 29;(with_reducible refine (HC.out _).mono ?_);rintro e w2 ⟨uT,uD,uC,uI,uL,rfl,hF,hst,hK⟩;obtain⟨g1,f1,g2,f2,g3,f3,g4,f4,g5,f5,rfl,rfl,rfl,rfl,rfl⟩:=hF.view.values;have HF:=Za hF;have HK:=Za hK;have hrb:=Za (hK.blk ((((((blk_new1 w _ _ _).alloc _).alloc _).alloc _).alloc _)) (by omega));have qc:=Zt hrb.out;have qf:=Zz hrb.out;clear hF hst hK))
 refine bodyPost_ret (results_ct rfl _ _ (w.heap.size+1) 28 #[.slice g1 q0.types.length f1,.slice g2 q0.decls.length f2,.slice g3 q0.comps.length f3,.slice g4 q0.inits.length f4,.slice g5 q0.clauses.length f5] (0,0) _ rfl ?_ Try.underlying28 rfl (by kernel_rfl)) rfl ?_
 · exact ZS hrb.out
 · exact whole_end HF.out HK.out
end CmpWholeOf
namespace CmpInst
open Go Go.RowKit RefPure RefKinds RefMem RefSameP CmpPure CmpMem CmpKinds CmpFind CmpName CmpClause CmpRule CmpWholeOf RefExpr RefCells YtddmceldglelkaaW.PrintWords
def Ch (g:Nat) (oD oL:Value) (k:Nat):Prop:=k=g∨oD.ownBlock=some k∨oL.ownBlock=some k
structure FlS (w0 w:World) (vT vD vC vI vL:Value) (p:ProgT) (g n0:Nat) (oT oD oL:Value) (tl:List TDecl) (o:Out):Prop where
 bs:Below w0.heap.size w0 w
 pv:PV w0 w0 vT vD vC vI vL p
 fl:Fl w g vT vD vC vI vL oT oD (.slice none 0 0) (.slice none 0 0) oL 0 0 ((o.made:Nat):Int)
 t:(Kd.fixed kTDecl w0).R 73 w n0 (fun b=>Off n0 [oD,oL] b∧b≠g) oT tl
 d:(Kd.fixed kDecl w0).R 46 w n0 (fun b=>Off n0 [oT,oL] b∧b≠g) oD o.decls
 l:(mL w0).R 54 w n0 (fun b=>Off n0 [oT,oD] b∧b≠g) oL o.clauses
 lo:w0.heap.size≤n0∧n0≤w.heap.size∧w0.heap.size≤g
 len:o.decls.length≤1048576∧o.clauses.length≤1048576∧o.made≤96
section
variable {w0 w w1:World} {vT vD vC vI vL:Value} {p:ProgT} {g n0:Nat} {oT oD oL:Value} {tl:List TDecl} {o:Out} {S S':Nat→Prop}
theorem FlS.size (h:FlS w0 w vT vD vC vI vL p g n0 oT oD oL tl o):w0.heap.size≤w.heap.size:=h.bs.size
theorem FlS.kp (h:FlS w0 w vT vD vC vI vL p g n0 oT oD oL tl o) (hk:Kp S w w1) (hS:∀ k,k<w.heap.size→S k→False):FlS w0 w1 vT vD vC vI vL p g n0 oT oD oL tl o:=
 ⟨h.bs.trans (hk.below (fun k hl hs=>hS k (Nat.lt_of_lt_of_le hl h.size) hs) h.size),h.pv,hk.blk h.fl (fun q=>hS _ (Blk.lt h.fl) q),hk.R h.t (fun k _ hl q=>hS k hl q),hk.R h.d (fun k _ hl q=>hS k hl q),hk.R h.l (fun k _ hl q=>hS k hl q),⟨h.lo.1,Ze h.lo.2.1 hk.size,h.lo.2.2⟩,h.len⟩
theorem FlS.up (h:FlS w0 w vT vD vC vI vL p g n0 oT oD oL tl o) (hb:Below w.heap.size w w1):FlS w0 w1 vT vD vC vI vL p g n0 oT oD oL tl o:=h.kp (Kp.of_below (fun _=>False) hb) (fun _ _ q=>q)
theorem FlS.old (h:FlS w0 w vT vD vC vI vL p g n0 oT oD oL tl o) (k:Nat) (hk:Ch g oD oL k):w0.heap.size≤k∧k<w.heap.size:=by
 rcases hk with rfl|hk|hk
 · exact⟨h.lo.2.2,Blk.lt h.fl⟩
 · exact⟨Ze h.lo.1 (Kd.R_base h.d k hk),Kd.R_lt h.d k hk⟩
 · exact⟨Ze h.lo.1 (Kd.R_base h.l k hk),Kd.R_lt h.l k hk⟩
end
theorem Kp.Rm {α:Type} {d:Kd α} {e base:Nat} {ok S:Nat→Prop} {w w1:World} {v:Value} {xs:List α} (h:Kp S w w1) (hR:d.R e w base ok v xs) (hS:∀ k,S k→∃ es c,w.heap[k]?=some (.map es c)):d.R e w1 base ok v xs:=
 Kd.R_mono (Kd.R_move (Kd.R_bound hR) (fun k hk=>h.block k hk.2.2.1 (fun q=>by obtain⟨es,c,h1⟩:=hS k q;obtain⟨_,_,cells,h2⟩:=hk.2.2.2;rw[h1] at h2;cases h2))) (fun k hk=>hk.1)
theorem FlS.kpm {w0 w w1:World} {vT vD vC vI vL:Value} {p:ProgT} {g n0:Nat} {oT oD oL:Value} {tl:List TDecl} {o:Out} {S:Nat→Prop} (h:FlS w0 w vT vD vC vI vL p g n0 oT oD oL tl o) (hk:Kp S w w1) (hS:∀ k,S k→∃ es c,w.heap[k]?=some (.map es c)) (hlo:∀ k,S k→w0.heap.size≤k):FlS w0 w1 vT vD vC vI vL p g n0 oT oD oL tl o:=
 ⟨h.bs.trans (hk.below (fun k hl hs=>by have:=hlo k hs;omega) h.size),h.pv,hk.blk h.fl (fun q=>by obtain⟨es,c,h1⟩:=hS _ q;have h2:=h.fl;unfold Fl Blk at h2;rw[h1] at h2;cases h2),Kp.Rm hk h.t hS,Kp.Rm hk h.d hS,Kp.Rm hk h.l hS,⟨h.lo.1,Ze h.lo.2.1 hk.size,h.lo.2.2⟩,h.len⟩
theorem met_map {w:World} {b m:Nat} {l:List ByteArray} (h:CmpMap.Met w b m l):∃ es c,w.heap[b]?=some (.map es c):=by obtain⟨D,⟨es,ck,h1,_⟩,_⟩:=h;exact⟨es,ck,h1⟩
theorem FailPost.all {S S':Nat→Prop} {g:Nat} {why at_:Int} {w w1 w2:World} {e:Ending} (h:FailPost S g why at_ w1 e w2) (hk:Kp S' w w1) (hS:∀ b,b<w.heap.size→S b→S' b):FailPost S' g why at_ w e w2:=⟨h.1,hk.trans h.2.1 hS,h.2.2⟩
def Body (w0 w:World) (S:Nat→Prop) (b1 b2 b3 b4 b5:Value) (b:ProgT):Prop:=∀ W,Kp S w W→PV w0 W b1 b2 b3 b4 b5 b
def Way (w:World) (S:Nat→Prop) (v:Value) (l:List ByteArray):Prop:=(∀ W,Kp S w W→Vw Kd.string W v l)∧∀ A n c ad,v=.slice A n c→A=some ad→ad.spot=none
theorem Body.step {w0 w w1:World} {S S1:Nat→Prop} {b1 b2 b3 b4 b5:Value} {b:ProgT} (h:Body w0 w S b1 b2 b3 b4 b5 b) (hk:Kp S w w1) (hS:∀ k,k<w.heap.size→S1 k→S k):Body w0 w1 S1 b1 b2 b3 b4 b5 b:=fun W hW=>h W (hk.trans hW hS)
theorem Way.step {w w1:World} {S S1:Nat→Prop} {v:Value} {l:List ByteArray} (h:Way w S v l) (hk:Kp S w w1) (hS:∀ k,k<w.heap.size→S1 k→S k):Way w1 S1 v l:=⟨fun W hW=>h.1 W (hk.trans hW hS),h.2⟩
def IPost (w0 w:World) (vT vD vC vI vL:Value) (p:ProgT) (g n0:Nat) (oT oD oL:Value) (tl:List TDecl) (r:Except (Int×Int) Out) (e:Ending) (w':World):Prop:=
 match r with
 | .error z=>FailPost (Ch g oD oL) g z.1 z.2 w e w'
 | .ok o'=>e=.returned (.bool true)∧∃ oD' oL',FlS w0 w' vT vD vC vI vL p g n0 oT oD' oL' tl o'∧Kp (Ch g oD oL) w w'∧∀ k,Ch g oD' oL' k→Ch g oD oL k∨w.heap.size≤k
def PInst (w0:World) (vT vD vC vI vL:Value) (p:ProgT) (g n0:Nat) (oT:Value) (tl:List TDecl) (k:Nat):Prop:=
 ∀ w oD oL b b1 b2 b3 b4 b5 pre at_ way vW o r,FlS w0 w vT vD vC vI vL p g n0 oT oD oL tl o→Body w0 w (Ch g oD oL) b1 b2 b3 b4 b5 b→Way w (Ch g oD oL) vW way→CmpSize.OkP 65536 1048576 b→pre.size≤65537*way.length→(∀ x∈way,x.size≤65536)→k+way.length≤1048580→
  instS (wholeOf p.comps) k b pre at_ way o=some r→
  Calls Try.prog 57 #[.pointer (some ⟨g,0,none⟩),.agg #[b1,b2,b3,b4,b5],.string pre,.int .i64 at_,vW] w (IPost w0 w vT vD vC vI vL p g n0 oT oD oL tl r)
def PInits (w0:World) (vT vD vC vI vL:Value) (p:ProgT) (g n0:Nat) (oT:Value) (tl:List TDecl) (k:Nat):Prop:=
 ∀ w oD oL b b1 b2 b3 b4 b5 pre way vW o r,FlS w0 w vT vD vC vI vL p g n0 oT oD oL tl o→Body w0 w (Ch g oD oL) b1 b2 b3 b4 b5 b→Way w (Ch g oD oL) vW way→CmpSize.OkP 65536 1048576 b→pre.size≤65537*way.length→(∀ x∈way,x.size≤65536)→k+way.length+1≤1048580→
  initsS (wholeOf p.comps) (instS (wholeOf p.comps) k) pre way b.inits (names b.decls).reverse o=some r→
  Calls Try.prog 22 #[.pointer (some ⟨g,0,none⟩),.agg #[b1,b2,b3,b4,b5],.string pre,vW] w (IPost w0 w vT vD vC vI vL p g n0 oT oD oL tl r)
theorem basesS_small (f:ByteArray→Nat→Option (Nat×Int×ProgT)) (hf:∀ b n m q,f b n=some (m,0,q)→CmpSize.OkP 65536 1048576 q):∀ (l:List ByteArray) (n:Nat) (out:ProgT) (m:Nat) (q:ProgT),CmpSize.OkP 65536 1048576 out→basesS f l n out=some (m,0,q)→CmpSize.OkP 65536 1048576 q:=by
 intro l;induction l with
 | nil=>intro n out m q ho h;injection h with h;simp only[Prod.mk.injEq] at h;obtain⟨_,_,rfl⟩:=h;exact ho
 | cons b l ih=>intro n out m q ho h;obtain⟨m1,q1,e1,hm,e2⟩:=CmpBases.basesS_ok h;refine ih _ _ _ _ (addP_small ho (hf _ _ _ _ e1) (by omega)) e2
 where addP_small {a b:ProgT} (ha:CmpSize.OkP 65536 1048576 a) (hb:CmpSize.OkP 65536 1048576 b) (hm:manyP (addP a b)≤1048576):CmpSize.OkP 65536 1048576 (addP a b):=
 ⟨hm,fun d hd=>(List.mem_append.1 hd).elim (ha.decls d) (hb.decls d),fun d hd=>(List.mem_append.1 hd).elim (ha.inits d) (hb.inits d),fun d hd=>(List.mem_append.1 hd).elim (ha.clauses d) (hb.clauses d)⟩
theorem wholeS_small {cs:List CompT} (hs:∀ c∈cs,CmpSize.OkC 65536 1048576 c):∀ (k:Nat) (on:List ByteArray) (nm:ByteArray) (n m:Nat) (q:ProgT),wholeS cs k on nm n=some (m,0,q)→CmpSize.OkP 65536 1048576 q:=by
 intro k;induction k with
 | zero=>intro on nm n m q h;cases h
 | succ k ih=>
   intro on nm n m q h;obtain⟨j,c,out,hj,hc,_,_,hb,hm,hq⟩:=CmpBases.wholeS_ok h;injection hj with hj
   subst hj;rw[hq];exact basesS_small.addP_small (basesS_small _ (fun b n m q=>ih _ b n m q) _ _ _ _ _ CmpSize.Small.zero.body hb) (hs c (findC_mem hc).1).body (by omega)
theorem wholeOf_small {p:ProgT} (hp:CmpSize.Small p) {nm:ByteArray} {q:ProgT} (h:wholeOf p.comps nm=some (0,q)):CmpSize.OkP 65536 1048576 q∧manyP q≤96:=by unfold wholeOf at h;obtain⟨⟨m,e,q'⟩,h1,h2⟩:=Option.map_eq_some_iff.1 h;simp only[Prod.mk.injEq] at h2;obtain⟨rfl,rfl⟩:=h2;exact⟨wholeS_small hp.comps _ _ _ _ _ _ h1,by have:=CmpBases.wholeS_many h1;omega⟩
end CmpInst
namespace CmpContains
open Go Go.RowKit RefPure RefKinds RefMem RefSameP CmpPure CmpMem CmpKinds CmpFind CmpInst YtddmceldglelkaaW.PrintWords
theorem containsS_has (l:List ByteArray) (s:ByteArray):Lib.containsS l s=hasS l s:=by rw[Bool.eq_iff_iff,Lib.containsS_iff,hasS_iff]
theorem contains_any (w:World) (A:Option Addr) (c:Nat) (l:List ByteArray) (s:ByteArray) (hv:Vw Kd.string w (.slice A l.length c) l) (hA:∀ ad,A=some ad→ad.spot=none) (hl:l.length≤1048580):Calls Try.prog 56 #[.slice A l.length c,.string s] w fun e w'=>e=.returned (.bool (hasS l s))∧w'=w:=by
 rcases l with _|⟨x,l⟩
 · exact Try.slices_Contains_string_empty A c s w
 · obtain⟨ad,cs,rfl,_,_⟩:=hv.at_ 0 x rfl;obtain⟨b,off,sp⟩:=ad;have hsp:=hA _ rfl;simp only at hsp;subst hsp;have:=Try.slices_Contains_string b off (x :: l).length c (x :: l) s w (Zc _) (Ze hl (by decide)) (fun j hj=>by
    obtain⟨ad,cs,hA2,hK,hcell⟩:=hv.at_ j _ (List.getElem?_eq_getElem hj);injection hA2 with hA2
    subst hA2;have hK2:cs=[.string (x :: l)[j]]:=hK;subst hK2;have h0:w.cell? (Addr.add ⟨b,off,none⟩ (j*1+0))=_:=hcell 0 _ rfl;rw[Addr.add_lit,Nat.mul_one,Nat.add_zero] at h0;rw[h0,List.getD_eq_getElem?_getD,List.getElem?_eq_getElem hj];rfl)
   rw[List.take_length,containsS_has] at this;exact this
theorem inits_at {whole:ByteArray→Option (Int×ProgT)} {inst:ProgT→ByteArray→Int→List ByteArray→Out→Option (Except (Int×Int) Out)} {pre:ByteArray} {way:List ByteArray} {l:List InitT} {i:Nat} {met:List ByteArray} {o:Out} {r:Except (Int×Int) Out} {x:InitT} (hx:l[i]?=some x) (h:initsS whole inst pre way (l.drop i) met o=some r) :
    (hasS met x.name=true→r=.error (11,x.at_))∧(hasS met x.name=false→∃ z q,whole x.comp=some (z,q)∧(z≠0→r=.error (z,x.at_))∧(z=0→hasS way x.comp=true→r=.error (12,x.at_))∧(z=0→hasS way x.comp=false→∃ t,inst q (dot pre x.name) x.at_ (way++[x.comp]) o=some t∧(∀ e,t=.error e→r=.error e)∧(∀ o',t=.ok o'→initsS whole inst pre way (l.drop (i+1)) (x.name :: met) o'=some r))):=by
 obtain⟨hi,rfl⟩:=Zq hx;rw[List.drop_eq_getElem_cons hi] at h;unfold initsS at h;refine⟨fun hm=>?_,fun hm=>?_⟩
 · rw[if_pos hm] at h;injection h with h
   exact h.symm
 · rw[if_neg (by rw[hm];simp)] at h;cases hw:whole l[i].comp with
   | none=>rw[hw] at h;cases h
   | some t=>
     obtain⟨z,q⟩:=t;rw[hw] at h;simp only at h;refine⟨z,q,rfl,fun hz=>?_,fun hz hc=>?_,fun hz hc=>?_⟩
     · rw[if_pos hz] at h;injection h with h;exact h.symm
     · rw[if_neg (by simpa using hz),if_pos hc] at h;injection h with h;exact h.symm
     · rw[if_neg (by simpa using hz),if_neg (by rw[hc];simp)] at h;cases hi2:inst q (dot pre l[i].name) l[i].at_ (way++[l[i].comp]) o with
       | none=>rw[hi2] at h;cases h
       | some t=>
         rw[hi2] at h;refine⟨t,rfl,fun e he=>?_,fun o' he=>?_⟩
         · subst he;injection h with h;exact h.symm
         · subst he;exact h
end CmpContains
namespace CmpInits
open Go Go.RowKit CmpContains RefPure RefKinds RefMem RefSameP CmpPure CmpMem CmpKinds CmpFind CmpName CmpClause CmpRule CmpWholeOf CmpInst RefExpr RefCells YtddmceldglelkaaW.PrintWords
theorem decl_cells {w0 w:World} {A:Option Addr} {n c:Nat} {l:List DeclT} (h:Vw (Kd.fixed kDecl w0) w (.slice A n c) l) (i:Nat) (x:DeclT) (hx:l[i]?=some x) :
    ∃ ad,A=some ad∧∃ A2 c2,w.cell? (ad.add (i*5))=some (.string x.name)∧w.cell? ⟨(ad.add (i*5)).block,(ad.add (i*5)).off+1,none⟩=some (.slice A2 x.cols.length c2)∧w.cell? ⟨(ad.add (i*5)).block,(ad.add (i*5)).off+2,none⟩=some (.bool x.input)∧w.cell? ⟨(ad.add (i*5)).block,(ad.add (i*5)).off+3,none⟩=some (.bool x.output)∧w.cell? ⟨(ad.add (i*5)).block,(ad.add (i*5)).off+4,none⟩=some (.int .i64 x.at_):=by
 obtain⟨ad,cs,hA,hK,hcell0⟩:=h.at_ i x hx;have hcell:∀ j u,cs[j]?=some u→w.cell? (ad.add (i*5+j))=some u:=hcell0;obtain⟨A2,c2,rfl,_⟩:=kDecl_open hK;refine⟨ad,hA,A2,c2,hcell 0 _ rfl,?_,?_,?_,?_⟩
 · rw[← ZN _ _ 1 (by omega)];exact hcell 1 _ rfl
 · rw[← ZN _ _ 2 (by omega)];exact hcell 2 _ rfl
 · rw[← ZN _ _ 3 (by omega)];exact hcell 3 _ rfl
 · rw[← ZN _ _ 4 (by omega)];exact hcell 4 _ rfl
theorem init_cells {w0 w:World} {A:Option Addr} {n c:Nat} {l:List InitT} (h:Vw (Kd.fixed kInit w0) w (.slice A n c) l) (i:Nat) (x:InitT) (hx:l[i]?=some x) :
    ∃ ad,A=some ad∧w.cell? (ad.add (i*3))=some (.string x.name)∧w.cell? ⟨(ad.add (i*3)).block,(ad.add (i*3)).off+1,none⟩=some (.string x.comp)∧w.cell? ⟨(ad.add (i*3)).block,(ad.add (i*3)).off+2,none⟩=some (.int .i64 x.at_):=by
 obtain⟨ad,cs,hA,hK,hcell0⟩:=h.at_ i x hx;have hcell:∀ j u,cs[j]?=some u→w.cell? (ad.add (i*3+j))=some u:=hcell0;obtain rfl:=kInit_open hK;refine⟨ad,hA,hcell 0 _ rfl,?_,?_⟩
 · rw[← ZN _ _ 1 (by omega)];exact hcell 1 _ rfl
 · rw[← ZN _ _ 2 (by omega)];exact hcell 2 _ rfl
structure IRel (w0 w W0 wr:World) (vT vD vC vI vL:Value) (p:ProgT) (g n0:Nat) (oT oD oL:Value) (tl:List TDecl) (b:ProgT) (pre:ByteArray) (way:List ByteArray) (r:Except (Int×Int) Out) (K nd ni i gk:Nat) (o:Out) (uD uL:Value):Prop where
 le:i≤ni∧ni - i<gk
 run:initsS (wholeOf p.comps) (instS (wholeOf p.comps) K) pre way (b.inits.drop i) ((inames (b.inits.take i)).reverse++(names b.decls).reverse) o=some r
 met:CmpMap.Met wr (w.heap.size+1) (nd+i) ((inames (b.inits.take i)).reverse++(names b.decls).reverse)
 fs:FlS w0 wr vT vD vC vI vL p g n0 oT uD uL tl o
 kp:Kp (fun k=>Ch g oD oL k∨k=w.heap.size+1) W0 wr
 new:∀ k,Ch g uD uL k→Ch g oD oL k∨w.heap.size+2≤k
theorem met_lt {w:World} {b m:Nat} {l:List ByteArray} (h:CmpMap.Met w b m l):b<w.heap.size:=by
 obtain⟨es,c,h1⟩:=met_map h;rcases Nat.lt_or_ge b w.heap.size with q|q
 · exact q
 · rw[Array.getElem?_eq_none q] at h1;cases h1
theorem fl_cells {w:World} {g:Nat} {vT vD vC vI vL oT oD oC oI oL:Value} {why at_ made:Int} (h:Fl w g vT vD vC vI vL oT oD oC oI oL why at_ made):w.cell? ⟨g,0,none⟩=some vT∧w.cell? ⟨g,1,none⟩=some vD∧w.cell? ⟨g,2,none⟩=some vC∧w.cell? ⟨g,3,none⟩=some vI∧w.cell? ⟨g,4,none⟩=some vL:=⟨Blk.cell h 0,Blk.cell h 1,Blk.cell h 2,Blk.cell h 3,Blk.cell h 4⟩
theorem one_row {w:World} {N:Nat} {t:TypeId} {s:ByteArray} (h:Blk w N t #[.string s]):ReadsRow (fun (y:ByteArray) cs=>cs=[Value.string y]) 1 w (some ⟨N,0,none⟩) 1 [s]:=by
 refine⟨rfl,by decide,fun _=>⟨_,rfl,fun j y hj=>?_⟩⟩;rcases j with _|j
 · refine⟨[.string s],rfl,by simpa using hj,fun i u hu=>?_⟩;rcases i with _|i
   · have:Value.string s=u:=(by simpa using hu);rw[← this];exact h.cell 0
   · simp at hu
 · simp at hj
theorem text_spot {w:World} {base:Nat} {ok:Nat→Prop} {v:Value} {l:List ByteArray} (h:Kd.string.R 9 w base ok v l):∀ A n c ad,v=.slice A n c→A=some ad→ad.spot=none:=by
 intro A n c ad hv hA;subst hv hA;obtain⟨_,inner,ho,_⟩:=h;rcases ho.2 with ⟨hv,_⟩|⟨g,cap,cur,hv,_⟩
 · cases hv
 · injection hv with hA
   injection hA with hA
   subst hA;rfl
theorem ins_ready {w0 w7 wd:World} {vT vD vC vI vL:Value} {p:ProgT} {g n0 K N3:Nat} {oT uD uL:Value} {tl:List TDecl} {oo:Out} {q:ProgT} {q1 q2 q3 q4 q5 vd:Value} {pre nm:ByteArray} {at_:Int} {way:List ByteArray} {cm:ByteArray} {t:Except (Int×Int) Out} (ih:PInst w0 vT vD vC vI vL p g n0 oT tl K) (hf:FlS w0 w7 vT vD vC vI vL p g n0 oT uD uL tl oo) (hbd:Below w7.heap.size w7 wd) (hq:FRows w0 w7 N3 q1 q2 q3 q4 q5 q) (hch:∀ k,Ch g uD uL k→k<N3) (hok:CmpSize.OkP 65536 1048576 q)
    (hr:Kd.string.R 9 wd w7.heap.size (fun b=>w7.heap.size≤b) vd (way++[cm])) (hpre:pre.size≤65537*way.length) (hnm:nm.size≤65536) (hcm:cm.size≤65536) (hway:∀ x∈way,x.size≤65536) (hk:K+way.length+1≤1048580) (ht:instS (wholeOf p.comps) K q (dot pre nm) at_ (way++[cm]) oo=some t) :
    Calls Try.prog 57 #[.pointer (some ⟨g,0,none⟩),.agg #[q1,q2,q3,q4,q5],.string (pre++nm++⟨#[46]⟩),.int .i64 at_,vd] wd (IPost w0 wd vT vD vC vI vL p g n0 oT uD uL tl t):=by
 refine ih wd uD uL q q1 q2 q3 q4 q5 (dot pre nm) at_ (way++[cm]) vd oo t (hf.up hbd) (fun W hW=>?_) ⟨fun W hW=>?_,text_spot hr⟩ hok ?_ (fun x hx=>?_) ?_ ht
 · exact ((hq.kp (Kp.of_below (fun _=>False) hbd) (fun _ _ _ h=>h)).kp hW (fun k hk _ hs=>by have:=hch k hs;omega)).view
 · exact Vw.of_R (hW.R hr (fun k hk _ hs=>by have:=(hf.old k hs).2;omega))
 · have:(dot pre nm).size=pre.size+nm.size+1:=(by unfold dot;rw[ByteArray.size_append,ByteArray.size_append];rfl);rw[this,Zi,List.length_singleton];omega
 · rcases List.mem_append.1 hx with hx|hx
   · exact hway x hx
   · rw[List.mem_singleton] at hx;exact hx▸hcm
 · rw[Zi,List.length_singleton];omega
theorem names_step {l:List DeclT} {i:Nat} {x:DeclT} (hx:l[i]?=some x):(names (l.take (i+1))).reverse=x.name :: (names (l.take i)).reverse:=by rw[take_one hx];simp[names]
theorem inames_step {l:List InitT} {i:Nat} {x:InitT} (hx:l[i]?=some x):(inames (l.take (i+1))).reverse=x.name :: (inames (l.take i)).reverse:=by rw[take_one hx];simp[inames]
theorem inits_any (w0:World) (vT vD vC vI vL:Value) (p:ProgT) (g n0:Nat) (oT:Value) (tl:List TDecl) (hp:CmpSize.Small p) (K:Nat) (ih:PInst w0 vT vD vC vI vL p g n0 oT tl K):PInits w0 vT vD vC vI vL p g n0 oT tl K:=by
 intro w oD oL b b1 b2 b3 b4 b5 pre way vW o r h hb hw hs hpre hway hk hr;obtain⟨A1,c1,A2,c2,A3,c3,A4,c4,A5,c5,rfl,rfl,rfl,rfl,rfl⟩:=(hb w (Kp.refl _ w)).values;obtain⟨P1,d1,P2,d2,P3,d3,P4,d4,P5,d5,rfl,rfl,rfl,rfl,rfl⟩:=h.pv.values;obtain⟨AW,cW,rfl⟩:=(hw.1 w (Kp.refl _ w)).slice;have H:=Za h;have HB:=Za hb;have HW:=Za hw;have HS:=Za hs;have HP:=Za hp;have HPRE:=Za hpre;have HWAY:=Za hway;have HK:=Za hk;have HR:=Za hr;have HIH:=Za ih;have hmk:∀ W:World,(Instr.makeMap 85 none).run Try.prog W=.ok (.map (some W.heap.size)) (W.alloc (.map #[] 0)):=fun W=>(by kernel_rfl);obtain⟨nd,hnd⟩:∃ n,b.decls.length=n:=⟨_,rfl⟩;obtain⟨ni,hni⟩:∃ n,b.inits.length=n:=⟨_,rfl⟩;have HND:=Za hnd;have HNI:=Za hni;simp only[hnd,hni] at HB ⊢;clear h hb hw hs hp hpre hway hk hr ih hnd hni;go_enter Try.func22,Try.ntmps22;go_wp2;have HM0:Hid (CmpMap.Met ((w.alloc (.cells #[.slice A1 b.types.length c1,.slice A2 nd c2,.slice A3 b.comps.length c3,.slice A4 ni c4,.slice A5 b.clauses.length c5] 28)).alloc (.map #[] 0)) (w.heap.size+1) 0 []):=Za (by have:=CmpMap.Met.made (w.alloc (.cells #[.slice A1 b.types.length c1,.slice A2 nd c2,.slice A3 b.comps.length c3,.slice A4 ni c4,.slice A5 b.clauses.length c5] 28));rwa [size1] at this);have HB0:Hid (Below w.heap.size w ((w.alloc (.cells #[.slice A1 b.types.length c1,.slice A2 nd c2,.slice A3 b.comps.length c3,.slice A4 ni c4,.slice A5 b.clauses.length c5] 28)).alloc (.map #[] 0))):=Za (below2 _ _ _);have HS0:Hid (((w.alloc (.cells #[.slice A1 b.types.length c1,.slice A2 nd c2,.slice A3 b.comps.length c3,.slice A4 ni c4,.slice A5 b.clauses.length c5] 28)).alloc (.map #[] 0)).heap.size=w.heap.size+2):=Za (by rw[size1,size1]);have HBX0:Hid (Blk ((w.alloc (.cells #[.slice A1 b.types.length c1,.slice A2 nd c2,.slice A3 b.comps.length c3,.slice A4 ni c4,.slice A5 b.clauses.length c5] 28)).alloc (.map #[] 0)) w.heap.size 28 #[.slice A1 b.types.length c1,.slice A2 nd c2,.slice A3 b.comps.length c3,.slice A4 ni c4,.slice A5 b.clauses.length c5]):=Za ((Blk.new w _ _).alloc _);generalize ((w.alloc (.cells #[.slice A1 b.types.length c1,.slice A2 nd c2,.slice A3 b.comps.length c3,.slice A4 ni c4,.slice A5 b.clauses.length c5] 28)).alloc (.map #[] 0))=W0 at *;go_loopg [20] (nd+1) (fun gk v20 wr=>∃ i:Nat,v20=.int .i64 (i:Int)∧Hid (i≤nd∧nd - i<gk∧CmpMap.Met wr (w.heap.size+1) i (names (b.decls.take i)).reverse∧Kp (fun k=>k=w.heap.size+1) W0 wr))
 case atStart=>exact⟨0,rfl,Za ⟨Nat.zero_le _,by omega,HM0.out,Kp.refl _ _⟩⟩
 case round=>
  obtain⟨i,rfl,HI⟩:=hrel;have hbr:Below w.heap.size w wr:=HI.out.2.2.2.below2 HB0.out (fun k hk e=>by omega) HB0.out.size;have HBR:=Za hbr;by_cases hi:i<nd
  · have hib:decide (i<nd)=true:=Zl hi;obtain⟨x,hx⟩:∃ t,b.decls[i]?=some t:=⟨b.decls[i]'(by rw[HND.out];exact hi),by simp⟩;obtain⟨ad,rfl,e2,f2,k0,k1,k2,k3,k4⟩:=decl_cells (HB.out wr (Kp.of_below _ hbr)).d i x hx;have hns:x.name.size≤maxLen:=Ze (HS.out.decls x (List.mem_of_getElem? hx)) (by decide);have HX:=Za (names_step hx);have hi0:(0:Int)≤(i:Int):=(by omega);have hi1:(i:Int)<(nd:Int):=(by omega);have hnd2:nd≤1048576:=(by have:=HS.out.many;unfold manyP at this;have:=HND.out;omega);obtain⟨w3,hput,hmet3,hgr3⟩:=(HI.out.2.2.1.alloc (.cells #[.string x.name,.slice e2 x.cols.length f2,.bool x.input,.bool x.output,.int .i64 x.at_] 46)).put (by have:(1048576:Nat)<maxLen:=(by decide);omega) hns;have HM3:=Za hmet3;have HG3:=Za hgr3;have HN2:=Za hnd2;clear hx hmet3 hgr3 hns hbr hnd2;go_wp2;go_roundg (nd - i)
    all_goals first
     | (have:=HI.out.2.1;omega)
     | exact⟨i+1,by rw[wrap_up i (by have:=HN2.out;omega)],Za ⟨hi,by omega,by rw[HX.out];exact HM3.out,(HI.out.2.2.2.alloc _).then_grown HG3.out (fun k e _=>by injection e with e;exact e.symm)⟩⟩
  · have hib:decide (i<nd)=false:=Zm hi;have hbx:Blk wr w.heap.size 28 #[.slice A1 b.types.length c1,.slice A2 nd c2,.slice A3 b.comps.length c3,.slice A4 ni c4,.slice A5 b.clauses.length c5]:=HI.out.2.2.2.blk HBX0.out (by omega);obtain⟨p0,p1,p2,p3,p4⟩:=Zt hbx;have lbx:=hbx.lt;have hall:b.decls.take i=b.decls:=List.take_of_length_le (by have:=HND.out;omega);have hm1:=HI.out.2.2.1;rw[hall] at hm1;have hin:i=nd:=(by have:=HI.out.1;omega);rw[hin] at hm1;have HM1:=Za hm1;have HK1:=Za HI.out.2.2.2;clear hbr hm1 HI hi hall hin hbx p0 p1 p2 p4;go_wp2;have HR0:Hid (initsS (wholeOf p.comps) (instS (wholeOf p.comps) K) pre way (b.inits.drop 0) ((inames (b.inits.take 0)).reverse++(names b.decls).reverse) o=some r):=Za HR.out;have HKW0:Hid (Kp (fun k=>k=w.heap.size+1) W0 wr):=HK1;have HM1':Hid (CmpMap.Met wr (w.heap.size+1) (nd+0) ((inames (b.inits.take 0)).reverse++(names b.decls).reverse)):=Za HM1.out;clear HM1 HK1 HM0;generalize wr=W1 at *;go_loopg [31] (ni+1) (fun gk v31 wr=>∃ i:Nat,v31=.int .i64 (i:Int)∧∃ oo uD uL,Hid (IRel w0 w W0 wr (.slice P1 p.types.length d1) (.slice P2 p.decls.length d2) (.slice P3 p.comps.length d3) (.slice P4 p.inits.length d4) (.slice P5 p.clauses.length d5) p g n0 oT oD oL tl b pre way r K nd ni i gk oo uD uL))
    case atStart=>exact⟨0,rfl,o,oD,oL,Za ⟨⟨Nat.zero_le _,by omega⟩,HR0.out,HM1'.out,H.out.up HBR.out,HKW0.out.mono (fun _ _ q=>.inr q),fun k q=>.inl q⟩⟩
    case round=>
     obtain⟨j,rfl,oo,uD,uL,HJ⟩:=hrel;have hkw:Kp (Ch g oD oL) w wr:=(Kp.of_below _ HB0.out).trans HJ.out.kp (fun k hk hs=>hs.elim id (fun e=>by omega));have HKW:=Za hkw;have hbox:Blk wr w.heap.size 28 #[.slice A1 b.types.length c1,.slice A2 nd c2,.slice A3 b.comps.length c3,.slice A4 ni c4,.slice A5 b.clauses.length c5]:=HJ.out.kp.blk HBX0.out (fun q=>by
      rcases q with q|q
      · have:=(H.out.old _ q).2;omega
      · omega)
     have HBOX:=Za hbox;have hni2:ni≤1048576:=(by have:=HS.out.many;unfold manyP at this;have:=HNI.out;omega);have hnd2:nd≤1048576:=(by have:=HS.out.many;unfold manyP at this;have:=HND.out;omega);by_cases hj:j<ni
     · have hib2:decide (j<ni)=true:=Zl hj;obtain⟨x,hx⟩:∃ t,b.inits[j]?=some t:=⟨b.inits[j]'(by rw[HNI.out];exact hj),by simp⟩;obtain⟨ad,rfl,k0,k1,k2⟩:=init_cells (HB.out wr hkw).i j x hx;obtain⟨hxn,hxc⟩:=HS.out.inits x (List.mem_of_getElem? hx);have hns:x.name.size≤maxLen:=Ze hxn (by decide);obtain⟨hi1,hi2⟩:=inits_at hx HJ.out.run;have HI1:=Za hi1;have HI2:=Za hi2;have hlk:=fun o:Obj=>(HJ.out.met.alloc o).get hns;have HX:=Za (inames_step hx);have HXN:=Za hxn;have HXC:=Za hxc;have hj0:(0:Int)≤(j:Int):=(by omega);have hj1:(j:Int)<(ni:Int):=(by omega);obtain⟨w3,hput,hmet3,hgr3⟩:=(HJ.out.met.alloc (.cells #[.string x.name,.string x.comp,.int .i64 x.at_] 48)).put (by have:(4194304:Nat)<maxLen:=(by decide);omega) hns;have HM3:=Za hmet3;have HG3:=Za hgr3;have HN2:=Za hni2;clear hx hi1 hi2 hmet3 hgr3 hns hxn hxc hkw hbox hni2 hnd2;cases hh:hasS ((inames (b.inits.take j)).reverse++(names b.decls).reverse) x.name with
       | true=>
         rw[hh] at hlk;have hr:=HI1.out hh;subst hr;have HFA:=Za (fun o:Obj=>fail_any (wr.alloc o) g _ _ _ _ _ _ _ _ _ _ _ _ _ 11 x.at_ (Fl.below HJ.out.fs.fl (below1 _ o)));clear hh hput;go_wp2_with (first|(go_at_call 55;(with_reducible refine (HFA.out _).mono ?_);rintro e w7 ⟨rfl,hk,h10,h11⟩;have HK7:=Za hk;have H10:=Za h10;have H11:=Za h11;clear hk h10 h11))
         go_ret;exact FailPost.all ⟨rfl,HK7.out,H10.out,H11.out⟩ (HKW.out.alloc _) (fun k _ q=>.inl q)
       | false=>
         rw[hh] at hlk;obtain⟨z,q,hw,hz1,hz2,hz3⟩:=HI2.out hh;have hmb:=met_lt HJ.out.met;have HF3:Hid (FlS w0 w3 (.slice P1 p.types.length d1) (.slice P2 p.decls.length d2) (.slice P3 p.comps.length d3) (.slice P4 p.inits.length d4) (.slice P5 p.clauses.length d5) p g n0 oT uD uL tl oo):=Za ((HJ.out.fs.up (below1 _ _)).kpm (Kp.of_grown (S:=fun k=>k=w.heap.size+1) HG3.out (fun k e=>by injection e with e;exact e.symm)) (fun k e=>by subst e;exact met_map (HJ.out.met.alloc _)) (fun k e=>by have:=H.out.size;omega));have HX3:Hid (Blk w3 wr.heap.size 48 #[.string x.name,.string x.comp,.int .i64 x.at_]):=Za ((Blk.new wr _ _).grown HG3.out (fun e=>by injection e with e;omega));have HKW3:Hid (Kp (Ch g oD oL) w w3):=Za ((HKW.out.alloc _).then_grown HG3.out (fun k e hk=>by injection e with e;omega));have HWH:=Za (fun W (hb:Below w3.heap.size w3 W)=>whole_any w0 W (.slice P1 p.types.length d1) (.slice P2 p.decls.length d2) (.slice P3 p.comps.length d3) (.slice P4 p.inits.length d4) (.slice P5 p.clauses.length d5) p HP.out HF3.out.pv (HF3.out.bs.trans (hb.mono HF3.out.bs.size)) x.comp HXC.out z q hw);have HZ1:=Za hz1;have HZ2:=Za hz2;have HZ3:=Za hz3;have HWQ:=Za hw;have x3:=HX3.out.cell 1;have x32:=HX3.out.cell 2;have x30:=HX3.out.cell 0;have lx3:=HX3.out.lt;obtain⟨f0,f1,f2,f3,f4⟩:=fl_cells HF3.out.fl;have lg3:=Blk.lt HF3.out.fl;simp only[List.getElem?_toArray,List.getElem?_cons_zero,List.getElem?_cons_succ] at x3 x32 x30;clear hw hz1 hz2 hz3 hh hmb;have hrl:=(fun W (hb:Below w3.heap.size w3 W)=>(⟨(hb.cell (p:=⟨g,0,none⟩) lg3).trans f0,(hb.cell (p:=⟨g,1,none⟩) lg3).trans f1,(hb.cell (p:=⟨g,2,none⟩) lg3).trans f2,(hb.cell (p:=⟨g,3,none⟩) lg3).trans f3,(hb.cell (p:=⟨g,4,none⟩) lg3).trans f4,(hb.cell (p:=⟨wr.heap.size,1,none⟩) lx3).trans x3⟩:W.cell? ⟨g,0,none⟩=some (.slice P1 p.types.length d1)∧W.cell? ⟨g,1,none⟩=some (.slice P2 p.decls.length d2)∧W.cell? ⟨g,2,none⟩=some (.slice P3 p.comps.length d3)∧W.cell? ⟨g,3,none⟩=some (.slice P4 p.inits.length d4)∧W.cell? ⟨g,4,none⟩=some (.slice P5 p.clauses.length d5)∧W.cell? ⟨wr.heap.size,1,none⟩=some (.string x.comp)));go_wp2
         go_region_held3 (fun W=>Below w3.heap.size w3 W) (first|assumption|(with_reducible exact hS11 _ _ _ _ _)|(repeat (with_reducible first|assumption|exact Below.refl _ _|refine Below.drew ?_|refine Zv ?_ _)))
             (first
             | (go_at_call 11;(with_reducible refine (HWH.out _ (Below.refl _ _).drew).mono ?_);rintro e w5 ⟨yT,yD,yC,yI,yL,rfl,hF5,hb5⟩;obtain⟨g1,e1,g2,e2,g3,e3,g4,e4,g5,e5,rfl,rfl,rfl,rfl,rfl⟩:=hF5.view.values;have hB5:Below w3.heap.size w3 w5:=(Below.refl _ w3).drew.trans hb5;have HF5:=Za hF5;have HB5:=Za hB5;clear hF5 hb5)
             | (go_at_call 11;(with_reducible refine (HWH.out _ (below1 _ _).drew).mono ?_);rintro e w5 ⟨yT,yD,yC,yI,yL,rfl,hF5,hb5⟩;obtain⟨g1,e1,g2,e2,g3,e3,g4,e4,g5,e5,rfl,rfl,rfl,rfl,rfl⟩:=hF5.view.values;have hB5:Below w3.heap.size w3 w5:=below_in (below1 w3 _).drew hb5;have hbx5:=Blk.below (Blk.drew (Blk.new w3 _ _)) hb5 (Blk.drew (Blk.new w3 _ _)).lt;have qb5:=Zt hbx5;have qf5:=Zz hbx5;have lb5:=hbx5.lt;have hS11:∀ a b c d e:Value,Below w3.heap.size w3 (five w5 w3.heap.size a b c d e):=(fun _ _ _ _ _=>CmpWhole.five_below hB5 (Zc _));have HBX5:=Za hbx5;have HF5:=Za hF5;have HB5:=Za hB5;clear hF5 hb5 hbx5))
         have HALL:Hid (w3.heap.size≤w5.heap.size∧Blk (w5.alloc (.cells #[.slice g1 q.types.length e1,.slice g2 q.decls.length e2,.slice g3 q.comps.length e3,.slice g4 q.inits.length e4,.slice g5 q.clauses.length e5] 28)) w5.heap.size 28 #[.slice g1 q.types.length e1,.slice g2 q.decls.length e2,.slice g3 q.comps.length e3,.slice g4 q.inits.length e4,.slice g5 q.clauses.length e5]∧Below w3.heap.size w3 (w5.alloc (.cells #[.slice g1 q.types.length e1,.slice g2 q.decls.length e2,.slice g3 q.comps.length e3,.slice g4 q.inits.length e4,.slice g5 q.clauses.length e5] 28))∧FRows w0 (w5.alloc (.cells #[.slice g1 q.types.length e1,.slice g2 q.decls.length e2,.slice g3 q.comps.length e3,.slice g4 q.inits.length e4,.slice g5 q.clauses.length e5] 28)) w3.heap.size (.slice g1 q.types.length e1) (.slice g2 q.decls.length e2) (.slice g3 q.comps.length e3) (.slice g4 q.inits.length e4) (.slice g5 q.clauses.length e5) q):=Za ⟨HB5.out.size,Blk.new _ _ _,HB5.out.alloc HB5.out.size _,HF5.out.kp ((Kp.refl (fun _=>False) _).alloc _) (fun _ _ _ h=>h)⟩;clear HF5 HB5 hB5;(repeat (rename Below w3.heap.size w3 _=>hHeld;clear hHeld));generalize (w5.alloc (.cells #[.slice g1 q.types.length e1,.slice g2 q.decls.length e2,.slice g3 q.comps.length e3,.slice g4 q.inits.length e4,.slice g5 q.clauses.length e5] 28))=W6 at *;generalize w5.heap.size=X at *;clear w5;revert HALL;revert W6;revert X;revert g1 e1 g2 e2 g3 e3 g4 e4 g5 e5;refine ?rest13;rotate_left;obtain⟨X,hX⟩:∃ X,w3.heap.size=X:=⟨_,rfl⟩;have HALL:Hid (w3.heap.size≤X∧Blk (((((w5.setCell ⟨X,0,none⟩ (.slice g1 q.types.length e1)).setCell ⟨X,1,none⟩ (.slice g2 q.decls.length e2)).setCell ⟨X,2,none⟩ (.slice g3 q.comps.length e3)).setCell ⟨X,3,none⟩ (.slice g4 q.inits.length e4)).setCell ⟨X,4,none⟩ (.slice g5 q.clauses.length e5)) X 28 #[.slice g1 q.types.length e1,.slice g2 q.decls.length e2,.slice g3 q.comps.length e3,.slice g4 q.inits.length e4,.slice g5 q.clauses.length e5]∧Below w3.heap.size w3 (((((w5.setCell ⟨X,0,none⟩ (.slice g1 q.types.length e1)).setCell ⟨X,1,none⟩ (.slice g2 q.decls.length e2)).setCell ⟨X,2,none⟩ (.slice g3 q.comps.length e3)).setCell ⟨X,3,none⟩ (.slice g4 q.inits.length e4)).setCell ⟨X,4,none⟩ (.slice g5 q.clauses.length e5))∧FRows w0 (((((w5.setCell ⟨X,0,none⟩ (.slice g1 q.types.length e1)).setCell ⟨X,1,none⟩ (.slice g2 q.decls.length e2)).setCell ⟨X,2,none⟩ (.slice g3 q.comps.length e3)).setCell ⟨X,3,none⟩ (.slice g4 q.inits.length e4)).setCell ⟨X,4,none⟩ (.slice g5 q.clauses.length e5)) w3.heap.size (.slice g1 q.types.length e1) (.slice g2 q.decls.length e2) (.slice g3 q.comps.length e3) (.slice g4 q.inits.length e4) (.slice g5 q.clauses.length e5) q):=Za ⟨Nat.le_of_eq hX,by rw[← hX];exact ZS HBX5.out,CmpWhole.five_below HB5.out (Nat.le_of_eq hX),(HF5.out.kp (CmpWhole.kp_five (Kp.refl (fun k=>k=X) _) (fun _=>rfl)) (fun k hk _ h=>by have hz:(w3.alloc (.cells #[.slice none 0 0,.slice none 0 0,.slice none 0 0,.slice none 0 0,.slice none 0 0] 28)).heap.size≤k:=hk;rw[size1] at hz;omega)).lower (below1 w3 _).size⟩;clear HF5 HB5 hB5 HBX5 qb5 qf5 lb5 hS11;(repeat (rename Below w3.heap.size w3 _=>hHeld;clear hHeld));rw[hX];clear hX;generalize (((((w5.setCell ⟨X,0,none⟩ (.slice g1 q.types.length e1)).setCell ⟨X,1,none⟩ (.slice g2 q.decls.length e2)).setCell ⟨X,2,none⟩ (.slice g3 q.comps.length e3)).setCell ⟨X,3,none⟩ (.slice g4 q.inits.length e4)).setCell ⟨X,4,none⟩ (.slice g5 q.clauses.length e5))=W6 at *;clear w5;revert HALL;revert W6;revert X;revert g1 e1 g2 e2 g3 e3 g4 e4 g5 e5;refine ?rest13;intro g1 e1 g2 e2 g3 e3 g4 e4 g5 e5 X W6 HALL;have HF6:Hid (FlS w0 W6 (.slice P1 p.types.length d1) (.slice P2 p.decls.length d2) (.slice P3 p.comps.length d3) (.slice P4 p.inits.length d4) (.slice P5 p.clauses.length d5) p g n0 oT uD uL tl oo):=Za (HF3.out.up HALL.out.2.2.1);have hx6:=HX3.out.below HALL.out.2.2.1 HX3.out.lt;have HX6:=Za hx6;have y0:=hx6.cell 0;have y1:=hx6.cell 1;have y2:=hx6.cell 2;have ly:=hx6.lt;simp only[List.getElem?_toArray,List.getElem?_cons_zero,List.getElem?_cons_succ] at y0 y1 y2
         have HKW6:Hid (Kp (Ch g oD oL) w W6):=Za (HKW3.out.then_below HALL.out.2.2.1);have HCT:=Za (contains_any W6 AW cW way x.comp (HW.out.1 W6 HKW6.out) (fun ad h=>HW.out.2 _ _ _ ad rfl h) (by have:=HK.out;omega));clear hx6 f0 f1 f2 f3 f4 x3 x32 x30 lx3 lg3 hrl hput hlk k0 k1 k2;by_cases hz:z=0;rotate_left
         · have hr:=HZ1.out hz;subst hr;have hzz:(z != 0)=true:=(by simpa using hz);have HFA:=Za (fun W (hb:Below W6.heap.size W6 W)=>fail_any W g _ _ _ _ _ _ _ _ _ _ _ _ _ z x.at_ (Fl.below HF6.out.fl hb));clear hz;go_wp2_with (first|(go_at_call 55;(with_reducible refine (HFA.out _ (Below.refl _ _)).mono ?_);rintro e w7 ⟨rfl,hk,h10,h11⟩;have HK7:=Za hk;have H10:=Za h10;have H11:=Za h11;clear hk h10 h11))
           go_ret;exact FailPost.all ⟨rfl,HK7.out,H10.out,H11.out⟩ HKW6.out (fun k _ q=>.inl q)
         · subst hz;have HFA:=Za (fun W (hb:Below W6.heap.size W6 W)=>fail_any W g _ _ _ _ _ _ _ _ _ _ _ _ _ 12 x.at_ (Fl.below HF6.out.fl hb));cases hc:hasS way x.comp with
           | true=>
             have hr:=HZ2.out (by simp) hc;subst hr;rw[hc] at HCT;clear hc
             go_wp2_with (first
              | (go_at_call 56;(with_reducible refine (HCT.out).mono ?_);rintro e w7 ⟨rfl,rfl⟩)
              | (go_at_call 55;(with_reducible refine (HFA.out _ (Below.refl _ _)).mono ?_);rintro e w7 ⟨rfl,hk,h10,h11⟩;have HK7:=Za hk;have H10:=Za h10;have H11:=Za h11;clear hk h10 h11))
             go_ret;exact FailPost.all ⟨rfl,HK7.out,H10.out,H11.out⟩ HKW6.out (fun k _ q=>.inl q)
           | false=>
             obtain⟨t,ht,hte,hto⟩:=HZ3.out (by simp) hc;rw[hc] at HCT;have HT:=Za ht;have HTE:=Za hte;have HTO:=Za hto;clear hc ht hte hto
             go_wp2_with (first
              | (go_at_call 56;(with_reducible refine (HCT.out).mono ?_);rintro e w7 ⟨rfl,rfl⟩))
             have hxX:¬Ch g uD uL X:=fun h=>(by have:=(HF3.out.old _ h).2;have:=HALL.out.1;omega);have hxB:¬Ch g uD uL wr.heap.size:=fun h=>(by have:=(HJ.out.fs.old _ h).2;omega);have hbX:=HALL.out.2.1.lt;obtain⟨b0,b1,b2,b3,b4⟩:=Zt HALL.out.2.1;have hrl:=(fun W (hk:Kp (Ch g uD uL) w7 W)=>(⟨(kp_cell hk hbX hxX).trans b0,(kp_cell hk hbX hxX).trans b1,(kp_cell hk hbX hxX).trans b2,(kp_cell hk hbX hxX).trans b3,(kp_cell hk hbX hxX).trans b4,(kp_cell hk ly hxB).trans y0,(kp_cell hk ly hxB).trans y1,(kp_cell hk ly hxB).trans y2⟩:W.cell? ⟨X,0,none⟩=some (.slice g1 q.types.length e1)∧W.cell? ⟨X,1,none⟩=some (.slice g2 q.decls.length e2)∧W.cell? ⟨X,2,none⟩=some (.slice g3 q.comps.length e3)∧W.cell? ⟨X,3,none⟩=some (.slice g4 q.inits.length e4)∧W.cell? ⟨X,4,none⟩=some (.slice g5 q.clauses.length e5)∧W.cell? ⟨wr.heap.size,0,none⟩=some (.string x.name)∧W.cell? ⟨wr.heap.size,1,none⟩=some (.string x.comp)∧W.cell? ⟨wr.heap.size,2,none⟩=some (.int .i64 x.at_)));have hchw:∀ k,k<w.heap.size→Ch g uD uL k→Ch g oD oL k:=fun k hl hk=>(HJ.out.new k hk).elim id (fun h=>by omega);have HCHW:=Za hchw;have hwl:way.length≤2097152:=(by have:=HK.out;omega);have HCLN:=Za (fun V (hS:Kp (Ch g uD uL) w7 V)=>CmpClone.texts_any V (.slice AW way.length cW) way (HW.out.1 V (HKW6.out.trans hS hchw)) hwl);have HWL:=Za hwl;have hpz:pre.size+x.name.size+1≤9223372036854775807:=(by have:=HPRE.out;have:=HXN.out;omega);have hmx1:¬9223372036854775807<pre.size+x.name.size:=(by omega);have hmx2:¬9223372036854775807<pre.size+x.name.size+1:=(by omega);have HOKQ:=Za (wholeOf_small HP.out HWQ.out);have HIN:=Za (fun wd vd (hbd:Below w7.heap.size w7 wd) hr=>ins_ready (q1:=.slice g1 q.types.length e1) (q2:=.slice g2 q.decls.length e2) (q3:=.slice g3 q.comps.length e3) (q4:=.slice g4 q.inits.length e4) (q5:=.slice g5 q.clauses.length e5) (vd:=vd) HIH.out HF6.out hbd HALL.out.2.2.2 (fun k hk=>(HF3.out.old k hk).2) HOKQ.out.1 hr HPRE.out HXN.out HXC.out HWAY.out HK.out HT.out);clear hpz hwl hchw b0 b1 b2 b3 b4;cases t with
             | error z=>
               have hr:=HTE.out z rfl;subst hr;go_wp2
               go_region_held3 (fun W=>Kp (Ch g uD uL) w7 W) (first|assumption|(repeat (with_reducible first|assumption|exact Kp.refl _ _|refine Kp.drew ?_|refine Kp.alloc ?_ _)))
                (first
                | (go_at_call 58;(with_reducible refine (HCLN.out _ (Kp.refl _ _).drew).mono ?_);rintro e wc ⟨vc,rfl,hrc,hbc⟩;obtain⟨ac,dc,ec⟩:=Kd.R_slice hrc;subst ec;have hSc:Kp (Ch g uD uL) w7 wc:=(Kp.refl _ _).drew.then_below hbc;have hbc2:Below w7.heap.size w7 wc:=(Below.refl _ w7).drew.trans hbc;have HBC:=Za hbc2;have HRC:Hid (Kd.string.R 9 wc w7.heap.size (fun b=>w7.heap.size≤b) (.slice ac way.length dc) way):=Za hrc;clear hrc hbc hbc2)
                | (go_at_call 58;(with_reducible refine (HCLN.out _ ((Kp.refl _ _).alloc _).drew).mono ?_);rintro e wc ⟨vc,rfl,hrc,hbc⟩;obtain⟨ac,dc,ec⟩:=Kd.R_slice hrc;subst ec;have hSc:Kp (Ch g uD uL) w7 wc:=((Kp.refl _ _).alloc _).drew.then_below hbc;have hbc2:Below w7.heap.size w7 wc:=below_in (below1 w7 _).drew hbc;have HSL:=Za (Blk.below (Blk.drew (Blk.new w7 _ _)) hbc (Blk.drew (Blk.new w7 _ _)).lt);have HBC:=Za hbc2;have HRC:Hid (Kd.string.R 9 wc w7.heap.size (fun b=>w7.heap.size≤b) (.slice ac way.length dc) way):=Za (Kd.R_mono (Kd.R_lower hrc (below1 w7 _).size) (fun k hk=>Ze (below1 w7 _).size hk));clear hrc hbc hbc2)
                | (refine Kd.R_append_rows_step Kd.string (Rr:=fun y cs=>cs=[Value.string y]) w7.heap.size (by rfl) (.tmp 83) (.tmp 86) 40 9 (.string ⟨#[]⟩) 16 rfl Try.underlying40 infoStr rfl (by decide) (by decide) (.slice ac way.length dc) way [x.comp] (some ⟨wc.heap.size,0,none⟩) 1 1 (fun b=>w7.heap.size≤b) (fun _=>False) ?a1 ?a2 (Kd.R_below HRC.out (below1 _ _)) (one_row (Blk.new _ _ _)) (fun _ _ h=>h) (fun _ h=>h.elim) (fun k hk=>Ze (Ze HBC.out.size (below1 wc _).size) hk) (Below.refl _ _) (Ze HBC.out.size (below1 wc _).size) ?aL ?_
                   (try (case a1=>rfl));(try (case a2=>rfl));(case aL=>have:=HWL.out;omega)
                   intro vd wd hrd hbl hgd hatd;have hbd:Below w7.heap.size w7 wd:=(HBC.out.alloc HBC.out.size _).grown hgd (Ze HBC.out.size (below1 wc _).size) (fun k e=>Kd.R_base HRC.out k e);have HI8:=Za (HIN.out wd vd hbd hrd);have hSd:Kp (Ch g uD uL) w7 wd:=Kp.of_below _ hbd;have HBD:=Za hbd;clear hrd hbl hgd hatd hbd)
                | (refine Kd.R_append_rows_step Kd.string (Rr:=fun y cs=>cs=[Value.string y]) w7.heap.size (by rfl) (.tmp 83) (.tmp 86) 40 9 (.string ⟨#[]⟩) 16 rfl Try.underlying40 infoStr rfl (by decide) (by decide) (.slice ac way.length dc) way [x.comp] (some ⟨w7.heap.size,0,none⟩) 1 1 (fun b=>w7.heap.size≤b) (fun _=>False) ?a1 ?a2 HRC.out (one_row HSL.out) (fun _ _ h=>h) (fun _ h=>h.elim) (fun k hk=>Ze HBC.out.size hk) (Below.refl _ _) HBC.out.size ?aL ?_
                   (try (case a1=>rfl));(try (case a2=>rfl));(case aL=>have:=HWL.out;omega)
                   intro vd wd hrd hbl hgd hatd;have hbd:Below w7.heap.size w7 wd:=HBC.out.grown hgd HBC.out.size (fun k e=>Kd.R_base HRC.out k e);have HI8:=Za (HIN.out wd vd hbd hrd);have hSd:Kp (Ch g uD uL) w7 wd:=Kp.of_below _ hbd;have HBD:=Za hbd;clear hrd hbl hgd hatd hbd)
                | (go_at_call 57;(with_reducible refine (HI8.out).mono ?_);rintro e w8 ⟨rfl,hk,h10,h11⟩;have hS8:Kp (Ch g uD uL) w7 w8:=hSd.trans hk (fun _ _ q=>q);have HK8:=Za hS8;have H10:=Za h10;have H11:=Za h11;clear hk h10 h11))
               (all_goals go_wp2);(all_goals go_ret);all_goals exact FailPost.all ⟨rfl,Kp.refl (fun _=>False) _,H10.out,H11.out⟩ (HKW6.out.trans HK8.out HCHW.out) (fun _ _ q=>q.elim)
             | ok o2=>
               go_wp2
               go_region_held3 (fun W=>Kp (Ch g uD uL) w7 W) (first|assumption|(repeat (with_reducible first|assumption|exact Kp.refl _ _|refine Kp.drew ?_|refine Kp.alloc ?_ _)))
                (first
                | (go_at_call 58;(with_reducible refine (HCLN.out _ (Kp.refl _ _).drew).mono ?_);rintro e wc ⟨vc,rfl,hrc,hbc⟩;obtain⟨ac,dc,ec⟩:=Kd.R_slice hrc;subst ec;have hSc:Kp (Ch g uD uL) w7 wc:=(Kp.refl _ _).drew.then_below hbc;have hbc2:Below w7.heap.size w7 wc:=(Below.refl _ w7).drew.trans hbc;have HBC:=Za hbc2;have HRC:Hid (Kd.string.R 9 wc w7.heap.size (fun b=>w7.heap.size≤b) (.slice ac way.length dc) way):=Za hrc;clear hrc hbc hbc2)
                | (go_at_call 58;(with_reducible refine (HCLN.out _ ((Kp.refl _ _).alloc _).drew).mono ?_);rintro e wc ⟨vc,rfl,hrc,hbc⟩;obtain⟨ac,dc,ec⟩:=Kd.R_slice hrc;subst ec;have hSc:Kp (Ch g uD uL) w7 wc:=((Kp.refl _ _).alloc _).drew.then_below hbc;have hbc2:Below w7.heap.size w7 wc:=below_in (below1 w7 _).drew hbc;have HSL:=Za (Blk.below (Blk.drew (Blk.new w7 _ _)) hbc (Blk.drew (Blk.new w7 _ _)).lt);have HBC:=Za hbc2;have HRC:Hid (Kd.string.R 9 wc w7.heap.size (fun b=>w7.heap.size≤b) (.slice ac way.length dc) way):=Za (Kd.R_mono (Kd.R_lower hrc (below1 w7 _).size) (fun k hk=>Ze (below1 w7 _).size hk));clear hrc hbc hbc2)
                | (refine Kd.R_append_rows_step Kd.string (Rr:=fun y cs=>cs=[Value.string y]) w7.heap.size (by rfl) (.tmp 83) (.tmp 86) 40 9 (.string ⟨#[]⟩) 16 rfl Try.underlying40 infoStr rfl (by decide) (by decide) (.slice ac way.length dc) way [x.comp] (some ⟨wc.heap.size,0,none⟩) 1 1 (fun b=>w7.heap.size≤b) (fun _=>False) ?a1 ?a2 (Kd.R_below HRC.out (below1 _ _)) (one_row (Blk.new _ _ _)) (fun _ _ h=>h) (fun _ h=>h.elim) (fun k hk=>Ze (Ze HBC.out.size (below1 wc _).size) hk) (Below.refl _ _) (Ze HBC.out.size (below1 wc _).size) ?aL ?_
                   (try (case a1=>rfl));(try (case a2=>rfl));(case aL=>have:=HWL.out;omega)
                   intro vd wd hrd hbl hgd hatd;have hbd:Below w7.heap.size w7 wd:=(HBC.out.alloc HBC.out.size _).grown hgd (Ze HBC.out.size (below1 wc _).size) (fun k e=>Kd.R_base HRC.out k e);have HI8:=Za (HIN.out wd vd hbd hrd);have hSd:Kp (Ch g uD uL) w7 wd:=Kp.of_below _ hbd;have HBD:=Za hbd;clear hrd hbl hgd hatd hbd)
                | (refine Kd.R_append_rows_step Kd.string (Rr:=fun y cs=>cs=[Value.string y]) w7.heap.size (by rfl) (.tmp 83) (.tmp 86) 40 9 (.string ⟨#[]⟩) 16 rfl Try.underlying40 infoStr rfl (by decide) (by decide) (.slice ac way.length dc) way [x.comp] (some ⟨w7.heap.size,0,none⟩) 1 1 (fun b=>w7.heap.size≤b) (fun _=>False) ?a1 ?a2 HRC.out (one_row HSL.out) (fun _ _ h=>h) (fun _ h=>h.elim) (fun k hk=>Ze HBC.out.size hk) (Below.refl _ _) HBC.out.size ?aL ?_
                   (try (case a1=>rfl));(try (case a2=>rfl));(case aL=>have:=HWL.out;omega)
                   intro vd wd hrd hbl hgd hatd;have hbd:Below w7.heap.size w7 wd:=HBC.out.grown hgd HBC.out.size (fun k e=>Kd.R_base HRC.out k e);have HI8:=Za (HIN.out wd vd hbd hrd);have hSd:Kp (Ch g uD uL) w7 wd:=Kp.of_below _ hbd;have HBD:=Za hbd;clear hrd hbl hgd hatd hbd)
                | (go_at_call 57;(with_reducible refine (HI8.out).mono ?_);rintro e w8 ⟨rfl,vD8,vL8,hf8,hk,hn8⟩;have hS8:Kp (Ch g uD uL) w7 w8:=hSd.trans hk (fun _ _ q=>q);have HK8:=Za hS8;have HF8:=Za hf8;have HN8:Hid (∀ k,Ch g vD8 vL8 k→Ch g uD uL k∨w7.heap.size≤k):=Za (fun k h=>(hn8 k h).imp id (fun h=>Ze HBD.out.size h));clear hk hf8 hn8))
               (all_goals go_wp2);all_goals (
                have hsz:w.heap.size+2≤w7.heap.size:=(by have h1:=HJ.out.kp.size;have h2:=(below1 wr (.cells #[.string x.name,.string x.comp,.int .i64 x.at_] 48)).size;have h3:=HG3.out.size;have h4:=HALL.out.2.2.1.size;have h5:=HS0.out;omega);have hnew:∀ k,Ch g uD uL k→Ch g oD oL k∨w.heap.size+2≤k:=HJ.out.new;have hmbn:¬Ch g uD uL (w.heap.size+1):=fun h=>(hnew _ h).elim (fun h=>by have:=(H.out.old _ h).2;omega) (fun h=>by omega);have hmet:CmpMap.Met w8 (w.heap.size+1) (nd+(j+1)) ((inames (b.inits.take (j+1))).reverse++(names b.decls).reverse):=by rw[HX.out];exact HK8.out.met ((Kp.of_below (fun _=>False) HALL.out.2.2.1).met HM3.out (fun q=>q)) hmbn
                have hkp:Kp (fun k=>Ch g oD oL k∨k=w.heap.size+1) W0 w8:=
                 (((HJ.out.kp.alloc _).then_grown HG3.out (fun k e _=>by injection e with e;exact .inr e.symm)).then_below HALL.out.2.2.1).trans HK8.out (fun k hk h=>(hnew k h).elim (fun q=>.inl q) (fun q=>by have:=HS0.out;omega))
                have hrun:initsS (wholeOf p.comps) (instS (wholeOf p.comps) K) pre way (b.inits.drop (j+1)) ((inames (b.inits.take (j+1))).reverse++(names b.decls).reverse) o2=some r:=(by rw[HX.out];exact HTO.out o2 rfl);have HNX:=Za (⟨hmet,hkp,hrun,fun k h=>(HN8.out k h).elim (fun q=>hnew k q) (fun q=>.inr (by omega))⟩:_∧_∧_∧∀ k,Ch g vD8 vL8 k→Ch g oD oL k∨w.heap.size+2≤k);clear hsz hnew hmbn hmet hkp hrun;go_roundg (ni - j))
               all_goals first
                | (have:=HJ.out.le.2;omega)
                | exact⟨j+1,by rw[wrap_up j (by have:=HN2.out;omega)],o2,vD8,vL8,Za ⟨⟨hj,by omega⟩,HNX.out.2.2.1,HNX.out.1,HF8.out,HNX.out.2.1,HNX.out.2.2.2⟩⟩
     · have hib2:decide (j<ni)=false:=Zm hj;have hr:r=.ok oo:=by
        have:=HJ.out.run;rw[List.drop_eq_nil_of_le (by have:=HNI.out;omega)] at this;injection this with this
        exact this.symm
       subst hr;go_wp2;go_ret;exact⟨rfl,uD,uL,HJ.out.fs,HKW.out,fun k hk=>(HJ.out.new k hk).imp id (fun h=>by omega)⟩
end CmpInits
end Go.Proofs.Ytddmceldglelkaa
