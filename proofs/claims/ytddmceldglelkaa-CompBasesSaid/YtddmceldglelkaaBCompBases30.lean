/- A claim's texts, in the order of what they need: CmpFind, CmpRule, CmpAdd, CmpDefer. -/
import Derived.Test.YtddmceldglelkaaBCompBases3
import Derived.Test.YtddmceldglelkaaBCompBases15
import Derived.Test.YtddmceldglelkaaBCompBases27
import Derived.Test.YtddmceldglelkaaBCompBases29
import Derived.Deep.LoopGhost
import Derived.Deep.RegionLaw
import Derived.Deep.QuietTactic
import Derived.Defers
import Derived.Tactics
set_option maxRecDepth 100000
set_option maxHeartbeats 8000000
set_option linter.unusedVariables false
set_option linter.unusedSimpArgs false
set_option linter.unusedSectionVars false
namespace Go.Proofs.Ytddmceldglelkaa
namespace CmpFind
open Go Go.RowKit RefCells RefExpr RefPure RefKinds RefMem RefSameP CmpPure CmpMem YtddmceldglelkaaW.PrintWords
theorem bytes_beq (a b:ByteArray):(a.toList==b.toList)=decide (a=b):=by
 rw[Lib.toList_data,Lib.toList_data,Bool.eq_iff_iff,beq_iff_eq,decide_eq_true_iff];constructor
 · intro h;cases a;cases b;congr 1;exact Array.toList_inj.1 h
 · intro h;rw[h]
structure CV (w0:World) (vB vT vD vC vI vL:Value) (x:CompT):Prop where
 bases:Vw Kd.string w0 vB x.bases
 body:PV w0 w0 vT vD vC vI vL x.body
theorem kComp_open {w:World} {x:CompT} {cs:List Value} (h:kComp.K w x cs):∃ vB vT vD vC vI vL,cs=[.string x.name,vB,vT,vD,vC,vI,vL,.int .i64 x.at_]∧CV w vB vT vD vC vI vL x:=by obtain⟨c0,c1,rfl,rfl,⟨c2,c3,rfl,⟨Ab,cb,rfl,lb,gb⟩,⟨c4,c5,rfl,h4,rfl⟩⟩⟩:=h;obtain⟨A1,d1,A2,d2,A3,d3,A4,d4,A5,d5,rfl,l1,g1,l2,g2,l3,g3,l4,g4,l5,g5⟩:=kProg_open h4;exact⟨_,_,_,_,_,_,rfl,⟨_,_,rfl,lb,gb⟩,⟨⟨_,_,rfl,l1,g1⟩,⟨_,_,rfl,l2,g2⟩,⟨_,_,rfl,l3,g3⟩,⟨_,_,rfl,l4,g4⟩,⟨_,_,rfl,l5,g5⟩⟩⟩
theorem findC_none {cs:List CompT} {nm:ByteArray} (i:Nat) (h1:findC (cs.drop i) nm=findC cs nm) (hi:cs.length≤i):findC cs nm=none:=by rw[← h1,List.drop_eq_nil_of_le hi];rfl
theorem findC_step {cs:List CompT} {nm:ByteArray} (i:Nat) (x:CompT) (h1:findC (cs.drop i) nm=findC cs nm) (hx:cs[i]?=some x):(x.name=nm→findC cs nm=some x)∧(¬x.name=nm→findC (cs.drop (i+1)) nm=findC cs nm):=by
 obtain⟨hi,rfl⟩:=Zq hx;rw[List.drop_eq_getElem_cons hi] at h1;unfold findC at h1 ⊢;rw[List.find?_cons] at h1;refine⟨fun e=>?_,fun e=>?_⟩
 · rw[Zl e] at h1;exact h1.symm
 · rw[Zm e] at h1;exact h1
theorem eq_any (w:World) (nm n2:ByteArray) (X:Nat) (A1 A2 A3 A4 A5 A6:Option Addr) (n1 m2 n3 n4 n5 n6 c1 c2 c3 c4 c5 c6:Nat) (at_:Int) (hX:w.cell? ⟨X,0,none⟩=some (.string n2)) (hlt:X<w.heap.size) :
    Calls Try.prog 64 #[.agg #[.string nm,.slice A1 n1 c1,.slice A2 m2 c2,.slice A3 n3 c3,.slice A4 n4 c4,.slice A5 n5 c5,.slice A6 n6 c6,.int .i64 at_],.pointer (some ⟨X,0,none⟩)] w fun e w'=>e=.returned (.bool (decide (nm=n2)))∧Below w.heap.size w w':=by
 have hbe:(nm.toList==n2.toList)=decide (nm=n2):=bytes_beq nm n2;go_enter Try.func64,Try.ntmps64;go_wp2;go_ret;exact⟨rfl,(Below.refl _ _).alloc (Zc _) _⟩
theorem comp_cells {w0 w:World} {A:Option Addr} {n c:Nat} {l:List CompT} (h:Vw (Kd.fixed kComp w0) w (.slice A n c) l) (i:Nat) (x:CompT) (hx:l[i]?=some x) :
    ∃ ad,A=some ad∧∃ vB vT vD vC vI vL,CV w0 vB vT vD vC vI vL x∧w.cell? (ad.add (i*8))=some (.string x.name)∧w.cell? ⟨(ad.add (i*8)).block,(ad.add (i*8)).off+1,none⟩=some vB∧w.cell? ⟨(ad.add (i*8)).block,(ad.add (i*8)).off+2,none⟩=some vT∧w.cell? ⟨(ad.add (i*8)).block,(ad.add (i*8)).off+3,none⟩=some vD∧w.cell? ⟨(ad.add (i*8)).block,(ad.add (i*8)).off+4,none⟩=some vC∧w.cell? ⟨(ad.add (i*8)).block,(ad.add (i*8)).off+5,none⟩=some vI∧w.cell? ⟨(ad.add (i*8)).block,(ad.add (i*8)).off+6,none⟩=some vL∧w.cell? ⟨(ad.add (i*8)).block,(ad.add (i*8)).off+7,none⟩=some (.int .i64 x.at_):=by
 obtain⟨ad,cs,hA,hK,hcell0⟩:=h.at_ i x hx;have hcell:∀ j u,cs[j]?=some u→w.cell? (ad.add (i*8+j))=some u:=hcell0;obtain⟨vB,vT,vD,vC,vI,vL,rfl,hv⟩:=kComp_open hK;refine⟨ad,hA,vB,vT,vD,vC,vI,vL,hv,hcell 0 _ rfl,?_,?_,?_,?_,?_,?_,?_⟩
 · rw[← ZN _ _ 1 (by omega)];exact hcell 1 _ rfl
 · rw[← ZN _ _ 2 (by omega)];exact hcell 2 _ rfl
 · rw[← ZN _ _ 3 (by omega)];exact hcell 3 _ rfl
 · rw[← ZN _ _ 4 (by omega)];exact hcell 4 _ rfl
 · rw[← ZN _ _ 5 (by omega)];exact hcell 5 _ rfl
 · rw[← ZN _ _ 6 (by omega)];exact hcell 6 _ rfl
 · rw[← ZN _ _ 7 (by omega)];exact hcell 7 _ rfl
theorem index_any (w0 w:World) (cs:List CompT) (nm:ByteArray) (A:Option Addr) (c X:Nat) (hv:Vw (Kd.fixed kComp w0) w (.slice A cs.length c) cs) (hX:w.cell? ⟨X,0,none⟩=some (.string nm)) (hlt:X<w.heap.size) :
    Calls Try.prog 63 #[.slice A cs.length c,.func (.func 64) #[] #[.pointer (some ⟨X,0,none⟩)]] w fun e w'=>((findC cs nm=none∧e=.returned (.int .i64 (-1)))∨∃ i x,cs[i]?=some x∧findC cs nm=some x∧e=.returned (.int .i64 ((i:Nat):Int)))∧Below w.heap.size w w':=by
 have HV:=Za hv;have HX:=Za hX;have HM:=Za hv.max;obtain⟨n,hn1⟩:∃ n,cs.length=n:=⟨_,rfl⟩;rw[hn1] at HV HM ⊢;have HN:=Za hn1;clear hv hX hn1;go_enter Try.func63,Try.ntmps63;go_wp2;go_loopg [5,8] (n+1) (fun g v5 v8 wr=>∃ i:Nat,v8=.int .i64 (i:Int)∧Hid (i≤n∧Below w.heap.size w wr∧n - i<g∧findC (cs.drop i) nm=findC cs nm))
 case atStart=>exact⟨0,rfl,Za ⟨Nat.zero_le _,Below.refl _ _,by omega,rfl⟩⟩
 case round=>
  obtain⟨i,rfl,HI⟩:=hrel;by_cases hi:i<n
  · have hib:decide (i<n)=true:=Zl hi;obtain⟨x,hx⟩:∃ t,cs[i]?=some t:=⟨cs[i]'(by rw[HN.out];exact hi),by simp⟩;obtain⟨ad,rfl,vB,vT,vD,vC,vI,vL,hcv,c0,c1,c2,c3,c4,c5,c6,c7⟩:=comp_cells (HV.out.below HI.out.2.1) i x hx;obtain⟨a1,b1,rfl⟩:=hcv.bases.slice;obtain⟨a2,b2,a3,b3,a4,b4,a5,b5,a6,b6,rfl,rfl,rfl,rfl,rfl⟩:=hcv.body.values;have HC:=Za (findC_step i x HI.out.2.2.2 hx);have HXX:=Za hx;have hXr:Hid (wr.cell? ⟨X,0,none⟩=some (.string nm)):=Za ((HI.out.2.1.cell (p:=⟨X,0,none⟩) hlt).trans HX.out);have HE:=Za (fun W (h:W.cell? ⟨X,0,none⟩=some (.string nm)) (hl:X<W.heap.size)=>eq_any W x.name nm X a1 a2 a3 a4 a5 a6 x.bases.length x.body.types.length x.body.decls.length x.body.comps.length x.body.inits.length x.body.clauses.length b1 b2 b3 b4 b5 b6 x.at_ h hl);clear hx hcv;have hi0:(0:Int)≤(i:Int):=(by omega);have hi1:(i:Int)<(n:Int):=(by omega);by_cases hnm:x.name=nm
    · rw[Zl hnm] at HE;have HNM:=Za hnm;clear hnm;go_wp2_with (first|(go_at_call 64;(with_reducible refine (HE.out _ hXr.out (Nat.lt_of_lt_of_le hlt HI.out.2.1.size)).mono ?_);rintro e w2 ⟨rfl,hb⟩))
      go_ret;exact⟨.inr ⟨i,x,HXX.out,HC.out.1 HNM.out,rfl⟩,HI.out.2.1.trans (hb.mono HI.out.2.1.size)⟩
    · rw[Zm hnm] at HE;have HNM:=Za hnm;clear hnm;go_wp2_with (first|(go_at_call 64;(with_reducible refine (HE.out _ hXr.out (Nat.lt_of_lt_of_le hlt HI.out.2.1.size)).mono ?_);rintro e w2 ⟨rfl,hb⟩))
      go_roundg (n - i)
      all_goals first
       | (have:=HI.out.2.2.1;omega)
       | exact⟨i+1,by rw[wrap_up i (Ze hi HM.out)],Za ⟨hi,HI.out.2.1.trans (hb.mono HI.out.2.1.size),by omega,HC.out.2 HNM.out⟩⟩
  · have hib:decide (i<n)=false:=Zm hi;go_wp2;go_ret;exact⟨.inl ⟨findC_none i HI.out.2.2.2 (by rw[HN.out];omega),rfl⟩,HI.out.2.1⟩
theorem s8_below {n:Nat} {w W:World} {X:Nat} {a0 a1 a2 a3 a4 a5 a6 a7:Value} (h:Below n w W) (hX:n≤X):Below n w (s8 W X a0 a1 a2 a3 a4 a5 a6 a7):=
 (((((((h.setCell (p:=⟨X,0,none⟩) hX _).setCell (p:=⟨X,1,none⟩) hX _).setCell (p:=⟨X,2,none⟩) hX _).setCell (p:=⟨X,3,none⟩) hX _).setCell (p:=⟨X,4,none⟩) hX _).setCell (p:=⟨X,5,none⟩) hX _).setCell (p:=⟨X,6,none⟩) hX _).setCell (p:=⟨X,7,none⟩) hX _
theorem below_in {w W w2:World} (h:Below w.heap.size w W) (k:Below W.heap.size W w2):Below w.heap.size w w2:=h.trans (k.mono h.size)
def FindPost (w0 w:World) (o:Option CompT) (e:Ending) (w':World):Prop:=
 Below w.heap.size w w'∧match o with
  | none=>e=.returned (.tuple #[.agg #[.string ⟨#[]⟩,.slice none 0 0,.slice none 0 0,.slice none 0 0,.slice none 0 0,.slice none 0 0,.slice none 0 0,.int .i64 0],.bool false])
  | some x=>∃ vB vT vD vC vI vL,e=.returned (.tuple #[.agg #[.string x.name,vB,vT,vD,vC,vI,vL,.int .i64 x.at_],.bool true])∧CV w0 vB vT vD vC vI vL x
theorem find_any (w0 w:World) (p:ProgT) (nm:ByteArray) (vT vD vC vI vL:Value) (hv:PV w0 w vT vD vC vI vL p) :
    Calls Try.prog 30 #[.agg #[vT,vD,vC,vI,vL],.string nm] w (FindPost w0 w (findC p.comps nm)):=by
 obtain⟨A1,c1,A2,c2,A3,c3,A4,c4,A5,c5,rfl,rfl,rfl,rfl,rfl⟩:=hv.values;have HV:=Za hv.c;have HIX:=Za (fun W (h:Vw (Kd.fixed kComp w0) W (.slice A3 p.comps.length c3) p.comps) X hX hl=>index_any w0 W p.comps nm A3 c3 X h hX hl);clear hv;have HIW:=Za (fun (o1 o3:Obj)=>HIX.out (((w.alloc o1).alloc (.cells #[.string nm] 9)).alloc o3) (HV.out.below (below3 _ _ _ _)) (w.heap.size+1) (((blk_new1 w o1 9 #[.string nm]).alloc o3).cell 0) ((blk_new1 w o1 9 #[.string nm]).alloc o3).lt);cases hf:findC p.comps nm with
 | none=>
   rw[hf] at HIW;clear hf;go_enter Try.func30,Try.ntmps30;go_wp2_with (first|(go_at_call 63;(with_reducible refine (HIW.out _ _).mono ?_);rintro e w2 ⟨hd,hb⟩;(obtain rfl:e=.returned (.int .i64 (-1)):=by rcases hd with ⟨_,hd⟩|⟨i,x,_,hd,_⟩;exact hd;cases hd);clear hd;have hbx:=(blk_new2 w _ _ _ _).below hb (blk_new2 w _ _ _ _).lt;have HBX:=Za hbx;have HB:=Za hb;have qc:=s8_cells hbx;have qf:=s8_frozen hbx;clear hb hbx))
   refine bodyPost_ret (results_ct rfl _ _ (w.heap.size+1+1) 42 #[.string ⟨#[]⟩,.slice none 0 0,.slice none 0 0,.slice none 0 0,.slice none 0 0,.slice none 0 0,.slice none 0 0,.int .i64 0] (0,0) _ rfl ?_ Try.underlying42 rfl (by kernel_rfl)) rfl ?_
   · exact s8_blk HBX.out
   · exact⟨s8_below (below_in (below3 _ _ _ _) HB.out) (by omega),rfl⟩
 | some x=>
   rw[hf] at HIW;clear hf;go_enter Try.func30,Try.ntmps30;go_wp2_with (first|(go_at_call 63;(with_reducible refine (HIW.out _ _).mono ?_);rintro e w2 ⟨hd,hb⟩;go_loud ((obtain⟨i,hx,rfl⟩:∃ i:Nat,p.comps[i]?=some x∧e=.returned (.int .i64 (i:Int)):=by rcases hd with ⟨hd,_⟩|⟨i,y,h1,h2,h3⟩;cases hd;injection h2 with h2;exact⟨i,h2▸h1,h3⟩);clear hd;have hbx:=(blk_new2 w _ _ _ _).below hb (blk_new2 w _ _ _ _).lt;have HBX:=Za hbx;have HB:=Za hb;have qc:=s8_cells hbx;have qf:=s8_frozen hbx;have hpb:=Za ((((Blk.new w _ _).alloc _).alloc _).below hb (((Blk.new w _ _).alloc _).alloc _).lt);obtain⟨qp,qp1,qp2,qp3,qp4⟩:=Zt hpb.out;clear qp qp1 qp3 qp4;have hxs:=HV.out.below (below_in (below3 _ _ _ _) hb);obtain⟨ad,rfl,vB,vT,vD,vC,vI,vL,hcv,c0,c1,c2,c3,c4,c5,c6,c7⟩:=comp_cells hxs i x hx;obtain⟨a1,b1,e1⟩:=hcv.bases.slice;subst e1;obtain⟨a2,b2,a3,b3,a4,b4,a5,b5,a6,b6,rfl,rfl,rfl,rfl,rfl⟩:=hcv.body.values;have HCV:=Za hcv;have hi0:(0:Int)≤(i:Int):=(by omega);have hi1:(i:Int)<((p.comps.length:Nat):Int):=(by have:=(Zq hx).1;omega);have hi2:decide ((i:Int)<0)=false:=Zm (by omega);clear hb hbx hx hcv hxs)))
   refine bodyPost_ret (results_ct rfl _ _ (w.heap.size+1+1) 42 #[.string x.name,.slice a1 x.bases.length b1,.slice a2 x.body.types.length b2,.slice a3 x.body.decls.length b3,.slice a4 x.body.comps.length b4,.slice a5 x.body.inits.length b5,.slice a6 x.body.clauses.length b6,.int .i64 x.at_] (0,0) _ rfl ?_ Try.underlying42 rfl (by kernel_rfl)) rfl ?_
   · exact s8_blk HBX.out
   · exact⟨s8_below (below_in (below3 _ _ _ _) HB.out) (by omega),_,_,_,_,_,_,rfl,HCV.out⟩
end CmpFind
namespace CmpRule
open Go Go.RowKit RefPure RefKinds RefMem RefSameP CmpPure CmpMem CmpKinds CmpFind CmpName CmpClause RefExpr RefCells YtddmceldglelkaaW.PrintWords
theorem clause_any (w0 w:World) (g G n c base:Nat) (ok:Nat→Prop) (l:List (ClauseT×Bool)) (i:Nat) (x:ClauseT) (vT vD vC vI vL oT oD oC oI oL:Value) (why at_ made:Int) (mb m:Nat) (own:List ByteArray) (pre:ByteArray) (h:CSt w0 w g G n c base ok l i x vT vD vC vI vL oT oD oC oI oL why at_ made mb m own pre) :
    Calls Try.prog 78 #[.pointer (some ⟨g,0,none⟩),.agg #[.string pre,.map (some mb)],.pointer (some ⟨G,i*5,none⟩)] w (ClausePost w0 w g G n c base ok l i (clauseS pre own x)):=by
 unfold clauseS atomS;cases hn:nameS pre own x.head.rel with
 | none=>exact clause_head w0 w g G n c base ok l i x vT vD vC vI vL oT oD oC oI oL why at_ made mb m own pre h hn
 | some n1=>exact clause_go w0 w g G n c base ok l i x vT vD vC vI vL oT oD oC oI oL why at_ made mb m own pre h n1 hn _ rfl
theorem twice_at {cs:List CompT} {met:List ByteArray} {i:Nat} {x:CompT} (hx:cs[i]?=some x):twice (cs.drop i) met=if hasS met x.name=true then some (11,x.at_) else twice (cs.drop (i+1)) (x.name :: met):=by obtain⟨hi,rfl⟩:=Zq hx;rw[List.drop_eq_getElem_cons hi,twice]
theorem inner_at {cs:List CompT} {i:Nat} {x:CompT} (hx:cs[i]?=some x):inner (cs.drop i)=match x.body.types with
    | t :: _=>some (1,t.at_)
    | []=>match x.body.comps with
      | d :: _=>some (1,d.at_)
      | []=>inner (cs.drop (i+1)):=by
 obtain⟨hi,rfl⟩:=Zq hx;rw[List.drop_eq_getElem_cons hi,inner];rfl
theorem cell_lt {w:World} {p:Addr} {v:Value} (h:w.cell? p=some v):p.block<w.heap.size:=by
 rcases Nat.lt_or_ge p.block w.heap.size with q|q
 · exact q
 · simp[World.cell?,Array.getElem?_eq_none q] at h
theorem tdecl_at {w0 w:World} {A:Option Addr} {n c:Nat} {l:List TDecl} (h:Vw (Kd.fixed kTDecl w0) w (.slice A n c) l) (x:TDecl) (hx:l[0]?=some x):∃ ad,A=some ad∧w.cell? ⟨ad.block,ad.off+3,none⟩=some (.int .i64 x.at_):=by obtain⟨ad,cs,hA,hK,hcell0⟩:=h.at_ 0 x hx;have hcell:∀ j u,cs[j]?=some u→w.cell? (ad.add (0*4+j))=some u:=hcell0;obtain⟨A2,c2,rfl,_⟩:=kTDecl_open hK;refine⟨ad,hA,?_⟩;have:=hcell 3 _ rfl;exact this
theorem comp_at0 {w0 w:World} {A:Option Addr} {n c:Nat} {l:List CompT} (h:Vw (Kd.fixed kComp w0) w (.slice A n c) l) (x:CompT) (hx:l[0]?=some x):∃ ad,A=some ad∧w.cell? ⟨ad.block,ad.off+7,none⟩=some (.int .i64 x.at_):=by obtain⟨ad,hA,vB,yT,yD,yC,yI,yL,_,_,_,_,_,_,_,_,c7⟩:=comp_cells h 0 x hx;refine⟨ad,hA,?_⟩;rw[Nat.zero_mul] at c7;exact c7
def RulesPost (w0 w:World) (g:Nat) (o:Option (Int×Int)) (e:Ending) (w':World):Prop:=
 match o with
 | some z=>FailPost (fun k=>k=g) g z.1 z.2 w e w'
 | none=>e=.returned (.bool true)∧Below w.heap.size w w'
theorem rules_any (w0 w:World) (g:Nat) (vT vD vC vI vL oT oD oC oI oL:Value) (p:ProgT) (hb:Below w0.heap.size w0 w) (hv:PV w0 w0 vT vD vC vI vL p) (hs:CmpSize.Small p) (hf:Fl w g vT vD vC vI vL oT oD oC oI oL 0 0 0) :
    Calls Try.prog 21 #[.pointer (some ⟨g,0,none⟩)] w (RulesPost w0 w g (rulesS p.comps)):=by
 have HB:=Za hb;have HV:=Za hv.c;have HF:=Za hf;have HS:=Za hs;obtain⟨A,cc,rfl⟩:=hv.c.slice;have q2:=Blk.cell hf 2;simp only[List.getElem?_toArray,List.getElem?_cons_zero,List.getElem?_cons_succ] at q2;have lg:=Blk.lt hf;obtain⟨n,hn⟩:∃ n,p.comps.length=n:=⟨_,rfl⟩;have HN:=Za hn;clear hb hv hs hf;have hmk:∀ W:World,(Instr.makeMap 85 none).run Try.prog W=.ok (.map (some W.heap.size)) (W.alloc (.map #[] 0)):=fun W=>(by kernel_rfl);simp only[hn] at q2 HV ⊢;clear hn;go_enter Try.func21,Try.ntmps21;go_wp2;have HM0:Hid (CmpMap.Met (w.alloc (.map #[] 0)) w.heap.size 0 []):=Za (CmpMap.Met.made w);have HSZ:Hid (n≤1048576):=Za (by have:=HS.out.body.many;unfold manyP at this;have:=HN.out;omega);go_loopg [15] (n+1) (fun gk v15 wr=>∃ i:Nat,v15=.int .i64 (i:Int)∧∃ met,Hid (i≤n∧n - i<gk∧CmpMap.Met wr w.heap.size i met∧Below w.heap.size w wr∧w.heap.size<wr.heap.size∧twice p.comps []=twice (p.comps.drop i) met))
 case atStart=>exact⟨0,rfl,[],Za ⟨Nat.zero_le _,by omega,HM0.out,below1 _ _,by rw[size1];omega,rfl⟩⟩
 case round=>
  obtain⟨i,rfl,met,HI⟩:=hrel;by_cases hi:i<n
  · have hib:decide (i<n)=true:=Zl hi;obtain⟨x,hx⟩:∃ t,p.comps[i]?=some t:=⟨p.comps[i]'(by rw[HN.out];exact hi),by simp⟩;obtain⟨ad,rfl,vB,yT,yD,yC,yI,yL,hcv,c0,c1,c2,c3,c4,c5,c6,c7⟩:=comp_cells (HV.out.below (HB.out.trans (HI.out.2.2.2.1.mono HB.out.size))) i x hx;obtain⟨a1,b1,rfl⟩:=hcv.bases.slice;obtain⟨a2,b2,a3,b3,a4,b4,a5,b5,a6,b6,rfl,rfl,rfl,rfl,rfl⟩:=hcv.body.values;have HCV:=Za hcv;have hi0:(0:Int)≤(i:Int):=(by omega);have hi1:(i:Int)<(n:Int):=(by omega);have hxs:=HS.out.comps x (List.mem_of_getElem? hx);have hns:x.name.size≤maxLen:=Ze hxs.name (by decide);have HTW:=Za (twice_at (met:=met) hx);have HX:=Za hx;have hlk:=fun o:Obj=>(HI.out.2.2.1.alloc o).get hns;obtain⟨w3,hput,hmet3,hgr3⟩:=(HI.out.2.2.1.alloc (.cells #[.string x.name,.slice a1 x.bases.length b1,.slice a2 x.body.types.length b2,.slice a3 x.body.decls.length b3,.slice a4 x.body.comps.length b4,.slice a5 x.body.inits.length b5,.slice a6 x.body.clauses.length b6,.int .i64 x.at_] 42)).put (by have:=HSZ.out;have:(1048576:Nat)<maxLen:=(by decide);omega) hns;have HM3:=Za hmet3;have HG3:=Za hgr3;clear hx hcv hmet3 hgr3 hns hxs;cases hh:hasS met x.name with
    | true=>
      rw[hh] at hlk;have HFA:=Za (fun o:Obj=>fail_any (wr.alloc o) g _ _ _ _ _ _ _ _ _ _ _ _ _ 11 x.at_ ((Fl.below HF.out HI.out.2.2.2.1).below (below1 _ o)));have HR:Hid (rulesS p.comps=some (11,x.at_)):=Za (by unfold rulesS;rw[HI.out.2.2.2.2.2,HTW.out,if_pos hh]);clear hh hput;go_wp2_with (first|(go_at_call 55;(with_reducible refine (HFA.out _).mono ?_);rintro e w4 ⟨rfl,hk,h10,h11⟩;have HK:=Za hk;have H10:=Za h10;have H11:=Za h11;clear hk h10 h11))
      go_ret;unfold RulesPost;rw[HR.out];exact⟨rfl,(Kp.of_below _ (HI.out.2.2.2.1.trans ((below1 _ _).mono HI.out.2.2.2.1.size))).trans HK.out (fun _ _ q=>q),H10.out,H11.out⟩
    | false=>
      rw[hh] at hlk;have HR:Hid (twice p.comps []=twice (p.comps.drop (i+1)) (x.name :: met)):=Za (by rw[HI.out.2.2.2.2.2,HTW.out,if_neg (by rw[hh];simp)]);clear hh;go_wp2;go_roundg (n - i)
      all_goals first
       | (have:=HI.out.2.1;omega)
       | exact⟨i+1,by rw[wrap_up i (by have:=HSZ.out;omega)],x.name :: met,Za ⟨hi,by omega,HM3.out,((HI.out.2.2.2.1.trans ((below1 _ _).mono HI.out.2.2.2.1.size)).grown HG3.out (Ze HI.out.2.2.2.1.size (below1 _ _).size) (fun k e=>by injection e with e;omega)),Nat.lt_of_lt_of_le HI.out.2.2.2.2.1 (Ze (below1 _ _).size HG3.out.size),HR.out⟩⟩
  · have hib:decide (i<n)=false:=Zm hi;have HT:Hid (twice p.comps []=none):=Za (by rw[HI.out.2.2.2.2.2,List.drop_eq_nil_of_le (by have:=HN.out;omega)];rfl);have q2r:wr.cell? ⟨g,2,none⟩=some (.slice A n cc):=(HI.out.2.2.2.1.cell (p:=⟨g,2,none⟩) lg).trans q2;have HBR:=Za HI.out.2.2.2.1;clear HI hi HM0;go_wp2;go_loopg [37] (n+1) (fun gk v37 wr=>∃ j:Nat,v37=.int .i64 (j:Int)∧Hid (j≤n∧n - j<gk∧Below w.heap.size w wr∧inner p.comps=inner (p.comps.drop j)))
    case atStart=>exact⟨0,rfl,Za ⟨Nat.zero_le _,by omega,HBR.out,rfl⟩⟩
    case round=>
     obtain⟨j,rfl,HJ⟩:=hrel;by_cases hj:j<n
     · have hib2:decide (j<n)=true:=Zl hj;obtain⟨x,hx⟩:∃ t,p.comps[j]?=some t:=⟨p.comps[j]'(by rw[HN.out];exact hj),by simp⟩;obtain⟨ad,rfl,vB,yT,yD,yC,yI,yL,hcv,c0,c1,c2,c3,c4,c5,c6,c7⟩:=comp_cells (HV.out.below (HB.out.trans (HJ.out.2.2.1.mono HB.out.size))) j x hx;obtain⟨a1,b1,rfl⟩:=hcv.bases.slice;obtain⟨a2,b2,a3,b3,a4,b4,a5,b5,a6,b6,rfl,rfl,rfl,rfl,rfl⟩:=hcv.body.values;have HCV:=Za hcv;have hi0:(0:Int)≤(j:Int):=(by omega);have hi1:(j:Int)<(n:Int):=(by omega);have hxs:=HS.out.comps x (List.mem_of_getElem? hx);have HIN:=Za (inner_at hx);have HFA:=Za (fun (o:Obj) (z:Int)=>fail_any (wr.alloc o) g _ _ _ _ _ _ _ _ _ _ _ _ _ 1 z ((Fl.below HF.out HJ.out.2.2.1).below (below1 _ o)));clear hx hxs;cases ht:x.body.types with
       | cons t lt=>
         have hlen:x.body.types.length=lt.length+1:=(by rw[ht];rfl);obtain⟨at_,e2,q5⟩:=tdecl_at (hcv.body.t.below (HB.out.trans (HJ.out.2.2.1.mono HB.out.size))) t (by rw[ht];rfl);subst e2;have lt5:=cell_lt q5;have HR:Hid (rulesS p.comps=some (1,t.at_)):=Za (by unfold rulesS;rw[HT.out,HJ.out.2.2.2,HIN.out,ht]);obtain⟨m,hm⟩:∃ m,x.body.types.length=m:=⟨_,rfl⟩;have hm0:decide ((0:Int)<(m:Int))=true:=Zl (by omega);have hm1:(0:Int)<(m:Int):=(by omega);simp only[hm] at c2;clear hcv ht hlen hm;go_wp2_with (first|(go_at_call 55;(with_reducible refine (HFA.out _ _).mono ?_);rintro e w4 ⟨rfl,hk,h10,h11⟩;have HK:=Za hk;have H10:=Za h10;have H11:=Za h11;clear hk h10 h11))
         go_ret;unfold RulesPost;rw[HR.out];exact⟨rfl,(Kp.of_below _ (HJ.out.2.2.1.trans ((below1 _ _).mono HJ.out.2.2.1.size))).trans HK.out (fun _ _ q=>q),H10.out,H11.out⟩
       | nil=>
         have hlen:x.body.types.length=0:=(by rw[ht];rfl);simp only[hlen] at c2;cases hc:x.body.comps with
         | cons t lt=>
           have hlen2:x.body.comps.length=lt.length+1:=(by rw[hc];rfl);obtain⟨at_,e2,q5⟩:=comp_at0 (hcv.body.c.below (HB.out.trans (HJ.out.2.2.1.mono HB.out.size))) t (by rw[hc];rfl);subst e2;have lt5:=cell_lt q5;have HR:Hid (rulesS p.comps=some (1,t.at_)):=Za (by unfold rulesS;rw[HT.out,HJ.out.2.2.2,HIN.out,ht,hc]);obtain⟨m,hm⟩:∃ m,x.body.comps.length=m:=⟨_,rfl⟩;have hm0:decide ((0:Int)<(m:Int))=true:=Zl (by omega);have hm1:(0:Int)<(m:Int):=(by omega);simp only[hm] at c4;clear hcv ht hc hlen hlen2 hm;go_wp2_with (first|(go_at_call 55;(with_reducible refine (HFA.out _ _).mono ?_);rintro e w4 ⟨rfl,hk,h10,h11⟩;have HK:=Za hk;have H10:=Za h10;have H11:=Za h11;clear hk h10 h11))
           go_ret;unfold RulesPost;rw[HR.out];exact⟨rfl,(Kp.of_below _ (HJ.out.2.2.1.trans ((below1 _ _).mono HJ.out.2.2.1.size))).trans HK.out (fun _ _ q=>q),H10.out,H11.out⟩
         | nil=>
           have hlen2:x.body.comps.length=0:=(by rw[hc];rfl);simp only[hlen2] at c4;have HR:Hid (inner p.comps=inner (p.comps.drop (j+1))):=Za (by rw[HJ.out.2.2.2,HIN.out,ht,hc]);clear hcv ht hc hlen hlen2;go_wp2;go_roundg (n - j)
           all_goals first
            | (have:=HJ.out.2.1;omega)
            | exact⟨j+1,by rw[wrap_up j (by have:=HSZ.out;omega)],Za ⟨hj,by omega,HJ.out.2.2.1.trans ((below1 _ _).mono HJ.out.2.2.1.size),HR.out⟩⟩
     · have hib2:decide (j<n)=false:=Zm hj;have HR:Hid (rulesS p.comps=none):=Za (by unfold rulesS;rw[HT.out,HJ.out.2.2.2,List.drop_eq_nil_of_le (by have:=HN.out;omega)];rfl);go_wp2;go_ret;unfold RulesPost;rw[HR.out];exact⟨rfl,HJ.out.2.2.1⟩
end CmpRule
namespace CmpAdd
open Go Go.RowKit RefPure RefKinds RefMem RefSameP CmpPure CmpMem YtddmceldglelkaaW.PrintWords
theorem sum5 {n1 n2 n3 n4 n5:Nat} (h:n1+n2+n3+n4+n5≤4611686018427387904):wrap64 (wrap64 (wrap64 (wrap64 (↑n1+↑n2)+↑n3)+↑n4)+↑n5)=((n1+n2+n3+n4+n5:Nat):Int):=by have e1:wrap64 ((n1:Int)+n2)=(n1:Int)+n2:=NumPure.wrap_in (by unfold NumPure.In;omega);have e2:wrap64 ((n1:Int)+n2+n3)=(n1:Int)+n2+n3:=NumPure.wrap_in (by unfold NumPure.In;omega);have e3:wrap64 ((n1:Int)+n2+n3+n4)=(n1:Int)+n2+n3+n4:=NumPure.wrap_in (by unfold NumPure.In;omega);have e4:wrap64 ((n1:Int)+n2+n3+n4+n5)=(n1:Int)+n2+n3+n4+n5:=NumPure.wrap_in (by unfold NumPure.In;omega);rw[e1,e2,e3,e4];omega
theorem many_any (w:World) (A1 A2 A3 A4 A5:Option Addr) (n1 n2 n3 n4 n5 c1 c2 c3 c4 c5:Nat) (h:n1+n2+n3+n4+n5≤4611686018427387904):Calls Try.prog 65 #[.agg #[.slice A1 n1 c1,.slice A2 n2 c2,.slice A3 n3 c3,.slice A4 n4 c4,.slice A5 n5 c5]] w fun e w'=>e=.returned (.int .i64 ((n1+n2+n3+n4+n5:Nat):Int))∧Below w.heap.size w w':=by have H:=Za h;clear h;go_enter Try.func65,Try.ntmps65;go_wp2;go_ret;exact⟨congrArg Ending.returned (congrArg (Value.int .i64) (sum5 H.out)),(Below.refl _ _).alloc (Zc _) _⟩
theorem h_own {w0 w:World} {n0:Nat} {vT vD vC vI vL:Value} {p:ProgT} (h:FRows w0 w n0 vT vD vC vI vL p):∀ o∈[vT,vD,vC,vI,vL],∀ k,o.ownBlock=some k→k<w.heap.size∧n0≤k:=fun o ho k e=>⟨Nat.lt_of_not_le (fun hk=>h.newer k hk o ho e),h.own o ho k e⟩
structure ASt (w0 w W:World) (n0 g:Nat) (U:List Value) (b1 b2 b3 b4 b5 u1 u2 u3 u4 u5:Value) (p:ProgT):Prop where
 rows:FRows w0 W n0 u1 u2 u3 u4 u5 p
 blk:Blk W g 28 #[u1,u2,u3,u4,u5]
 kp:Kp (fun k=>k=g∨∃ o∈U,o.ownBlock=some k) w W
 own:∀ o∈U,∀ k,o.ownBlock=some k→k<w.heap.size∧n0≤k
 lt:g<n0∧n0≤w.heap.size
 box:Blk W w.heap.size 28 #[b1,b2,b3,b4,b5]
section
variable {w0 w W w1:World} {n0 g:Nat} {U:List Value} {b1 b2 b3 b4 b5 u1 u2 u3 u4 u5 v1:Value} {p:ProgT}
theorem ASt.cells (h:ASt w0 w W n0 g U b1 b2 b3 b4 b5 u1 u2 u3 u4 u5 p):W.cell? ⟨g,0,none⟩=some u1∧W.cell? ⟨g,1,none⟩=some u2∧W.cell? ⟨g,2,none⟩=some u3∧W.cell? ⟨g,3,none⟩=some u4∧W.cell? ⟨g,4,none⟩=some u5:=⟨h.blk.cell 0,h.blk.cell 1,h.blk.cell 2,h.blk.cell 3,h.blk.cell 4⟩
theorem ASt.boxes (h:ASt w0 w W n0 g U b1 b2 b3 b4 b5 u1 u2 u3 u4 u5 p):W.cell? ⟨w.heap.size,0,none⟩=some b1∧W.cell? ⟨w.heap.size,1,none⟩=some b2∧W.cell? ⟨w.heap.size,2,none⟩=some b3∧W.cell? ⟨w.heap.size,3,none⟩=some b4∧W.cell? ⟨w.heap.size,4,none⟩=some b5:=⟨h.box.cell 0,h.box.cell 1,h.box.cell 2,h.box.cell 3,h.box.cell 4⟩
theorem ASt.frozen (h:ASt w0 w W n0 g U b1 b2 b3 b4 b5 u1 u2 u3 u4 u5 p):W.frozen? ⟨g,0,none⟩=false∧W.frozen? ⟨g,1,none⟩=false∧W.frozen? ⟨g,2,none⟩=false∧W.frozen? ⟨g,3,none⟩=false∧W.frozen? ⟨g,4,none⟩=false:=⟨h.blk.frozen 0,h.blk.frozen 1,h.blk.frozen 2,h.blk.frozen 3,h.blk.frozen 4⟩
theorem ASt.size (h:ASt w0 w W n0 g U b1 b2 b3 b4 b5 u1 u2 u3 u4 u5 p):n0≤W.heap.size:=Ze h.lt.2 h.kp.size
theorem ASt.ltg (h:ASt w0 w W n0 g U b1 b2 b3 b4 b5 u1 u2 u3 u4 u5 p):g<W.heap.size:=h.blk.lt
theorem ASt.drew (h:ASt w0 w W n0 g U b1 b2 b3 b4 b5 u1 u2 u3 u4 u5 p):ASt w0 w W.drew n0 g U b1 b2 b3 b4 b5 u1 u2 u3 u4 u5 p:=⟨⟨h.rows.t,h.rows.d,h.rows.c,h.rows.i,h.rows.l⟩,h.blk,h.kp.drew,h.own,h.lt,h.box⟩
theorem ASt.t (h:ASt w0 w W n0 g U b1 b2 b3 b4 b5 u1 u2 u3 u4 u5 p) (hu:u1∈U) {xs:List _} (h1:(Kd.fixed kTDecl w0).R 73 w1 n0 (Off n0 [u2,u3,u4,u5]) v1 (p.types++xs)) (hg:W.grownBy w1 u1.ownBlock) (ha:v1.ownBlock=u1.ownBlock∨∃ b,v1.ownBlock=some b∧W.heap.size≤b):ASt w0 w (w1.setCell ⟨g,0,none⟩ v1) n0 g U b1 b2 b3 b4 b5 v1 u2 u3 u4 u5 ⟨p.types++xs,p.decls,p.comps,p.inits,p.clauses⟩:=by have hne:u1.ownBlock≠some g:=fun e=>(by have:=(h.own u1 hu g e).2;have:=h.lt.1;omega);have hK:Kp (fun k=>k=g∨∃ o∈U,o.ownBlock=some k) w w1:=h.kp.then_grown hg (fun b e _=>.inr ⟨u1,hu,e⟩);have hG:Kp (fun k=>k=g) w1 (w1.setCell ⟨g,0,none⟩ v1):=(Kp.refl (fun k=>k=g) _).set (fun _=>rfl) _ _;have hx:some w.heap.size≠u1.ownBlock:=fun e=>(by have:=(h.own u1 hu _ e.symm).1;omega);have q:∀ (os:List Value) (b:Nat),Off n0 os b→b<w1.heap.size→¬b=g:=fun os b hb _ e=>(by have:=hb.1;have:=h.lt.1;omega);exact⟨⟨hG.R h1 (q _),hG.R (off_next h.rows.d (v:=u1) (by simp) hg ha (by simp)) (q _),hG.R (off_next h.rows.c (v:=u1) (by simp) hg ha (by simp)) (q _),hG.R (off_next h.rows.i (v:=u1) (by simp) hg ha (by simp)) (q _),hG.R (off_next h.rows.l (v:=u1) (by simp) hg ha (by simp)) (q _)⟩,(h.blk.grown hg (Ne.symm hne)).set_ 0 v1,hK.trans hG (fun _ _ e=>.inl e),h.own,h.lt,(h.box.grown hg hx).far (p:=⟨g,0,none⟩) (fun e=>by have e2:w.heap.size=g:=e;have:=h.lt;omega) v1⟩
theorem ASt.d (h:ASt w0 w W n0 g U b1 b2 b3 b4 b5 u1 u2 u3 u4 u5 p) (hu:u2∈U) {xs:List _} (h1:(Kd.fixed kDecl w0).R 46 w1 n0 (Off n0 [u1,u3,u4,u5]) v1 (p.decls++xs)) (hg:W.grownBy w1 u2.ownBlock) (ha:v1.ownBlock=u2.ownBlock∨∃ b,v1.ownBlock=some b∧W.heap.size≤b):ASt w0 w (w1.setCell ⟨g,1,none⟩ v1) n0 g U b1 b2 b3 b4 b5 u1 v1 u3 u4 u5 ⟨p.types,p.decls++xs,p.comps,p.inits,p.clauses⟩:=by have hne:u2.ownBlock≠some g:=fun e=>(by have:=(h.own u2 hu g e).2;have:=h.lt.1;omega);have hK:Kp (fun k=>k=g∨∃ o∈U,o.ownBlock=some k) w w1:=h.kp.then_grown hg (fun b e _=>.inr ⟨u2,hu,e⟩);have hG:Kp (fun k=>k=g) w1 (w1.setCell ⟨g,1,none⟩ v1):=(Kp.refl (fun k=>k=g) _).set (fun _=>rfl) _ _;have hx:some w.heap.size≠u2.ownBlock:=fun e=>(by have:=(h.own u2 hu _ e.symm).1;omega);have q:∀ (os:List Value) (b:Nat),Off n0 os b→b<w1.heap.size→¬b=g:=fun os b hb _ e=>(by have:=hb.1;have:=h.lt.1;omega);exact⟨⟨hG.R (off_next h.rows.t (v:=u2) (by simp) hg ha (by simp)) (q _),hG.R h1 (q _),hG.R (off_next h.rows.c (v:=u2) (by simp) hg ha (by simp)) (q _),hG.R (off_next h.rows.i (v:=u2) (by simp) hg ha (by simp)) (q _),hG.R (off_next h.rows.l (v:=u2) (by simp) hg ha (by simp)) (q _)⟩,(h.blk.grown hg (Ne.symm hne)).set_ 1 v1,hK.trans hG (fun _ _ e=>.inl e),h.own,h.lt,(h.box.grown hg hx).far (p:=⟨g,1,none⟩) (fun e=>by have e2:w.heap.size=g:=e;have:=h.lt;omega) v1⟩
theorem ASt.c (h:ASt w0 w W n0 g U b1 b2 b3 b4 b5 u1 u2 u3 u4 u5 p) (hu:u3∈U) {xs:List _} (h1:(Kd.fixed kComp w0).R 42 w1 n0 (Off n0 [u1,u2,u4,u5]) v1 (p.comps++xs)) (hg:W.grownBy w1 u3.ownBlock) (ha:v1.ownBlock=u3.ownBlock∨∃ b,v1.ownBlock=some b∧W.heap.size≤b):ASt w0 w (w1.setCell ⟨g,2,none⟩ v1) n0 g U b1 b2 b3 b4 b5 u1 u2 v1 u4 u5 ⟨p.types,p.decls,p.comps++xs,p.inits,p.clauses⟩:=by have hne:u3.ownBlock≠some g:=fun e=>(by have:=(h.own u3 hu g e).2;have:=h.lt.1;omega);have hK:Kp (fun k=>k=g∨∃ o∈U,o.ownBlock=some k) w w1:=h.kp.then_grown hg (fun b e _=>.inr ⟨u3,hu,e⟩);have hG:Kp (fun k=>k=g) w1 (w1.setCell ⟨g,2,none⟩ v1):=(Kp.refl (fun k=>k=g) _).set (fun _=>rfl) _ _;have hx:some w.heap.size≠u3.ownBlock:=fun e=>(by have:=(h.own u3 hu _ e.symm).1;omega);have q:∀ (os:List Value) (b:Nat),Off n0 os b→b<w1.heap.size→¬b=g:=fun os b hb _ e=>(by have:=hb.1;have:=h.lt.1;omega);exact⟨⟨hG.R (off_next h.rows.t (v:=u3) (by simp) hg ha (by simp)) (q _),hG.R (off_next h.rows.d (v:=u3) (by simp) hg ha (by simp)) (q _),hG.R h1 (q _),hG.R (off_next h.rows.i (v:=u3) (by simp) hg ha (by simp)) (q _),hG.R (off_next h.rows.l (v:=u3) (by simp) hg ha (by simp)) (q _)⟩,(h.blk.grown hg (Ne.symm hne)).set_ 2 v1,hK.trans hG (fun _ _ e=>.inl e),h.own,h.lt,(h.box.grown hg hx).far (p:=⟨g,2,none⟩) (fun e=>by have e2:w.heap.size=g:=e;have:=h.lt;omega) v1⟩
theorem ASt.i (h:ASt w0 w W n0 g U b1 b2 b3 b4 b5 u1 u2 u3 u4 u5 p) (hu:u4∈U) {xs:List _} (h1:(Kd.fixed kInit w0).R 48 w1 n0 (Off n0 [u1,u2,u3,u5]) v1 (p.inits++xs)) (hg:W.grownBy w1 u4.ownBlock) (ha:v1.ownBlock=u4.ownBlock∨∃ b,v1.ownBlock=some b∧W.heap.size≤b):ASt w0 w (w1.setCell ⟨g,3,none⟩ v1) n0 g U b1 b2 b3 b4 b5 u1 u2 u3 v1 u5 ⟨p.types,p.decls,p.comps,p.inits++xs,p.clauses⟩:=by have hne:u4.ownBlock≠some g:=fun e=>(by have:=(h.own u4 hu g e).2;have:=h.lt.1;omega);have hK:Kp (fun k=>k=g∨∃ o∈U,o.ownBlock=some k) w w1:=h.kp.then_grown hg (fun b e _=>.inr ⟨u4,hu,e⟩);have hG:Kp (fun k=>k=g) w1 (w1.setCell ⟨g,3,none⟩ v1):=(Kp.refl (fun k=>k=g) _).set (fun _=>rfl) _ _;have hx:some w.heap.size≠u4.ownBlock:=fun e=>(by have:=(h.own u4 hu _ e.symm).1;omega);have q:∀ (os:List Value) (b:Nat),Off n0 os b→b<w1.heap.size→¬b=g:=fun os b hb _ e=>(by have:=hb.1;have:=h.lt.1;omega);exact⟨⟨hG.R (off_next h.rows.t (v:=u4) (by simp) hg ha (by simp)) (q _),hG.R (off_next h.rows.d (v:=u4) (by simp) hg ha (by simp)) (q _),hG.R (off_next h.rows.c (v:=u4) (by simp) hg ha (by simp)) (q _),hG.R h1 (q _),hG.R (off_next h.rows.l (v:=u4) (by simp) hg ha (by simp)) (q _)⟩,(h.blk.grown hg (Ne.symm hne)).set_ 3 v1,hK.trans hG (fun _ _ e=>.inl e),h.own,h.lt,(h.box.grown hg hx).far (p:=⟨g,3,none⟩) (fun e=>by have e2:w.heap.size=g:=e;have:=h.lt;omega) v1⟩
theorem ASt.l (h:ASt w0 w W n0 g U b1 b2 b3 b4 b5 u1 u2 u3 u4 u5 p) (hu:u5∈U) {xs:List _} (h1:(Kd.fixed kClause w0).R 54 w1 n0 (Off n0 [u1,u2,u3,u4]) v1 (p.clauses++xs)) (hg:W.grownBy w1 u5.ownBlock) (ha:v1.ownBlock=u5.ownBlock∨∃ b,v1.ownBlock=some b∧W.heap.size≤b):ASt w0 w (w1.setCell ⟨g,4,none⟩ v1) n0 g U b1 b2 b3 b4 b5 u1 u2 u3 u4 v1 ⟨p.types,p.decls,p.comps,p.inits,p.clauses++xs⟩:=by have hne:u5.ownBlock≠some g:=fun e=>(by have:=(h.own u5 hu g e).2;have:=h.lt.1;omega);have hK:Kp (fun k=>k=g∨∃ o∈U,o.ownBlock=some k) w w1:=h.kp.then_grown hg (fun b e _=>.inr ⟨u5,hu,e⟩);have hG:Kp (fun k=>k=g) w1 (w1.setCell ⟨g,4,none⟩ v1):=(Kp.refl (fun k=>k=g) _).set (fun _=>rfl) _ _;have hx:some w.heap.size≠u5.ownBlock:=fun e=>(by have:=(h.own u5 hu _ e.symm).1;omega);have q:∀ (os:List Value) (b:Nat),Off n0 os b→b<w1.heap.size→¬b=g:=fun os b hb _ e=>(by have:=hb.1;have:=h.lt.1;omega);exact⟨⟨hG.R (off_next h.rows.t (v:=u5) (by simp) hg ha (by simp)) (q _),hG.R (off_next h.rows.d (v:=u5) (by simp) hg ha (by simp)) (q _),hG.R (off_next h.rows.c (v:=u5) (by simp) hg ha (by simp)) (q _),hG.R (off_next h.rows.i (v:=u5) (by simp) hg ha (by simp)) (q _),hG.R h1 (q _)⟩,(h.blk.grown hg (Ne.symm hne)).set_ 4 v1,hK.trans hG (fun _ _ e=>.inl e),h.own,h.lt,(h.box.grown hg hx).far (p:=⟨g,4,none⟩) (fun e=>by have e2:w.heap.size=g:=e;have:=h.lt;omega) v1⟩
end
theorem add_any (w0 w:World) (n0 g:Nat) (vT vD vC vI vL:Value) (p q:ProgT) (aT aD aC aI aL:Value) (hg:Blk w g 28 #[vT,vD,vC,vI,vL]) (hgn:g<n0) (hn:n0≤w.heap.size) (hp:FRows w0 w n0 vT vD vC vI vL p)
    (hq:∀ W,Kp (fun k=>k=g∨∃ o∈[vT,vD,vC,vI,vL],o.ownBlock=some k) w W→PV w0 W aT aD aC aI aL q) (hm:manyP p≤96) (hm2:manyP q≤1048576) :
    Calls Try.prog 31 #[.pointer (some ⟨g,0,none⟩),.agg #[aT,aD,aC,aI,aL]] w fun e w'=>e=.returned (.int .i64 (if 96<manyP (addP p q) then 3 else 0))∧∃ uT uD uC uI uL,Blk w' g 28 #[uT,uD,uC,uI,uL]∧FRows w0 w' n0 uT uD uC uI uL (addP p q)∧Kp (fun k=>k=g∨n0≤k) w w':=by
 obtain⟨A1,c1,A2,c2,A3,c3,A4,c4,A5,c5,rfl,rfl,rfl,rfl,rfl⟩:=(hq w (Kp.refl _ w)).values;have hu1:=h_own hp;have HQ:=Za hq;have HM:=Za (show p.types.length+p.decls.length+p.comps.length+p.inits.length+p.clauses.length≤96 from hm);have HM2:=Za (show q.types.length+q.decls.length+q.comps.length+q.inits.length+q.clauses.length≤1048576 from hm2)
 have H0:Hid (ASt w0 w (w.alloc (.cells #[.slice A1 q.types.length c1,.slice A2 q.decls.length c2,.slice A3 q.comps.length c3,.slice A4 q.inits.length c4,.slice A5 q.clauses.length c5] 28)) n0 g [vT,vD,vC,vI,vL] (.slice A1 q.types.length c1) (.slice A2 q.decls.length c2) (.slice A3 q.comps.length c3) (.slice A4 q.inits.length c4) (.slice A5 q.clauses.length c5) vT vD vC vI vL p):=
  Za ⟨hp.kp ((Kp.refl (fun _=>False) w).alloc _) (fun _ _ _ e=>e),hg.alloc _,(Kp.refl _ _).alloc _,hu1,⟨hgn,hn⟩,Blk.new _ _ _⟩
 have qd:=(⟨hg.cell 0,hg.cell 1,hg.cell 2,hg.cell 3,hg.cell 4⟩:w.cell? ⟨g,0,none⟩=some vT∧w.cell? ⟨g,1,none⟩=some vD∧w.cell? ⟨g,2,none⟩=some vC∧w.cell? ⟨g,3,none⟩=some vI∧w.cell? ⟨g,4,none⟩=some vL);have qf:=(⟨hg.frozen 0,hg.frozen 1,hg.frozen 2,hg.frozen 3,hg.frozen 4⟩:w.frozen? ⟨g,0,none⟩=false∧w.frozen? ⟨g,1,none⟩=false∧w.frozen? ⟨g,2,none⟩=false∧w.frozen? ⟨g,3,none⟩=false∧w.frozen? ⟨g,4,none⟩=false);have hlt:=hg.lt;clear hp hq hg hgn hn hm hm2 hu1;go_enter Try.func31,Try.ntmps31;go_wp2
 go_region_law (first
  | (refine Kd.R_append_rows_step (Kd.fixed kTDecl w0) (Rr:=fun x cs=>kTDecl.K w0 x cs) n0 (by rfl) (.tmp 9) (.tmp 11) 22 73 (.agg #[.string ⟨#[]⟩,.string ⟨#[]⟩,.slice none 0 0,.int .i64 0]) 64 rfl Try.underlying22 infoTDecl rfl (show 0<Kd.sz kTDecl by decide) (by decide) vT p.types q.types A1 q.types.length c1 (Off n0 [vD,vC,vI,vL]) (fun _=>False) ?a1 ?a2 H0.out.drew.rows.t ?aV (fun _ _ h=>h) (fun _ h=>h.elim) ?aF (Below.refl _ _) H0.out.drew.size ?aL ?_
     (try (case a1=>rfl));(try (case a2=>rfl));(case aV=>obtain⟨_,_,e,_,hc⟩:=(HQ.out _ H0.out.drew.kp).t;injection e with e1 e2 e3;subst e1;exact hc)
     (case aF=>exact fun X hX=>H0.out.drew.rows.off H0.out.drew.size _ (by simp) X hX)
     (case aL=>have:=HM.out;have:=HM2.out;omega)
     intro v1 w1 h1 hbl hgr hat;obtain⟨p1,z1,hv⟩:=Kd.R_slice h1;rw[Zi] at hv;subst hv;have hB:=H0.out.drew.blk.grown hgr (fun e=>by have:=(H0.out.own _ (by simp) _ e.symm).2;have:=H0.out.lt.1;omega);have qg:=hB.cell 0;have qh:=hB.frozen 0;simp only[List.getElem?_toArray,List.getElem?_cons_zero,List.getElem?_cons_succ] at qg;have H1:=Za (H0.out.drew.t (by simp) h1 hgr hat);have qd:=H1.out.cells;have qe:=H1.out.boxes;have qf:=H1.out.frozen;have hlt:=H1.out.ltg;clear h1 hgr hat hB hbl))
 (all_goals (clear qg qh;revert w1 p1 z1));(all_goals refine ?rest1);intro w1 p1 z1 H1 qd qe qf hlt;generalize w1.setCell ⟨g,0,none⟩ (.slice p1 (p.types.length+q.types.length) z1)=W1 at *;clear w1 H0;go_wp2
 go_region_law (first
  | (refine Kd.R_append_rows_step (Kd.fixed kDecl w0) (Rr:=fun x cs=>kDecl.K w0 x cs) n0 (by rfl) (.tmp 19) (.tmp 21) 23 46 (.agg #[.string ⟨#[]⟩,.slice none 0 0,.bool false,.bool false,.int .i64 0]) 56 rfl Try.underlying23 infoDecl rfl (show 0<Kd.sz kDecl by decide) (by decide) vD p.decls q.decls A2 q.decls.length c2 (Off n0 [(.slice p1 (p.types.length+q.types.length) z1),vC,vI,vL]) (fun _=>False) ?a1 ?a2 H1.out.drew.rows.d ?aV (fun _ _ h=>h) (fun _ h=>h.elim) ?aF (Below.refl _ _) H1.out.drew.size ?aL ?_
     (try (case a1=>rfl));(try (case a2=>rfl));(case aV=>obtain⟨_,_,e,_,hc⟩:=(HQ.out _ H1.out.drew.kp).d;injection e with e1 e2 e3;subst e1;exact hc)
     (case aF=>exact fun X hX=>H1.out.drew.rows.off H1.out.drew.size _ (by simp) X hX)
     (case aL=>have:=HM.out;have:=HM2.out;omega)
     intro v2 w2 h1 hbl hgr hat;obtain⟨p2,z2,hv⟩:=Kd.R_slice h1;rw[Zi] at hv;subst hv;have hB:=H1.out.drew.blk.grown hgr (fun e=>by have:=(H1.out.own _ (by simp) _ e.symm).2;have:=H1.out.lt.1;omega);have qg:=hB.cell 1;have qh:=hB.frozen 1;simp only[List.getElem?_toArray,List.getElem?_cons_zero,List.getElem?_cons_succ] at qg;have H2:=Za (H1.out.drew.d (by simp) h1 hgr hat);have qd:=H2.out.cells;have qe:=H2.out.boxes;have qf:=H2.out.frozen;have hlt:=H2.out.ltg;clear h1 hgr hat hB hbl))
 (all_goals (clear qg qh;revert w2 p2 z2));(all_goals refine ?rest2);intro w2 p2 z2 H2 qd qe qf hlt;generalize w2.setCell ⟨g,1,none⟩ (.slice p2 (p.decls.length+q.decls.length) z2)=W2 at *;clear w2 H1;go_wp2
 go_region_law (first
  | (refine Kd.R_append_rows_step (Kd.fixed kComp w0) (Rr:=fun x cs=>kComp.K w0 x cs) n0 (by rfl) (.tmp 29) (.tmp 31) 24 42 (.agg #[.string ⟨#[]⟩,.slice none 0 0,.slice none 0 0,.slice none 0 0,.slice none 0 0,.slice none 0 0,.slice none 0 0,.int .i64 0]) 168 rfl Try.underlying24 infoComp rfl (show 0<Kd.sz kComp by decide) (by decide) vC p.comps q.comps A3 q.comps.length c3 (Off n0 [(.slice p1 (p.types.length+q.types.length) z1),(.slice p2 (p.decls.length+q.decls.length) z2),vI,vL]) (fun _=>False) ?a1 ?a2 H2.out.drew.rows.c ?aV (fun _ _ h=>h) (fun _ h=>h.elim) ?aF (Below.refl _ _) H2.out.drew.size ?aL ?_
     (try (case a1=>rfl));(try (case a2=>rfl));(case aV=>obtain⟨_,_,e,_,hc⟩:=(HQ.out _ H2.out.drew.kp).c;injection e with e1 e2 e3;subst e1;exact hc)
     (case aF=>exact fun X hX=>H2.out.drew.rows.off H2.out.drew.size _ (by simp) X hX)
     (case aL=>have:=HM.out;have:=HM2.out;omega)
     intro v3 w3 h1 hbl hgr hat;obtain⟨p3,z3,hv⟩:=Kd.R_slice h1;rw[Zi] at hv;subst hv;have hB:=H2.out.drew.blk.grown hgr (fun e=>by have:=(H2.out.own _ (by simp) _ e.symm).2;have:=H2.out.lt.1;omega);have qg:=hB.cell 2;have qh:=hB.frozen 2;simp only[List.getElem?_toArray,List.getElem?_cons_zero,List.getElem?_cons_succ] at qg;have H3:=Za (H2.out.drew.c (by simp) h1 hgr hat);have qd:=H3.out.cells;have qe:=H3.out.boxes;have qf:=H3.out.frozen;have hlt:=H3.out.ltg;clear h1 hgr hat hB hbl))
 (all_goals (clear qg qh;revert w3 p3 z3));(all_goals refine ?rest3);intro w3 p3 z3 H3 qd qe qf hlt;generalize w3.setCell ⟨g,2,none⟩ (.slice p3 (p.comps.length+q.comps.length) z3)=W3 at *;clear w3 H2;go_wp2
 go_region_law (first
  | (refine Kd.R_append_rows_step (Kd.fixed kInit w0) (Rr:=fun x cs=>kInit.K w0 x cs) n0 (by rfl) (.tmp 39) (.tmp 41) 25 48 (.agg #[.string ⟨#[]⟩,.string ⟨#[]⟩,.int .i64 0]) 40 rfl Try.underlying25 infoInit rfl (show 0<Kd.sz kInit by decide) (by decide) vI p.inits q.inits A4 q.inits.length c4 (Off n0 [(.slice p1 (p.types.length+q.types.length) z1),(.slice p2 (p.decls.length+q.decls.length) z2),(.slice p3 (p.comps.length+q.comps.length) z3),vL]) (fun _=>False) ?a1 ?a2 H3.out.drew.rows.i ?aV (fun _ _ h=>h) (fun _ h=>h.elim) ?aF (Below.refl _ _) H3.out.drew.size ?aL ?_
     (try (case a1=>rfl));(try (case a2=>rfl));(case aV=>obtain⟨_,_,e,_,hc⟩:=(HQ.out _ H3.out.drew.kp).i;injection e with e1 e2 e3;subst e1;exact hc)
     (case aF=>exact fun X hX=>H3.out.drew.rows.off H3.out.drew.size _ (by simp) X hX)
     (case aL=>have:=HM.out;have:=HM2.out;omega)
     intro v4 w4 h1 hbl hgr hat;obtain⟨p4,z4,hv⟩:=Kd.R_slice h1;rw[Zi] at hv;subst hv;have hB:=H3.out.drew.blk.grown hgr (fun e=>by have:=(H3.out.own _ (by simp) _ e.symm).2;have:=H3.out.lt.1;omega);have qg:=hB.cell 3;have qh:=hB.frozen 3;simp only[List.getElem?_toArray,List.getElem?_cons_zero,List.getElem?_cons_succ] at qg;have H4:=Za (H3.out.drew.i (by simp) h1 hgr hat);have qd:=H4.out.cells;have qe:=H4.out.boxes;have qf:=H4.out.frozen;have hlt:=H4.out.ltg;clear h1 hgr hat hB hbl))
 (all_goals (clear qg qh;revert w4 p4 z4));(all_goals refine ?rest4);intro w4 p4 z4 H4 qd qe qf hlt;generalize w4.setCell ⟨g,3,none⟩ (.slice p4 (p.inits.length+q.inits.length) z4)=W4 at *;clear w4 H3;go_wp2
 go_region_law (first
  | (refine Kd.R_append_rows_step (Kd.fixed kClause w0) (Rr:=fun x cs=>kClause.K w0 x cs) n0 (by rfl) (.tmp 49) (.tmp 51) 26 54 (.agg #[.string ⟨#[]⟩,.slice none 0 0,.int .i64 0,.slice none 0 0,.int .i64 0]) 80 rfl Try.underlying26 infoClause rfl (show 0<Kd.sz kClause by decide) (by decide) vL p.clauses q.clauses A5 q.clauses.length c5 (Off n0 [(.slice p1 (p.types.length+q.types.length) z1),(.slice p2 (p.decls.length+q.decls.length) z2),(.slice p3 (p.comps.length+q.comps.length) z3),(.slice p4 (p.inits.length+q.inits.length) z4)]) (fun _=>False) ?a1 ?a2 H4.out.drew.rows.l ?aV (fun _ _ h=>h) (fun _ h=>h.elim) ?aF (Below.refl _ _) H4.out.drew.size ?aL ?_
     (try (case a1=>rfl));(try (case a2=>rfl));(case aV=>obtain⟨_,_,e,_,hc⟩:=(HQ.out _ H4.out.drew.kp).l;injection e with e1 e2 e3;subst e1;exact hc)
     (case aF=>exact fun X hX=>H4.out.drew.rows.off H4.out.drew.size _ (by simp) X hX)
     (case aL=>have:=HM.out;have:=HM2.out;omega)
     intro v5 w5 h1 hbl hgr hat;obtain⟨p5,z5,hv⟩:=Kd.R_slice h1;rw[Zi] at hv;subst hv;have hB:=H4.out.drew.blk.grown hgr (fun e=>by have:=(H4.out.own _ (by simp) _ e.symm).2;have:=H4.out.lt.1;omega);have qg:=hB.cell 4;have qh:=hB.frozen 4;simp only[List.getElem?_toArray,List.getElem?_cons_zero,List.getElem?_cons_succ] at qg;have H5:=Za (H4.out.drew.l (by simp) h1 hgr hat);have qd:=H5.out.cells;have qe:=H5.out.boxes;have qf:=H5.out.frozen;have hlt:=H5.out.ltg;clear h1 hgr hat hB hbl))
 (all_goals (clear qg qh;revert w5 p5 z5));(all_goals refine ?rest5);intro w5 p5 z5 H5 qd qe qf hlt;generalize w5.setCell ⟨g,4,none⟩ (.slice p5 (p.clauses.length+q.clauses.length) z5)=W5 at *;clear w5 H4;have hsum:p.types.length+q.types.length+(p.decls.length+q.decls.length)+(p.comps.length+q.comps.length)+(p.inits.length+q.inits.length)+(p.clauses.length+q.clauses.length)=manyP (addP p q):=by simp only[manyP,addP,Zi]
 have HS:=Za hsum;have hmn:=fun W=>many_any W p1 p2 p3 p4 p5 (p.types.length+q.types.length) (p.decls.length+q.decls.length) (p.comps.length+q.comps.length) (p.inits.length+q.inits.length) (p.clauses.length+q.clauses.length) z1 z2 z3 z4 z5 (by have:=HM.out;have:=HM2.out;omega);rw[hsum] at hmn;have HMN:=Za hmn;have HE:Hid (FRows w0 W5 n0 (.slice p1 (p.types.length+q.types.length) z1) (.slice p2 (p.decls.length+q.decls.length) z2) (.slice p3 (p.comps.length+q.comps.length) z3) (.slice p4 (p.inits.length+q.inits.length) z4) (.slice p5 (p.clauses.length+q.clauses.length) z5) (addP p q)):=Za H5.out.rows;have HZ:Hid (Kp (fun k=>k=g∨n0≤k) w W5):=Za (H5.out.kp.mono (fun b _ hb=>by rcases hb with hb|⟨o,ho,hb⟩;exact .inl hb;exact .inr (H5.out.own o ho b hb).2));have HB:=Za H5.out.blk;have HL:=Za H5.out.lt;have HSZ:=Za H5.out.size;clear hsum hmn H5 HQ HM HM2;have hfin:∀ e w' (r:Int),e=Ending.returned (.int .i64 r)→Below W5.heap.size W5 w'→r=(if 96<manyP (addP p q) then 3 else 0)→e=.returned (.int .i64 (if 96<manyP (addP p q) then 3 else 0))∧∃ uT uD uC uI uL,Blk w' g 28 #[uT,uD,uC,uI,uL]∧FRows w0 w' n0 uT uD uC uI uL (addP p q)∧Kp (fun k=>k=g∨n0≤k) w w':=(by intro e w' r he hb hr;exact⟨by rw[he,hr],_,_,_,_,_,HB.out.below hb HB.out.lt,HE.out.kp (Kp.of_below (fun _=>False) hb) (fun _ _ _ q=>q),HZ.out.then_below hb⟩);have HF:=Za hfin;clear hfin;by_cases hmany:96<manyP (addP p q)
 · have hmb:decide ((96:Int)<((manyP (addP p q):Nat):Int))=true:=Zl (by omega);go_wp2_with (first|(go_at_call 65;(with_reducible refine (HMN.out _).mono ?_);rintro e w' ⟨rfl,hb⟩))
   go_ret;exact⟨rfl,(HF.out _ _ 3 rfl hb (by rw[if_pos hmany])).2⟩
 · have hmb:decide ((96:Int)<((manyP (addP p q):Nat):Int))=false:=Zm (by omega);go_wp2_with (first|(go_at_call 65;(with_reducible refine (HMN.out _).mono ?_);rintro e w' ⟨rfl,hb⟩))
   go_ret;exact⟨rfl,(HF.out _ _ 0 rfl hb (by rw[if_neg hmany])).2⟩
end CmpAdd
namespace CmpDefer
open Go
section
variable {P:Program}
def LeavesB (P:Program) (fn:Func) (tmps:Array Value) (R:Ending→World→Prop):List Deferred→World→Prop
 | [],w=>∃ v,(results fn tmps).run P w=.ok v w∧R (.returned v) w
 | d :: ds,w=>∃ v w',(∃ b at_ ty co,d.target=.builtin b at_ ty co)∧(invoke d.target d.args).run P w=.ok (.value v) w'∧LeavesB P fn tmps R ds w'
def bodyPostB (P:Program) (fn:Func) (R:Ending→World→Prop):Exit→Act→World→Prop
 | .normal,a,w|.ret,a,w=>LeavesB P fn a.tmps R a.defers w
 | .outgrown,_,w=>R .outgrown w
 | _,_,_=>False
theorem step_deferB {fr:Frame} {cs:List Frame} {w w':World} {d:Deferred} {ds:List Deferred} {v:Value} (hm:fr.mode=.returning) (ht:∃ b at_ ty co,d.target=.builtin b at_ ty co) (hd:fr.defers=d :: ds) (hi:(invoke d.target d.args).run P w=.ok (.value v) w') :
    step P (lone fr cs w)=.next (lone { fr with defers:=ds } cs w'):=by
 obtain⟨t,a⟩:=d;obtain⟨b,at_,ty,co,rfl⟩:=ht;refine step_lone_go ?_;simp only at hi;simp[stepG,unwind,callDeferred,hm,hd,Sem.runT_eq,hi,GStep.bare_after,GStep.bare_go]
theorem leavesB_steps {fn:Func} {tmps:Array Value} {R:Ending→World→Prop}:∀ (ds:List Deferred) (w:World) (fr:Frame) (cs:List Frame),fr.mode=.returning→fr.defers=ds→fr.tmps=tmps→P.funcs[fr.fn]?=some fn→fr.kind=.normal→LeavesB P fn tmps R ds w→
    ∃ e w' fr',R e w'∧Comes P (lone fr cs w) (lone fr' cs w') e∧fr'.fn=fr.fn∧fr'.leaving P w' e:=by
 intro ds;induction ds with
 | nil=>intro w fr cs hu hd ht hf hk h;obtain⟨v,hr,hR⟩:=h;exact⟨.returned v,w,fr,hR,Steps.refl P _,rfl,hu,hd,hk,fn,hf,ht▸hr⟩
 | cons d ds ih=>intro w fr cs hu hd ht hf hk h;obtain⟨v,w1,htg,hi,h2⟩:=h;obtain⟨e',w'',fr',hR',hs',hfn',hl'⟩:=ih w1 { fr with defers:=ds } cs hu rfl ht hf hk h2;exact⟨e',w'',fr',hR',Comes.of_steps (.one (step_deferB hu htg hd hi)) hs',hfn',hl'⟩
theorem calls_of_wp_builtins {f:FuncId} {fn:Func} {c:Code} {args:Array Value} {w:World} {R:Ending→World→Prop} (hf:P.funcs[f]?=some fn) (hb:fn.body=some c)
    (h:c.wp P (bodyPostB P fn R) { tmps:=args++Array.replicate (fn.ntmps - args.size) undef,defers:=[] } w):Calls P f args w R:=by
 intro cs;let b:Frame:={ (default:Frame) with fn:=f,kind:=.normal }
 have henter:Frame.enter P f args .normal=b.at { tmps:=args++Array.replicate (fn.ntmps - args.size) undef,defers:=[] } [.code c]:=(by simp[Frame.enter,Frame.at,hf,hb,b]);obtain⟨e,a',w',hq,harr⟩:=h b [] cs;rw[← henter] at harr;cases e with
 | normal=>obtain⟨e',w'',fr',hR,hs,hfn,hl⟩:=leavesB_steps a'.defers w' { b.at a' [] with mode:=.returning } cs rfl rfl rfl hf rfl hq;exact⟨e',w'',fr',hR,Comes.of_steps (Steps.trans harr (.one step_end)) hs,hfn,hl⟩
 | ret=>obtain⟨todo,hs₀⟩:=harr;obtain⟨e',w'',fr',hR,hs,hfn,hl⟩:=leavesB_steps a'.defers w' { b.at a' todo with mode:=.returning } cs rfl rfl rfl hf rfl hq;exact⟨e',w'',fr',hR,Comes.of_steps hs₀ hs,hfn,hl⟩
 | panic chain=>exact hq.elim
 | exit id=>exact hq.elim
 | goto l=>exact hq.elim
 | outgrown=>exact⟨.outgrown,w',b,hq,harr.resolve_left (by simp[b]),rfl,trivial⟩
end
end CmpDefer
end Go.Proofs.Ytddmceldglelkaa
