/- A claim's texts, in the order of what they need: CmpFlat, RefSameR, RefSameZ, CmpAlive, CmpLaw, CmpErr, CmpBasesM. -/
import Derived.Test.YtddmceldglelkaaBCompBases15
import Derived.Test.YtddmceldglelkaaBCompBases24
import Derived.Test.YtddmceldglelkaaBCompBases27
import Derived.Test.YtddmceldglelkaaBCompBases28
import Derived.Test.YtddmceldglelkaaBCompBases30
import Derived.Test.YtddmceldglelkaaBCompBases33
set_option maxRecDepth 100000
set_option maxHeartbeats 8000000
set_option linter.unusedVariables false
set_option linter.unusedSimpArgs false
set_option linter.unusedSectionVars false
namespace Go.Proofs.Ytddmceldglelkaa
namespace CmpFlat
open Go Go.RowKit CmpAll CmpInsMem CmpInits RefPure RefKinds RefMem RefSameP CmpPure CmpMem CmpKinds CmpFind CmpName CmpCopied CmpClone CmpClause CmpRule CmpWholeOf CmpInst RefExpr RefFields RefCells YtddmceldglelkaaW.PrintWords
def FlatPost (w0:World) (r:Except (Int×Int) ProgT) (e:Ending) (w':World):Prop:=
 Below w0.heap.size w0 w'∧
 match r with
 | .error z=>e=.returned (.tuple #[.agg #[.slice none 0 0,.slice none 0 0,.slice none 0 0,.slice none 0 0,.slice none 0 0],.agg #[.int .i64 z.1,.int .i64 z.2]])
 | .ok q=>∃ uT uD uL,e=.returned (.tuple #[.agg #[uT,uD,.slice none 0 0,.slice none 0 0,uL],.agg #[.int .i64 0,.int .i64 0]])∧(Kd.fixed kTDecl w0).R 73 w' w0.heap.size (Off w0.heap.size [uD,uL]) uT q.types∧(Kd.fixed kDecl w0).R 46 w' w0.heap.size (Off w0.heap.size [uT,uL]) uD q.decls∧(mL w0).R 54 w' w0.heap.size (Off w0.heap.size [uT,uD]) uL q.clauses∧q.comps=[]∧q.inits=[]
theorem row_mid {α:Type} {d:Kd α} {e:Nat} {w w':World} {lo n0:Nat} {v:Value} {xs:List α} {os:List Value} {g:Nat} (h:d.R e w lo (fun k=>lo≤k) v xs) (hb:Below w.heap.size w w') (hn:n0≤lo) (hos:∀ o∈os,∀ k,o.ownBlock=some k→¬(lo≤k∧k<w.heap.size)) (hg:w.heap.size≤g):d.R e w' n0 (fun b=>Off n0 os b∧b≠g) v xs:=by have h1:=Kd.R_below (Kd.R_mono (ok':=fun k=>lo≤k∧k<w.heap.size) (Kd.R_bound h) (fun k hk=>⟨hk.1,hk.2.2.1⟩)) hb;exact Kd.R_mono (Kd.R_lower h1 hn) (fun k hk=>⟨⟨Ze hn hk.1,fun o ho e=>hos o ho k e hk⟩,fun e=>by omega⟩)
theorem flat_start {w0 W1 w2 w3 w4:World} {vT vD vC vI vL:Value} {p:ProgT} (hv:PV w0 w0 vT vD vC vI vL p) {oT oD oL:Value} (hbl:Below w0.heap.size w0 W1) (h2:(Kd.fixed kTDecl w0).R 73 w2 W1.heap.size (fun k=>W1.heap.size≤k) oT p.types) (h3:(Kd.fixed kDecl w0).R 46 w3 w2.heap.size (fun k=>w2.heap.size≤k) oD p.decls) (h4:(mL w0).R 54 w4 w3.heap.size (fun k=>w3.heap.size≤k) oL p.clauses)
    (b12:Below W1.heap.size W1 w2) (b23:Below w2.heap.size w2 w3) (b34:Below w3.heap.size w3 w4) (hl:p.decls.length≤1048576∧p.clauses.length≤1048576) :
    FlS w0 (w4.alloc (.cells #[vT,vD,vC,vI,vL,oT,oD,.slice none 0 0,.slice none 0 0,oL,.int .i64 0,.int .i64 0,.int .i64 0] 77)) vT vD vC vI vL p w4.heap.size W1.heap.size oT oD oL p.types ⟨0,p.decls,p.clauses⟩:=by
 have s1:=hbl.size;have s2:=b12.size;have s3:=b23.size;have s4:=b34.size;have b45:=below1 w4 (.cells #[vT,vD,vC,vI,vL,oT,oD,.slice none 0 0,.slice none 0 0,oL,.int .i64 0,.int .i64 0,.int .i64 0] 77);have b35:=b34.trans (b45.mono s4);have b25:=b23.trans (b35.mono s3);have s5:=b45.size;refine⟨hbl.trans ((b12.trans (b25.mono s2)).mono s1),hv,Blk.new _ _ _,row_mid h2 b25 (Zc _) ?_ (by omega),row_mid h3 b35 s2 ?_ (by omega),row_mid h4 b45 (Ze s2 s3) ?_ (by omega),⟨s1,by omega,by omega⟩,hl.1,hl.2,Nat.zero_le _⟩
 · intro o ho k e;simp only[List.mem_cons,List.not_mem_nil,or_false] at ho;rcases ho with rfl|rfl
   · have:=Kd.R_base h3 k e;omega
   · have:=Kd.R_base h4 k e;omega
 · intro o ho k e;simp only[List.mem_cons,List.not_mem_nil,or_false] at ho;rcases ho with rfl|rfl
   · have:=Kd.R_lt h2 k e;omega
   · have:=Kd.R_base h4 k e;omega
 · intro o ho k e;simp only[List.mem_cons,List.not_mem_nil,or_false] at ho;rcases ho with rfl|rfl
   · have:=Kd.R_lt h2 k e;omega
   · have:=Kd.R_lt h3 k e;omega
theorem seven_out {W:World} {X Y:Nat} {t t2:TypeId} {a b c d e f h a0 b0 c0 d0 e0 f0 h0:Value} (hX:Blk W X t #[a0,b0,c0,d0,e0]) (hY:Blk W Y t2 #[f0,h0]) (hne:X≠Y) :
    Blk (((five W X a b c d e).setCell ⟨Y,0,none⟩ f).setCell ⟨Y,1,none⟩ h) X t #[a,b,c,d,e]∧Blk (((five W X a b c d e).setCell ⟨Y,0,none⟩ f).setCell ⟨Y,1,none⟩ h) Y t2 #[f,h]∧Kp (fun k=>k=X∨k=Y) W (((five W X a b c d e).setCell ⟨Y,0,none⟩ f).setCell ⟨Y,1,none⟩ h):=
 ⟨((ZS hX).far (p:=⟨Y,0,none⟩) hne _).far (p:=⟨Y,1,none⟩) hne _,((five_far hY hne.symm).set_ 0 f).set_ 1 h,((CmpWhole.kp_five (Kp.refl _ W) (fun _=>.inl rfl)).set (fun _=>.inr rfl) 0 f).set (fun _=>.inr rfl) 1 h⟩
theorem way_nil (w:World) (S:Nat→Prop):CmpInst.Way w S (.slice none 0 0) []:=
 ⟨fun W _=>⟨none,0,rfl,Zc _,⟨rfl,Nat.zero_le _,fun h=>absurd h (Nat.lt_irrefl _)⟩⟩,fun A n c ad hv hA=>by injection hv with h1;subst h1;cases hA⟩
theorem flatten_any (w0:World) (vT vD vC vI vL:Value) (p:ProgT) (hv:PV w0 w0 vT vD vC vI vL p) (hs:CmpSize.Small p) (r:Except (Int×Int) ProgT) (hr:flatS p=some r) :
    Calls Try.prog 8 #[.agg #[vT,vD,vC,vI,vL]] w0 (FlatPost w0 r):=by
 have HV:=Za hv;obtain⟨P1,d1,P2,d2,P3,d3,P4,d4,P5,d5,rfl,rfl,rfl,rfl,rfl⟩:=hv.values;have HS:=Za hs;have HR:=Za hr;have HL:Hid (p.types.length≤1048576∧p.decls.length≤1048576∧p.clauses.length≤1048576):=Za (by have:=hs.body.many;unfold manyP at this;omega);clear hv hs hr;go_enter Try.func8,Try.ntmps8;go_wp2
 have HW1:Hid (∃ W1,((w0.alloc (.cells #[.slice P1 p.types.length d1,.slice P2 p.decls.length d2,.slice P3 p.comps.length d3,.slice P4 p.inits.length d4,.slice P5 p.clauses.length d5] 28)).alloc (.cells #[.slice none 0 0,.slice none 0 0,.slice none 0 0,.slice none 0 0,.slice none 0 0] 28)).alloc (.cells #[.int .i64 0,.int .i64 0] 31)=W1∧Blk W1 w0.heap.size 28 #[.slice P1 p.types.length d1,.slice P2 p.decls.length d2,.slice P3 p.comps.length d3,.slice P4 p.inits.length d4,.slice P5 p.clauses.length d5]∧Blk W1 (w0.heap.size+1) 28 #[.slice none 0 0,.slice none 0 0,.slice none 0 0,.slice none 0 0,.slice none 0 0]∧Blk W1 (w0.heap.size+1+1) 31 #[.int .i64 0,.int .i64 0]∧Below w0.heap.size w0 W1∧W1.heap.size=w0.heap.size+3):=
  Za ⟨_,rfl,((Blk.new w0 _ _).alloc _).alloc _,(blk_new1 w0 _ _ _).alloc _,blk_new2 w0 _ _ _ _,below3 w0 _ _ _,by rw[size1,size1,size1]⟩
 obtain⟨W1,hW1,hb1,hb2,hb3,hbl,hsz⟩:=HW1.out;rw[hW1];have HB1:=Za hb1;have HB2:=Za hb2;have HB3:=Za hb3;have HBL:=Za hbl;have HSZ:=Za hsz;obtain⟨p0,p1,p2,p3,p4⟩:=Zt hb1;have lbx:=hb1.lt;have hrl:=fun W (hb:Below W1.heap.size W1 W)=>(⟨(hb.cell (p:=⟨w0.heap.size,0,none⟩) lbx).trans p0,(hb.cell (p:=⟨w0.heap.size,1,none⟩) lbx).trans p1,(hb.cell (p:=⟨w0.heap.size,2,none⟩) lbx).trans p2,(hb.cell (p:=⟨w0.heap.size,3,none⟩) lbx).trans p3,(hb.cell (p:=⟨w0.heap.size,4,none⟩) lbx).trans p4⟩:W.cell? ⟨w0.heap.size,0,none⟩=some (.slice P1 p.types.length d1)∧W.cell? ⟨w0.heap.size,1,none⟩=some (.slice P2 p.decls.length d2)∧W.cell? ⟨w0.heap.size,2,none⟩=some (.slice P3 p.comps.length d3)∧W.cell? ⟨w0.heap.size,3,none⟩=some (.slice P4 p.inits.length d4)∧W.cell? ⟨w0.heap.size,4,none⟩=some (.slice P5 p.clauses.length d5));have hS1:=Below.refl W1.heap.size W1;have HCT:=Za (fun W (hb:Below W1.heap.size W1 W)=>types_any w0 W _ p.types (HV.out.t.below (hbl.trans (hb.mono hbl.size))) HL.out.1);have HCD:=Za (fun W (hb:Below W1.heap.size W1 W)=>decls_any w0 W _ p.decls (HV.out.d.below (hbl.trans (hb.mono hbl.size))) HL.out.2.1);have HCC:=Za (fun W (hb:Below W1.heap.size W1 W)=>copied_any w0 W _ p.clauses (HV.out.l.below (hbl.trans (hb.mono hbl.size))) (hbl.trans (hb.mono hbl.size)) HL.out.2.2 (fun c hc=>(HS.out.body.clauses c hc).len));clear hW1 hb1 hb2 hb3 hbl hsz p0 p1 p2 p3 p4 HW1
 go_region_held3 (fun W=>Below W1.heap.size W1 W) (first|assumption|(repeat (with_reducible first|assumption|exact Below.refl _ _|refine Below.drew ?_|refine Zv ?_ _)))
  (first
  | (go_at_call 18;(with_reducible refine (HCT.out _ (Below.refl _ _).drew).mono ?_);rintro e w2 ⟨v2,rfl,hr2,hb2⟩;obtain⟨a2,z2,e2⟩:=Kd.R_slice hr2;subst e2;have hS2:Below W1.heap.size W1 w2:=(Below.refl _ W1).drew.trans hb2;have HR2:=Za hr2;have HB12:=Za hS2;clear hr2 hb2)
  | (go_at_call 19;(with_reducible refine (HCD.out _ HB12.out).mono ?_);rintro e w3 ⟨v3,rfl,hr3,hb3⟩;obtain⟨a3,z3,e3⟩:=Kd.R_slice hr3;subst e3;have hS3:Below W1.heap.size W1 w3:=HB12.out.trans (hb3.mono HB12.out.size);have HR3:=Za hr3;have HB23:=Za hb3;have HB13:=Za hS3;clear hr3 hb3)
  | (go_at_call 20;(with_reducible refine (HCC.out _ HB13.out).mono ?_);rintro e w4 ⟨v4,rfl,hr4,hb4⟩;obtain⟨a4,z4,e4⟩:=Kd.R_slice hr4;subst e4;have hS4:Below W1.heap.size W1 w4:=HB13.out.trans (hb4.mono HB13.out.size);have HR4:=Za hr4;have HB34:=Za hb4;have HB14:=Za hS4;clear hr4 hb4))
 have HFS:=Za (flat_start HV.out HBL.out HR2.out HR3.out HR4.out HB12.out HB23.out HB34.out HL.out.2);have HB5:=Za (HB14.out.alloc HB14.out.size (.cells #[.slice P1 p.types.length d1,.slice P2 p.decls.length d2,.slice P3 p.comps.length d3,.slice P4 p.inits.length d4,.slice P5 p.clauses.length d5,.slice a2 p.types.length z2,.slice a3 p.decls.length z3,.slice none 0 0,.slice none 0 0,.slice a4 p.clauses.length z4,.int .i64 0,.int .i64 0,.int .i64 0] 77));have HG:Hid (W1.heap.size≤w4.heap.size):=Za HB14.out.size;clear HCT HCD HCC HR2 HR3 HR4 HB12 HB23 HB34 hS1 hS2 hS3 hS4 hrl lbx;clear HB14 HB13;have b15:Below W1.heap.size W1 (w4.alloc (.cells #[.slice P1 p.types.length d1,.slice P2 p.decls.length d2,.slice P3 p.comps.length d3,.slice P4 p.inits.length d4,.slice P5 p.clauses.length d5,.slice a2 p.types.length z2,.slice a3 p.decls.length z3,.slice none 0 0,.slice none 0 0,.slice a4 p.clauses.length z4,.int .i64 0,.int .i64 0,.int .i64 0] 77)):=HB5.out;have HX1:=Za (HB1.out.below b15 HB1.out.lt);have HX2:=Za (HB2.out.below b15 HB2.out.lt);have HX3:=Za (HB3.out.below b15 HB3.out.lt);clear b15 HB1 HB2 HB3 HB5;generalize w4.alloc (.cells #[.slice P1 p.types.length d1,.slice P2 p.decls.length d2,.slice P3 p.comps.length d3,.slice P4 p.inits.length d4,.slice P5 p.clauses.length d5,.slice a2 p.types.length z2,.slice a3 p.decls.length z3,.slice none 0 0,.slice none 0 0,.slice a4 p.clauses.length z4,.int .i64 0,.int .i64 0,.int .i64 0] 77)=W5 at *;generalize w4.heap.size=g at *;clear w4;have HRU:=Za (rules_any w0 W5 g _ _ _ _ _ _ _ _ _ _ p HFS.out.bs HV.out HS.out HFS.out.fl);cases hru:rulesS p.comps with
 | some z=>
   rw[hru] at HRU;have hr:r=.error z:=by
    have:=HR.out;unfold flatS at this;rw[hru] at this;injection this with this
    exact this.symm
   subst hr;clear hru;go_wp2_with (first|(go_at_call 21;(with_reducible refine (HRU.out).mono ?_);rintro e w7 ⟨rfl,hk,h10,h11⟩;have HK7:=Za hk;have lg7:=cell_lt h10;have x3:=hk.blk HX3.out (by have:=HG.out;have:=HSZ.out;omega);have c30:=x3.cell 0;have c31:=x3.cell 1;have f30:=x3.frozen 0;have f31:=x3.frozen 1;have l3:=x3.lt;have x2:=hk.blk HX2.out (by have:=HG.out;have:=HSZ.out;omega);have c2:=Zt x2;have f2:=Zz x2;have l2:=x2.lt;simp only[List.getElem?_toArray,List.getElem?_cons_zero,List.getElem?_cons_succ] at c30 c31;have HQ3:=Za x3;have HQ2:=Za x2;clear x3 x2;clear hk))
   have HB7:Hid (Below w0.heap.size w0 w7):=Za (HFS.out.bs.trans (HK7.out.below (fun k hl e=>by have:=HG.out;have:=HSZ.out;omega) HFS.out.size));clear HRU HFS;go_region;(all_goals go_wp2);all_goals refine bodyPost_ret (results_cc rfl _ _ (w0.heap.size+1) (w0.heap.size+1+1) 28 31 #[.slice none 0 0,.slice none 0 0,.slice none 0 0,.slice none 0 0,.slice none 0 0] #[.int .i64 z.1,.int .i64 z.2] (0,0) (0,0) _ _ rfl ?_ Try.underlying28 rfl (by kernel_rfl) rfl ?_ Try.underlying31 rfl (by kernel_rfl)) rfl ?_
   · exact (seven_out HQ2.out HQ3.out (Zf (Zh _))).1.drew
   · exact (seven_out HQ2.out HQ3.out (Zf (Zh _))).2.1.drew
   · exact⟨(HB7.out.trans ((seven_out HQ2.out HQ3.out (Zf (Zh _))).2.2.below (fun k hl e=>by omega) HB7.out.size)).drew,rfl⟩
 | none=>
   rw[hru] at HRU;obtain⟨ri,hri,hfr⟩:∃ ri,initsS (wholeOf p.comps) (instS (wholeOf p.comps) (p.comps.length+1)) (str []) [] p.inits (names p.decls).reverse ⟨0,p.decls,p.clauses⟩=some ri∧(match ri with|.error z=>.error z|.ok o=>.ok ⟨p.types,o.decls,[],[],o.clauses⟩)=r:=(by have:=HR.out;unfold flatS at this;rw[hru] at this;exact Option.map_eq_some_iff.1 this);have HCH:Hid (∀ k,Ch g (.slice a3 p.decls.length z3) (.slice a4 p.clauses.length z4) k→W1.heap.size≤k):=Za (by
    rintro k (rfl|hk|hk)
    · exact HG.out
    · exact Kd.R_base HFS.out.d k hk
    · exact Kd.R_base HFS.out.l k hk)
   have hin:∀ W,Below W5.heap.size W5 W→Calls Try.prog 22 #[.pointer (some ⟨g,0,none⟩),.agg #[.slice P1 p.types.length d1,.slice P2 p.decls.length d2,.slice P3 p.comps.length d3,.slice P4 p.inits.length d4,.slice P5 p.clauses.length d5],.string ⟨#[]⟩,.slice none 0 0] W (IPost w0 W _ _ _ _ _ p g W1.heap.size _ _ _ p.types ri):=fun W hb=>inits_all w0 _ _ _ _ _ p g W1.heap.size _ p.types HS.out (p.comps.length+1) W _ _ p _ _ _ _ _ (str []) [] _ _ ri (HFS.out.up hb) (fun V hV=>by have hbV:Below w0.heap.size w0 V:=(HFS.out.up hb).bs.trans (hV.below (fun k hl hs=>by have:=HCH.out k hs;have:=HSZ.out;omega) (HFS.out.up hb).size);exact⟨HV.out.t.below hbV,HV.out.d.below hbV,HV.out.c.below hbV,HV.out.i.below hbV,HV.out.l.below hbV⟩) (way_nil _ _) HS.out.body (Nat.zero_le _) (fun x h=>absurd h List.not_mem_nil) (by have:=HS.out.body.many;unfold manyP at this;simp only[Zk];omega) hri;have HIN:=Za hin;clear hin hri;cases ri with
   | error z=>
     simp only at hfr;subst hfr
     go_wp2_with (first
      | (go_at_call 21;(with_reducible refine (HRU.out).mono ?_);rintro e w7 ⟨rfl,hb7⟩;have HB57:=Za hb7;have lg7:g<w7.heap.size:=Nat.lt_of_lt_of_le (Blk.lt HFS.out.fl) hb7.size;have x1:=HX1.out.below hb7 HX1.out.lt;have c1:=Zt x1;have l1:=x1.lt;clear hb7 x1)
      | (go_at_call 22;(with_reducible refine (HIN.out _ HB57.out).mono ?_);rintro e w8 ⟨rfl,hk,h10,h11⟩;have HK8:=Za ((Kp.of_below (Ch g (.slice a3 p.decls.length z3) (.slice a4 p.clauses.length z4)) HB57.out).trans hk (fun _ _ q=>q));have lg8:=cell_lt h10;have x3:=HK8.out.blk HX3.out (fun q=>by have:=HCH.out _ q;have:=HSZ.out;omega);have c30:=x3.cell 0;have c31:=x3.cell 1;have f30:=x3.frozen 0;have f31:=x3.frozen 1;have l3:=x3.lt;have x2:=HK8.out.blk HX2.out (fun q=>by have:=HCH.out _ q;have:=HSZ.out;omega);have c2:=Zt x2;have f2:=Zz x2;have l2:=x2.lt;simp only[List.getElem?_toArray,List.getElem?_cons_zero,List.getElem?_cons_succ] at c30 c31;have HQ3:=Za x3;have HQ2:=Za x2;clear x3 x2;clear hk))
     have HB8:Hid (Below w0.heap.size w0 w8):=Za (HFS.out.bs.trans (HK8.out.below (fun k hl e=>by have:=HCH.out k e;have:=HSZ.out;omega) HFS.out.size));clear HRU HFS HIN c1 l1;go_region;(all_goals go_wp2);all_goals refine bodyPost_ret (results_cc rfl _ _ (w0.heap.size+1) (w0.heap.size+1+1) 28 31 #[.slice none 0 0,.slice none 0 0,.slice none 0 0,.slice none 0 0,.slice none 0 0] #[.int .i64 z.1,.int .i64 z.2] (0,0) (0,0) _ _ rfl ?_ Try.underlying28 rfl (by kernel_rfl) rfl ?_ Try.underlying31 rfl (by kernel_rfl)) rfl ?_
     · exact (seven_out HQ2.out HQ3.out (Zf (Zh _))).1.drew
     · exact (seven_out HQ2.out HQ3.out (Zf (Zh _))).2.1.drew
     · exact⟨(HB8.out.trans ((seven_out HQ2.out HQ3.out (Zf (Zh _))).2.2.below (fun k hl e=>by omega) HB8.out.size)).drew,rfl⟩
   | ok o=>
     simp only at hfr;subst hfr
     go_wp2_with (first
      | (go_at_call 21;(with_reducible refine (HRU.out).mono ?_);rintro e w7 ⟨rfl,hb7⟩;have HB57:=Za hb7;have lg7:g<w7.heap.size:=Nat.lt_of_lt_of_le (Blk.lt HFS.out.fl) hb7.size;have x1:=HX1.out.below hb7 HX1.out.lt;have c1:=Zt x1;have l1:=x1.lt;clear hb7 x1)
      | (go_at_call 22;(with_reducible refine (HIN.out _ HB57.out).mono ?_);rintro e w8 ⟨rfl,oD,oL,hf8,hk,hn8⟩;obtain⟨aT,yT,eT⟩:=Kd.R_slice hf8.t;obtain⟨aD,yD,eD⟩:=Kd.R_slice hf8.d;obtain⟨aL,yL,eL⟩:=Kd.R_slice hf8.l;subst eD eL;have g5:=Blk.cell hf8.fl 5;have g6:=Blk.cell hf8.fl 6;have g7:=Blk.cell hf8.fl 7;have g8:=Blk.cell hf8.fl 8;have g9:=Blk.cell hf8.fl 9;have lg8:=Blk.lt hf8.fl;simp only[List.getElem?_toArray,List.getElem?_cons_zero,List.getElem?_cons_succ] at g5 g6 g7 g8 g9;have HF8:=Za hf8;have HK8:=Za ((Kp.of_below (Ch g (.slice a3 p.decls.length z3) (.slice a4 p.clauses.length z4)) HB57.out).trans hk (fun _ _ q=>q));have x3:=HK8.out.blk HX3.out (fun q=>by have:=HCH.out _ q;have:=HSZ.out;omega);have c30:=x3.cell 0;have c31:=x3.cell 1;have f30:=x3.frozen 0;have f31:=x3.frozen 1;have l3:=x3.lt;have x2:=HK8.out.blk HX2.out (fun q=>by have:=HCH.out _ q;have:=HSZ.out;omega);have c2:=Zt x2;have f2:=Zz x2;have l2:=x2.lt;simp only[List.getElem?_toArray,List.getElem?_cons_zero,List.getElem?_cons_succ] at c30 c31;have HQ3:=Za x3;have HQ2:=Za x2;clear x3 x2;clear hk hf8 hn8))
     clear HRU HFS HIN c1 l1;(all_goals go_wp2);all_goals refine bodyPost_ret (results_cc rfl _ _ (w0.heap.size+1) (w0.heap.size+1+1) 28 31 #[.slice a2 p.types.length z2,.slice aD o.decls.length yD,.slice none 0 0,.slice none 0 0,.slice aL o.clauses.length yL] #[.int .i64 0,.int .i64 0] (0,0) (0,0) _ _ rfl ?_ Try.underlying28 rfl (by kernel_rfl) rfl ?_ Try.underlying31 rfl (by kernel_rfl)) rfl ?_
     · exact (seven_out HQ2.out HQ3.out (Zf (Zh _))).1
     · exact (seven_out HQ2.out HQ3.out (Zf (Zh _))).2.1
     · have hk:=(seven_out (a:=.slice a2 p.types.length z2) (b:=.slice aD o.decls.length yD) (c:=.slice none 0 0) (d:=.slice none 0 0) (e:=.slice aL o.clauses.length yL) (f:=.int .i64 0) (h:=.int .i64 0) HQ2.out HQ3.out (Zf (Zh _))).2.2;have hsz:=HSZ.out;have hn:w0.heap.size≤W1.heap.size:=(by omega);have hS:∀ k,W1.heap.size≤k→k=w0.heap.size+1∨k=w0.heap.size+1+1→False:=fun k h1 h2=>by omega
       exact⟨HF8.out.bs.trans (hk.below (fun k hl e=>by omega) HF8.out.size),_,_,_,rfl,
        Kd.R_mono (Kd.R_lower (hk.R HF8.out.t (fun k h1 _ h2=>hS k h1.1.1 h2)) hn) (fun k h=>⟨Ze hn h.1.1,h.1.2⟩),
        Kd.R_mono (Kd.R_lower (hk.R HF8.out.d (fun k h1 _ h2=>hS k h1.1.1 h2)) hn) (fun k h=>⟨Ze hn h.1.1,h.1.2⟩),
        Kd.R_mono (Kd.R_lower (hk.R HF8.out.l (fun k h1 _ h2=>hS k h1.1.1 h2)) hn) (fun k h=>⟨Ze hn h.1.1,h.1.2⟩),rfl,rfl⟩
end CmpFlat
namespace RefSameR
open Go Go.RowKit RefPure RefKinds RefMem RefSameP RefSame RefExpr RefCells CmpMem CmpFind YtddmceldglelkaaW.PrintWords
structure PW (w:World) (vT vD vC vI vL:Value) (p:ProgT):Prop where
 t:Vw kTDecl w vT p.types
 d:Vw kDecl w vD p.decls
 c:Vw kComp w vC p.comps
 i:Vw kInit w vI p.inits
 l:Vw kClause w vL p.clauses
theorem PW.below {w w1:World} {vT vD vC vI vL:Value} {p:ProgT} (h:PW w vT vD vC vI vL p) (hb:Below w.heap.size w w1):PW w1 vT vD vC vI vL p:=⟨h.t.below hb,h.d.below hb,h.c.below hb,h.i.below hb,h.l.below hb⟩
theorem PW.values {w:World} {vT vD vC vI vL:Value} {p:ProgT} (h:PW w vT vD vC vI vL p):∃ A1 c1 A2 c2 A3 c3 A4 c4 A5 c5,vT=.slice A1 p.types.length c1∧vD=.slice A2 p.decls.length c2∧vC=.slice A3 p.comps.length c3∧vI=.slice A4 p.inits.length c4∧vL=.slice A5 p.clauses.length c5:=by obtain⟨A1,c1,h1⟩:=h.t.slice;obtain⟨A2,c2,h2⟩:=h.d.slice;obtain⟨A3,c3,h3⟩:=h.c.slice;obtain⟨A4,c4,h4⟩:=h.i.slice;obtain⟨A5,c5,h5⟩:=h.l.slice;exact⟨A1,c1,A2,c2,A3,c3,A4,c4,A5,c5,h1,h2,h3,h4,h5⟩
def PSm (N:Nat):Prop:=∀ (w:World) (a:ProgT) (vT vD vC vI vL uT uD uC uI uL:Value) (pl:Bool),SizeOf.sizeOf a≤N→PW w vT vD vC vI vL a→PW w uT uD uC uI uL a→Calls Try.prog 9 #[.agg #[vT,vD,vC,vI,vL],.agg #[uT,uD,uC,uI,uL],.bool pl] w fun e w'=>e=.returned (.bool true)∧Below w.heap.size w w'
def PCs (N:Nat):Prop:=∀ (w:World) (l:List CompT) (vl vm:Value) (pl:Bool),SizeOf.sizeOf l≤N→Vw kComp w vl l→Vw kComp w vm l→Calls Try.prog 25 #[vl,vm,.bool pl] w fun e w'=>e=.returned (.bool true)∧Below w.heap.size w w'
theorem comp_size {l:List CompT} {i:Nat} {x:CompT} (h:l[i]?=some x):SizeOf.sizeOf x.body<SizeOf.sizeOf l:=by have:=List.sizeOf_lt_of_mem (List.mem_of_getElem? h);have h2:SizeOf.sizeOf x.body<SizeOf.sizeOf x:=(by cases x;simp;omega);omega
theorem cell_in {w:World} {p:Addr} {v:Value} (h:w.cell? p=some v):p.block<w.heap.size:=by
 rcases Nat.lt_or_ge p.block w.heap.size with q|q
 · exact q
 · simp[World.cell?,Array.getElem?_eq_none q] at h
theorem comps_size (a:ProgT):SizeOf.sizeOf a.comps<SizeOf.sizeOf a:=by cases a;simp;omega
theorem comps_step (N:Nat) (ih:PSm N):PCs (N+1):=by
 intro w l vl vm pl hsz hl hm;obtain⟨A,c,rfl⟩:=hl.slice;obtain⟨A',c',rfl⟩:=hm.slice;have HI:=Za ih;unfold PSm at HI;have HSZ:=Za hsz;have HA:=Za hl;have HB:=Za hm;have HM:=Za hl.max;obtain⟨n,hn1⟩:∃ n,l.length=n:=⟨_,rfl⟩;rw[hn1] at HA HB HM ⊢;have HN1:=Za hn1;clear ih hsz hl hm hn1;go_enter Try.func25,Try.ntmps25;go_wp2;go_loopg [7] (n+1) (fun gk v7 wr=>∃ i:Nat,v7=.int .i64 (i:Int)∧Hid (i≤n∧Below w.heap.size w wr∧n - i<gk))
 case atStart=>exact⟨0,rfl,Za ⟨Nat.zero_le _,Below.refl _ _,by omega⟩⟩
 case round=>
  obtain⟨i,rfl,HI2⟩:=hrel;by_cases hi:i<n
  · have hib:decide (i<n)=true:=Zl hi;obtain⟨x,hx⟩:∃ t,l[i]?=some t:=⟨l[i]'(by rw[HN1.out];exact hi),by simp⟩;obtain⟨d1,rfl,vB,yT,yD,yC,yI,yL,hcv,c0,c1,c2,c3,c4,c5,c6,c7⟩:=comp_cells (vw_fixed (HA.out.below HI2.out.2.1)) i x hx;obtain⟨d2,rfl,vB',zT,zD,zC,zI,zL,hcw,e0,e1,e2,e3,e4,e5,e6,e7⟩:=comp_cells (vw_fixed (HB.out.below HI2.out.2.1)) i x hx;obtain⟨a1,b1,rfl⟩:=hcv.bases.slice;obtain⟨a2,b2,a3,b3,a4,b4,a5,b5,a6,b6,rfl,rfl,rfl,rfl,rfl⟩:=hcv.body.values;obtain⟨q1,r1,rfl⟩:=hcw.bases.slice;obtain⟨q2,r2,q3,r3,q4,r4,q5,r5,q6,r6,rfl,rfl,rfl,rfl,rfl⟩:=hcw.body.values;have hp1:PW wr _ _ _ _ _ x.body:=⟨hcv.body.t,hcv.body.d,hcv.body.c,hcv.body.i,hcv.body.l⟩;have hp2:PW wr _ _ _ _ _ x.body:=⟨hcw.body.t,hcw.body.d,hcw.body.c,hcw.body.i,hcw.body.l⟩;have HSX:Hid (SizeOf.sizeOf x.body≤N):=Za (by have:=comp_size hx;have:=HSZ.out;omega);have HTX:=Za (fun W (hb:Below wr.heap.size wr W)=>(RefSameF.texts_any W x.bases x.bases _ _ (hcv.bases.below hb) (hcw.bases.below hb)).mono (fun e w' h=>(⟨by rw[h.1,sameAll_refl _ sameS_refl],RefSameF.drewn_below h.2⟩:e=.returned (.bool true)∧Below W.heap.size W w')));have HSM:=Za (fun W (hb:Below wr.heap.size wr W)=>HI.out W x.body _ _ _ _ _ _ _ _ _ _ pl HSX.out (hp1.below hb) (hp2.below hb));have hrl:=fun W (hb:Below wr.heap.size wr W)=>(⟨(hb.cell (cell_in c0)).trans c0,(hb.cell (cell_in c1)).trans c1,(hb.cell (cell_in c2)).trans c2,(hb.cell (cell_in c3)).trans c3,(hb.cell (cell_in c4)).trans c4,(hb.cell (cell_in c5)).trans c5,(hb.cell (cell_in c6)).trans c6,(hb.cell (cell_in c7)).trans c7,(hb.cell (cell_in e0)).trans e0,(hb.cell (cell_in e1)).trans e1,(hb.cell (cell_in e2)).trans e2,(hb.cell (cell_in e3)).trans e3,(hb.cell (cell_in e4)).trans e4,(hb.cell (cell_in e5)).trans e5,(hb.cell (cell_in e6)).trans e6,(hb.cell (cell_in e7)).trans e7⟩:W.cell? (d1.add (i*8))=some (.string x.name)∧W.cell? ⟨(d1.add (i*8)).block,(d1.add (i*8)).off+1,none⟩=some (.slice a1 x.bases.length b1)∧W.cell? ⟨(d1.add (i*8)).block,(d1.add (i*8)).off+2,none⟩=some (.slice a2 x.body.types.length b2)∧W.cell? ⟨(d1.add (i*8)).block,(d1.add (i*8)).off+3,none⟩=some (.slice a3 x.body.decls.length b3)∧W.cell? ⟨(d1.add (i*8)).block,(d1.add (i*8)).off+4,none⟩=some (.slice a4 x.body.comps.length b4)∧W.cell? ⟨(d1.add (i*8)).block,(d1.add (i*8)).off+5,none⟩=some (.slice a5 x.body.inits.length b5)∧W.cell? ⟨(d1.add (i*8)).block,(d1.add (i*8)).off+6,none⟩=some (.slice a6 x.body.clauses.length b6)∧W.cell? ⟨(d1.add (i*8)).block,(d1.add (i*8)).off+7,none⟩=some (.int .i64 x.at_)∧W.cell? (d2.add (i*8))=some (.string x.name)∧W.cell? ⟨(d2.add (i*8)).block,(d2.add (i*8)).off+1,none⟩=some (.slice q1 x.bases.length r1)∧W.cell? ⟨(d2.add (i*8)).block,(d2.add (i*8)).off+2,none⟩=some (.slice q2 x.body.types.length r2)∧W.cell? ⟨(d2.add (i*8)).block,(d2.add (i*8)).off+3,none⟩=some (.slice q3 x.body.decls.length r3)∧W.cell? ⟨(d2.add (i*8)).block,(d2.add (i*8)).off+4,none⟩=some (.slice q4 x.body.comps.length r4)∧W.cell? ⟨(d2.add (i*8)).block,(d2.add (i*8)).off+5,none⟩=some (.slice q5 x.body.inits.length r5)∧W.cell? ⟨(d2.add (i*8)).block,(d2.add (i*8)).off+6,none⟩=some (.slice q6 x.body.clauses.length r6)∧W.cell? ⟨(d2.add (i*8)).block,(d2.add (i*8)).off+7,none⟩=some (.int .i64 x.at_));have hi0:(0:Int)≤(i:Int):=(by omega);have hi1:(i:Int)<(n:Int):=(by omega);have hpl:plc pl x.at_ x.at_=true:=plc_refl _ _;have hnm:(x.name.toList==x.name.toList)=true:=(by simp);have hnn:(x.name.toList != x.name.toList)=false:=(by simp);have hS0:=Below.refl wr.heap.size wr;clear hx hcv hcw hp1 hp2 c0 c1 c2 c3 c4 c5 c6 c7 e0 e1 e2 e3 e4 e5 e6 e7;go_wp2;first
    | (go_region_held3 (fun W=>Below wr.heap.size wr W) (first|assumption|(repeat (with_reducible first|assumption|exact Below.refl _ _|refine Below.drew ?_|refine Zv ?_ _)))
        (first
        | (go_at_call 60;(with_reducible refine (HTX.out _ (Below.refl _ _).drew).mono ?_);rintro e w1 ⟨rfl,hb⟩;have hS1:Below wr.heap.size wr w1:=(Below.refl _ wr).drew.trans hb;have HB1:=Za hS1;clear hb)
        | (go_at_call 26;(with_reducible refine (ZU _ _ _ _).mono ?_);rintro e w' ⟨rfl,rfl⟩;rw[hpl])
        | (go_at_call 9;(with_reducible refine (HSM.out _ HB1.out).mono ?_);rintro e w2 ⟨rfl,hb⟩;have hS2:Below wr.heap.size wr w2:=HB1.out.trans (hb.mono HB1.out.size);have HB2:=Za hS2;clear hb)))
    | fail
    (all_goals go_wp2);all_goals go_roundg (n - i)
    all_goals first
     | (have:=HI2.out.2.2;omega)
     | exact⟨i+1,by rw[CmpMem.wrap_up i (Ze hi HM.out)],Za ⟨hi,HI2.out.2.1.trans (HB2.out.mono HI2.out.2.1.size),by omega⟩⟩
  · have hib:decide (i<n)=false:=Zm hi;go_wp2;go_ret;exact⟨rfl,HI2.out.2.1⟩
end RefSameR
namespace RefSameZ
open Go Go.RowKit RefPure RefKinds RefMem RefSameP RefSame RefSameR RefExpr RefCells CmpMem YtddmceldglelkaaW.PrintWords
theorem init_cells {w:World} {A:Option Addr} {n c:Nat} {l:List InitT} (h:Vw kInit w (.slice A n c) l) (i:Nat) (x:InitT) (hx:l[i]?=some x) :
    ∃ ad,A=some ad∧w.cell? (ad.add (i*3))=some (.string x.name)∧w.cell? ⟨(ad.add (i*3)).block,(ad.add (i*3)).off+1,none⟩=some (.string x.comp)∧w.cell? ⟨(ad.add (i*3)).block,(ad.add (i*3)).off+2,none⟩=some (.int .i64 x.at_):=by
 obtain⟨ad,cs,hA,hK,hcell0⟩:=h.at_ i x hx;have hcell:∀ j u,cs[j]?=some u→w.cell? (ad.add (i*3+j))=some u:=hcell0;obtain rfl:=kInit_open hK;exact⟨ad,hA,hcell 0 _ rfl,by rw[← ZN _ _ 1 (by omega)];exact hcell 1 _ rfl,by rw[← ZN _ _ 2 (by omega)];exact hcell 2 _ rfl⟩
theorem clause_cells {w:World} {A:Option Addr} {n c:Nat} {l:List ClauseT} (h:Vw kClause w (.slice A n c) l) (i:Nat) (x:ClauseT) (hx:l[i]?=some x) :
    ∃ ad va vb,A=some ad∧Vw kEx w va x.head.args∧Vw kLit w vb x.body∧w.cell? (ad.add (i*5))=some (.string x.head.rel)∧w.cell? ⟨(ad.add (i*5)).block,(ad.add (i*5)).off+1,none⟩=some va∧w.cell? ⟨(ad.add (i*5)).block,(ad.add (i*5)).off+2,none⟩=some (.int .i64 x.head.at_)∧w.cell? ⟨(ad.add (i*5)).block,(ad.add (i*5)).off+3,none⟩=some vb∧w.cell? ⟨(ad.add (i*5)).block,(ad.add (i*5)).off+4,none⟩=some (.int .i64 x.at_):=by
 obtain⟨ad,cs,hA,hK,hcell0⟩:=h.at_ i x hx;have hcell:∀ j u,cs[j]?=some u→w.cell? (ad.add (i*5+j))=some u:=hcell0;obtain⟨va,vb,rfl,hva,hvb⟩:=CmpKinds.kL_open hK;exact⟨ad,va,vb,hA,hva,hvb,hcell 0 _ rfl,by rw[← ZN _ _ 1 (by omega)];exact hcell 1 _ rfl,by rw[← ZN _ _ 2 (by omega)];exact hcell 2 _ rfl,by rw[← ZN _ _ 3 (by omega)];exact hcell 3 _ rfl,by rw[← ZN _ _ 4 (by omega)];exact hcell 4 _ rfl⟩
theorem same_step (N:Nat) (ih:PCs N):PSm (N+1):=by
 intro w a vT vD vC vI vL uT uD uC uI uL pl hsz hp hq;obtain⟨A1,c1,A2,c2,A3,c3,A4,c4,A5,c5,rfl,rfl,rfl,rfl,rfl⟩:=hp.values;obtain⟨B1,d1,B2,d2,B3,d3,B4,d4,B5,d5,rfl,rfl,rfl,rfl,rfl⟩:=hq.values;have HI:=Za ih;unfold PCs at HI;have HSZ:Hid (SizeOf.sizeOf a.comps≤N):=Za (by have:=comps_size a;omega);have HP:=Za hp;have HQ:=Za hq;have HMI:=Za hp.i.max;have HMC:=Za hp.l.max;obtain⟨ni,hni⟩:∃ n,a.inits.length=n:=⟨_,rfl⟩;obtain⟨nc,hnc⟩:∃ n,a.clauses.length=n:=⟨_,rfl⟩;have HNI:=Za hni;have HNC:=Za hnc;have HPI:=Za hp.i;have HQI:=Za hq.i;have HPC:=Za hp.l;have HQC:=Za hq.l;simp only[hni] at HPI HQI HMI;simp only[hnc] at HPC HQC HMC;have HKD:=Za (fun W (hb:Below w.heap.size w W)=>(RefSameT.kinds_any W a.types a.types _ _ pl (hp.t.below hb) (hq.t.below hb)).mono (fun e w' h=>(⟨by rw[h.1,sameAll_refl _ (sameT_refl pl)],h.2⟩:e=.returned (.bool true)∧Below W.heap.size W w')));have HDC:=Za (fun W (hb:Below w.heap.size w W)=>(RefSameD.decls_any W a.decls a.decls _ _ pl (hp.d.below hb) (hq.d.below hb)).mono (fun e w' h=>(⟨by rw[h.1,sameAll_refl _ (sameD_refl pl)],h.2⟩:e=.returned (.bool true)∧Below W.heap.size W w')));have HCS:=Za (fun W (hb:Below w.heap.size w W)=>HI.out W a.comps _ _ pl HSZ.out (hp.c.below hb) (hq.c.below hb));simp only[hni,hnc];clear ih hsz hp hq hni hnc;obtain⟨W1,hW1,hx1,hx2,hbl⟩:∃ W1,(w.alloc (.cells #[.slice A1 a.types.length c1,.slice A2 a.decls.length c2,.slice A3 a.comps.length c3,.slice A4 ni c4,.slice A5 nc c5] 28)).alloc (.cells #[.slice B1 a.types.length d1,.slice B2 a.decls.length d2,.slice B3 a.comps.length d3,.slice B4 ni d4,.slice B5 nc d5] 28)=W1∧Blk W1 w.heap.size 28 #[.slice A1 a.types.length c1,.slice A2 a.decls.length c2,.slice A3 a.comps.length c3,.slice A4 ni c4,.slice A5 nc c5]∧Blk W1 (w.heap.size+1) 28 #[.slice B1 a.types.length d1,.slice B2 a.decls.length d2,.slice B3 a.comps.length d3,.slice B4 ni d4,.slice B5 nc d5]∧Below w.heap.size w W1:=⟨_,rfl,(Blk.new w _ _).alloc _,blk_new1 w _ _ _,below2 w _ _⟩;have HX1:=Za hx1;have HX2:=Za hx2;have HBL:=Za hbl;have HW:=Za hW1;have HKD1:=HKD.out W1 hbl;rw[← hW1] at HKD1;have HKE:=Za HKD1;clear hx1 hx2 hbl hW1 HKD1;go_enter Try.func9,Try.ntmps9
 go_wp2_with (first
  | (go_at_call 23;(with_reducible refine (HKE.out).mono ?_);rintro e w2 ⟨rfl,hb⟩;rw[HW.out] at hb;have h1:=HX1.out.below hb HX1.out.lt;have h2:=HX2.out.below hb HX2.out.lt;have HB2:=Za (HBL.out.trans (hb.mono HBL.out.size));have HH1:=Za h1;have HH2:=Za h2;have k1:=Zt h1;have k2:=Zt h2;have l1:=h1.lt;have l2:=h2.lt;clear h1 h2 hb)
  | (go_at_call 24;(with_reducible refine (HDC.out _ HB2.out).mono ?_);rintro e w3 ⟨rfl,hb⟩;have h1:=HH1.out.below hb HH1.out.lt;have h2:=HH2.out.below hb HH2.out.lt;have HB3:=Za (HB2.out.trans (hb.mono HB2.out.size));have HH3:=Za h1;have HH4:=Za h2;have k1:=Zt h1;have k2:=Zt h2;have l1:=h1.lt;have l2:=h2.lt;clear h1 h2 hb)
  | (go_at_call 25;(with_reducible refine (HCS.out _ HB3.out).mono ?_);rintro e w4 ⟨rfl,hb⟩;have h1:=HH3.out.below hb HH3.out.lt;have h2:=HH4.out.below hb HH4.out.lt;have HB4:=Za (HB3.out.trans (hb.mono HB3.out.size));have HH5:=Za h1;have HH6:=Za h2;have k1:=Zt h1;have k2:=Zt h2;have l1:=h1.lt;have l2:=h2.lt;clear h1 h2 hb))
 clear k1 k2 l1 l2 HKD HDC HCS HKE HB2 HB3 HH1 HH2 HH3 HH4 HX1 HX2 HW HBL;go_loopg [7] (ni+1) (fun gk v7 wr=>∃ i:Nat,v7=.int .i64 (i:Int)∧Hid (i≤ni∧Below w4.heap.size w4 wr∧ni - i<gk))
 case atStart=>exact⟨0,rfl,Za ⟨Nat.zero_le _,Below.refl _ _,by omega⟩⟩
 case round=>
  obtain⟨i,rfl,HI2⟩:=hrel;have hbw:Below w.heap.size w wr:=HB4.out.trans (HI2.out.2.1.mono HB4.out.size);have h1:=HH5.out.below HI2.out.2.1 HH5.out.lt;have h2:=HH6.out.below HI2.out.2.1 HH6.out.lt;have HG1:=Za h1;have HG2:=Za h2;have HBW:=Za hbw;by_cases hi:i<ni
  · have hib:decide (i<ni)=true:=Zl hi;obtain⟨x,hx⟩:∃ t,a.inits[i]?=some t:=⟨a.inits[i]'(by rw[HNI.out];exact hi),by simp⟩;obtain⟨x1,rfl,p0,p1,p2⟩:=init_cells (HPI.out.below hbw) i x hx;obtain⟨x2,rfl,q0,q1,q2⟩:=init_cells (HQI.out.below hbw) i x hx;have hi0:(0:Int)≤(i:Int):=(by omega);have hi1:(i:Int)<(ni:Int):=(by omega);have hpl:plc pl x.at_ x.at_=true:=plc_refl _ _;have n1:(x.name.toList==x.name.toList)=true:=(by simp);have n2:(x.name.toList != x.name.toList)=false:=(by simp);have n3:(x.comp.toList==x.comp.toList)=true:=(by simp);have n4:(x.comp.toList != x.comp.toList)=false:=(by simp);have k1:=h1.cell 3;have k2:=h2.cell 3;have l1:=h1.lt;have l2:=h2.lt;simp only[List.getElem?_toArray,List.getElem?_cons_zero,List.getElem?_cons_succ] at k1 k2;clear hx h1 h2 hbw;go_wp2;(try simp only[List.append_eq,List.cons_append,List.nil_append])
    go_quiet (first
     | (go_at_call 26;exact Calls.quiet_of_same ((ZU _ _ _ _).mono fun _ _ q=>⟨q.1,q.2.symm⟩)))
    go_wp2;all_goals go_roundg (ni - i)
    all_goals first
     | (have:=HI2.out.2.2;omega)
     | exact⟨i+1,by rw[CmpMem.wrap_up i (Ze hi HMI.out)],Za ⟨hi,HI2.out.2.1.trans (Below.mono (Zu (Below.refl _ _) _) HI2.out.2.1.size),by omega⟩⟩
  · have hib:decide (i<ni)=false:=Zm hi;have k1:=Zt h1;have k2:=Zt h2;have l1:=h1.lt;have l2:=h2.lt;clear h1 h2 hbw hi HI2;go_wp2;clear k1 k2 l1 l2 hib;generalize wr=W5 at *;go_loopg [8] (nc+1) (fun gk v8 wr=>∃ i:Nat,v8=.int .i64 (i:Int)∧Hid (i≤nc∧Below W5.heap.size W5 wr∧nc - i<gk))
    case atStart=>exact⟨0,rfl,Za ⟨Nat.zero_le _,Below.refl _ _,by omega⟩⟩
    case round=>
     obtain⟨i,rfl,HI2⟩:=hrel;have hbw:Below w.heap.size w wr:=HBW.out.trans (HI2.out.2.1.mono HBW.out.size);have h1:=HG1.out.below HI2.out.2.1 HG1.out.lt;have h2:=HG2.out.below HI2.out.2.1 HG2.out.lt;have HBV:=Za hbw;have k1:=h1.cell 4;have k2:=h2.cell 4;have l1:=h1.lt;have l2:=h2.lt;simp only[List.getElem?_toArray,List.getElem?_cons_zero,List.getElem?_cons_succ] at k1 k2;by_cases hi:i<nc
     · have hib:decide (i<nc)=true:=Zl hi;obtain⟨x,hx⟩:∃ t,a.clauses[i]?=some t:=⟨a.clauses[i]'(by rw[HNC.out];exact hi),by simp⟩;obtain⟨x1,va,vb,rfl,hva,hvb,p0,p1,p2,p3,p4⟩:=clause_cells (HPC.out.below hbw) i x hx;obtain⟨x2,vc,vd,rfl,hvc,hvd,q0,q1,q2,q3,q4⟩:=clause_cells (HQC.out.below hbw) i x hx;have HCC:=Za (fun W (hb:Below wr.heap.size wr W)=>(RefSameC.sameClause_any W x x va vc vb vd pl (hva.below hb) (hvc.below hb) (hvb.below hb) (hvd.below hb)).mono (fun e w' h=>(⟨by rw[h.1,sameCl_refl],h.2⟩:e=.returned (.bool true)∧Below W.heap.size W w')));obtain⟨g1,y1,rfl⟩:=hva.slice;obtain⟨g2,y2,rfl⟩:=hvb.slice;obtain⟨g3,y3,rfl⟩:=hvc.slice;obtain⟨g4,y4,rfl⟩:=hvd.slice;have hi0:(0:Int)≤(i:Int):=(by omega);have hi1:(i:Int)<(nc:Int):=(by omega);have hS0:=Below.refl wr.heap.size wr;have hrl:=fun W (hb:Below wr.heap.size wr W)=>(⟨(hb.cell (cell_in p0)).trans p0,(hb.cell (cell_in p1)).trans p1,(hb.cell (cell_in p2)).trans p2,(hb.cell (cell_in p3)).trans p3,(hb.cell (cell_in p4)).trans p4,(hb.cell (cell_in q0)).trans q0,(hb.cell (cell_in q1)).trans q1,(hb.cell (cell_in q2)).trans q2,(hb.cell (cell_in q3)).trans q3,(hb.cell (cell_in q4)).trans q4,(hb.cell (cell_in k1)).trans k1,(hb.cell (cell_in k2)).trans k2⟩:W.cell? (x1.add (i*5))=some (.string x.head.rel)∧W.cell? ⟨(x1.add (i*5)).block,(x1.add (i*5)).off+1,none⟩=some (.slice g1 x.head.args.length y1)∧W.cell? ⟨(x1.add (i*5)).block,(x1.add (i*5)).off+2,none⟩=some (.int .i64 x.head.at_)∧W.cell? ⟨(x1.add (i*5)).block,(x1.add (i*5)).off+3,none⟩=some (.slice g2 x.body.length y2)∧W.cell? ⟨(x1.add (i*5)).block,(x1.add (i*5)).off+4,none⟩=some (.int .i64 x.at_)∧W.cell? (x2.add (i*5))=some (.string x.head.rel)∧W.cell? ⟨(x2.add (i*5)).block,(x2.add (i*5)).off+1,none⟩=some (.slice g3 x.head.args.length y3)∧W.cell? ⟨(x2.add (i*5)).block,(x2.add (i*5)).off+2,none⟩=some (.int .i64 x.head.at_)∧W.cell? ⟨(x2.add (i*5)).block,(x2.add (i*5)).off+3,none⟩=some (.slice g4 x.body.length y4)∧W.cell? ⟨(x2.add (i*5)).block,(x2.add (i*5)).off+4,none⟩=some (.int .i64 x.at_)∧W.cell? ⟨w.heap.size,4,none⟩=some (.slice (some x1) nc c5)∧W.cell? ⟨w.heap.size+1,4,none⟩=some (.slice (some x2) nc d5));clear hx hva hvb hvc hvd h1 h2 hbw;go_wp2
       go_region_held3 (fun W=>Below wr.heap.size wr W) (first|assumption|(repeat (with_reducible first|assumption|exact Below.refl _ _|refine Below.drew ?_|refine Zv ?_ _)))
        (first
        | (go_at_call 27;(with_reducible refine (HCC.out _ (Below.refl _ _).drew).mono ?_);rintro e w1 ⟨rfl,hb⟩;have hS1:Below wr.heap.size wr w1:=(Below.refl _ wr).drew.trans hb;have HB1:=Za hS1;clear hb))
       (all_goals go_wp2);all_goals go_roundg (nc - i)
       all_goals first
        | (have:=HI2.out.2.2;omega)
        | exact⟨i+1,by rw[CmpMem.wrap_up i (Ze hi HMC.out)],Za ⟨hi,HI2.out.2.1.trans (HB1.out.mono HI2.out.2.1.size),by omega⟩⟩
     · have hib:decide (i<nc)=false:=Zm hi;clear h1 h2 hbw;go_wp2;go_ret;exact⟨rfl,HBV.out⟩
theorem same_both:∀ N:Nat,PSm N∧PCs N:=by
 intro N;induction N with
 | zero=>
   refine⟨fun w a vT vD vC vI vL uT uD uC uI uL pl hsz _ _=>?_,fun w l vl vm pl hsz _ _=>?_⟩
   · cases a;simp at hsz
   · cases l <;> simp at hsz
 | succ N ih=>exact⟨same_step N ih.2,comps_step N ih.1⟩
theorem same_any (w:World) (a:ProgT) (vT vD vC vI vL uT uD uC uI uL:Value) (pl:Bool) (h1:PW w vT vD vC vI vL a) (h2:PW w uT uD uC uI uL a):Calls Try.prog 9 #[.agg #[vT,vD,vC,vI,vL],.agg #[uT,uD,uC,uI,uL],.bool pl] w fun e w'=>e=.returned (.bool true)∧Below w.heap.size w w':=
 (same_both (SizeOf.sizeOf a)).1 w a vT vD vC vI vL uT uD uC uI uL pl (Zc _) h1 h2
end RefSameZ
namespace CmpAlive
open Go Go.RowKit RefPure LexPure
def txt:List UInt8:=[46,99,111,109,112,32,67,32,123,32,46,100,101,99,108,32,114,40,120,58,32,110,117,109,98,101,114,41,32,114,40,120,41,32,58,45,32,101,40,120,41,46,32,125,32,46,105,110,105,116,32,100,32,61,32,67]
def vr:ByteArray:=str [114]
def vx:ByteArray:=str [120]
def want:ProgT:=⟨[],[],[⟨str [67],[],⟨[],[⟨vr,[⟨vx,str [110,117,109,98,101,114]⟩],false,false,10⟩],[],[],[⟨⟨vr,[⟨1,0,vx,[],31⟩],29⟩,[⟨1,⟨str [101],[⟨1,0,vx,[],39⟩],37⟩,str [],ex0,ex0,37⟩],29⟩]⟩,0⟩],[⟨str [100],str [67],45⟩],[]⟩
theorem parse_ok:parse 400 txt=some (want,0,0):=by kernel_rfl
end CmpAlive
namespace CmpLaw
open Go Go.RowKit CmpFind CmpFlat CmpAlive RefSameR RefSameZ RefPure RefKinds RefMem RefSameP CmpPure CmpMem CmpKinds RefExpr RefFields RefCells YtddmceldglelkaaW.PrintWords
theorem parse_calls (s:ByteArray) (hs:s.size≤140737488351232):∃ k r,parse k s.data.toList=some r∧CmpSize.Small r.1∧∀ w,Calls Try.prog 7 #[.string s] w (RefParse.ParsePost w r):=by obtain⟨k,r,hr,hk,hsm⟩:=CmpSize.parse_some s.data.toList;exact⟨k,r,hr,hsm,fun w=>RefParse.parse_any s hs w k (by omega) r hr⟩
theorem rows_pw {w:World} {n0:Nat} {vT vD vC vI vL:Value} {p:ProgT} (h:RefProgS.Rows w n0 vT vD vC vI vL p):PW w vT vD vC vI vL p:=⟨Vw.of_R h.t,Vw.of_R h.d,Vw.of_R h.c,Vw.of_R h.i,Vw.of_R h.l⟩
theorem pw_pv {w:World} {vT vD vC vI vL:Value} {p:ProgT} (h:PW w vT vD vC vI vL p):PV w w vT vD vC vI vL p:=⟨vw_fixed h.t,vw_fixed h.d,vw_fixed h.c,vw_fixed h.i,vw_fixed h.l⟩
theorem vw_map {α:Type} {d d':Kd α} {w:World} {v:Value} {xs:List α} (h:Vw d w v xs) (hz:d'.sz=d.sz) (hK:∀ x cs,d.K w x cs→d'.K w x cs):Vw d' w v xs:=by obtain⟨A,c,rfl,hl,h1,h2,h3⟩:=h;refine⟨A,c,rfl,hl,h1,h2,fun hn=>?_⟩;obtain⟨ad,hA,hr⟩:=h3 hn;refine⟨ad,hA,fun j x hj=>?_⟩;obtain⟨cs,hcl,hk,hcell⟩:=hr j x hj;rw[hz];exact⟨cs,hcl,hK x cs hk,hcell⟩
theorem vw_unfix {α:Type} {d:Kd α} {w0 w:World} {v:Value} {xs:List α} (h:Vw (Kd.fixed d w0) w v xs) (hb:Below w0.heap.size w0 w):Vw d w v xs:=vw_map h rfl (fun _ _ hk=>d.K_below hb hk)
theorem vw_mL {w0 w:World} {v:Value} {xs:List ClauseT} (h:Vw (mL w0) w v xs) (hb:Below w0.heap.size w0 w):Vw kClause w v xs:=vw_map h rfl (fun x cs hk=>by obtain⟨va,vb,rfl,hva,hvb⟩:=mL_open hk;obtain⟨A,c,rfl,h1,h2⟩:=hva.below hb;obtain⟨B,d,rfl,h3,h4⟩:=vw_unfix hvb hb;exact kClause_mk w x h1 h2 h3 h4)
theorem vw_nil {α:Type} (d:Kd α) (w:World):Vw d w (.slice none 0 0) []:=⟨none,0,rfl,Zc _,⟨rfl,Nat.zero_le _,fun h=>absurd h (Nat.lt_irrefl _)⟩⟩
def FlatView (w:World) (r:Except (Int×Int) ProgT) (e:Ending) (w':World):Prop:=
 Below w.heap.size w w'∧
 match r with
 | .error z=>e=.returned (.tuple #[.agg #[.slice none 0 0,.slice none 0 0,.slice none 0 0,.slice none 0 0,.slice none 0 0],.agg #[.int .i64 z.1,.int .i64 z.2]])
 | .ok q=>∃ uT uD uL,e=.returned (.tuple #[.agg #[uT,uD,.slice none 0 0,.slice none 0 0,uL],.agg #[.int .i64 0,.int .i64 0]])∧PW w' uT uD (.slice none 0 0) (.slice none 0 0) uL q∧q.comps=[]∧q.inits=[]
theorem flat_view {w w':World} {r:Except (Int×Int) ProgT} {e:Ending} (h:FlatPost w r e w'):FlatView w r e w':=by
 obtain⟨hb,h⟩:=h;refine⟨hb,?_⟩;cases r with
 | error z=>exact h
 | ok q=>
   obtain⟨uT,uD,uL,he,h1,h2,h3,h4,h5⟩:=h;refine⟨uT,uD,uL,he,⟨vw_unfix (Vw.of_R h1) hb,vw_unfix (Vw.of_R h2) hb,?_,?_,vw_mL (Vw.of_R h3) hb⟩,h4,h5⟩
   · rw[h4];exact vw_nil _ _
   · rw[h5];exact vw_nil _ _
theorem flat_calls (w:World) (vT vD vC vI vL:Value) (p:ProgT) (hv:PW w vT vD vC vI vL p) (hs:CmpSize.Small p) (r:Except (Int×Int) ProgT) (hr:flatS p=some r) :
    Calls Try.prog 8 #[.agg #[vT,vD,vC,vI,vL]] w (FlatView w r):=(flatten_any w vT vD vC vI vL p (pw_pv hv) hs r hr).mono (fun _ _ h=>flat_view h)
def FView (w:World) (q:ProgT) (e:Ending) (w':World):Prop:=
 Below w.heap.size w w'∧∃ A1 c1 A2 c2 A5 c5,e=.returned (.tuple #[.agg #[.slice A1 q.types.length c1,.slice A2 q.decls.length c2,.slice none 0 0,.slice none 0 0,.slice A5 q.clauses.length c5],.agg #[.int .i64 0,.int .i64 0]])∧PW w' (.slice A1 q.types.length c1) (.slice A2 q.decls.length c2) (.slice none 0 0) (.slice none 0 0) (.slice A5 q.clauses.length c5) q
theorem f_view {w w':World} {q:ProgT} {e:Ending} (h:FlatView w (.ok q) e w'):FView w q e w':=by obtain⟨hb,uT,uD,uL,he,hp,_,_⟩:=h;obtain⟨A1,c1,rfl⟩:=hp.t.slice;obtain⟨A2,c2,rfl⟩:=hp.d.slice;obtain⟨A5,c5,rfl⟩:=hp.l.slice;exact⟨hb,A1,c1,A2,c2,A5,c5,he,hp⟩
def flatWant:ProgT:=⟨[],[⟨str [100,46,114],[⟨vx,str [110,117,109,98,101,114]⟩],false,false,10⟩],[],[],[⟨⟨str [100,46,114],[⟨1,0,vx,[],31⟩],29⟩,[⟨1,⟨str [101],[⟨1,0,vx,[],39⟩],37⟩,str [],ex0,ex0,37⟩],29⟩]⟩
theorem flat_want:flatS want=some (.ok flatWant):=by kernel_rfl
def txtB:ByteArray:=⟨#[46,99,111,109,112,32,67,32,123,32,46,100,101,99,108,32,114,40,120,58,32,110,117,109,98,101,114,41,32,114,40,120,41,32,58,45,32,101,40,120,41,46,32,125,32,46,105,110,105,116,32,100,32,61,32,67]⟩
theorem small_want:CmpSize.Small want:=CmpSize.parse_small 400 (by decide) txt (want,0,0) parse_ok
theorem parse_txt (w:World):Calls Try.prog 7 #[.string txtB] w (RefParse.ParsePost w (want,0,0)):=RefParse.parse_any txtB (by decide) w 400 (by decide) _ parse_ok
def ParseView (w:World) (p:ProgT) (why fat:Int) (e:Ending) (w':World):Prop:=
 ∃ A1 c1 A2 c2 A3 c3 A4 c4 A5 c5,e=.returned (.tuple #[.agg #[.slice A1 p.types.length c1,.slice A2 p.decls.length c2,.slice A3 p.comps.length c3,.slice A4 p.inits.length c4,.slice A5 p.clauses.length c5],.agg #[.int .i64 why,.int .i64 fat]])∧PW w' (.slice A1 p.types.length c1) (.slice A2 p.decls.length c2) (.slice A3 p.comps.length c3) (.slice A4 p.inits.length c4) (.slice A5 p.clauses.length c5) p∧Below w.heap.size w w'
theorem parse_view {w w':World} {r:ProgT×Int×Int} {e:Ending} (h:RefParse.ParsePost w r e w'):ParseView w r.1 r.2.1 r.2.2 e w':=by obtain⟨vT,vD,vC,vI,vL,he,hr,hb⟩:=h;have hp:=rows_pw hr;obtain⟨A1,c1,A2,c2,A3,c3,A4,c4,A5,c5,rfl,rfl,rfl,rfl,rfl⟩:=hp.values;exact⟨A1,c1,A2,c2,A3,c3,A4,c4,A5,c5,he,hp,hb⟩
theorem decl_at0 {w:World} {A:Option Addr} {n c:Nat} {x:DeclT} (h:Vw kDecl w (.slice A n c) [x]):∃ ad,A=some ad∧w.cell? ad=some (.string x.name):=by obtain⟨ad,cs,hA,hK,hcell0⟩:=h.at_ 0 x rfl;have hcell:∀ j u,cs[j]?=some u→w.cell? (ad.add (0*5+j))=some u:=hcell0;obtain⟨A2,c2,rfl,_⟩:=kDecl_open hK;exact⟨ad,hA,by simpa [Addr.add] using hcell 0 _ rfl⟩
theorem clause_at0 {w:World} {A:Option Addr} {n c:Nat} {x:ClauseT} (h:Vw kClause w (.slice A n c) [x]):∃ ad,A=some ad∧w.cell? ad=some (.string x.head.rel):=by obtain⟨ad,cs,hA,hK,hcell0⟩:=h.at_ 0 x rfl;have hcell:∀ j u,cs[j]?=some u→w.cell? (ad.add (0*5+j))=some u:=hcell0;obtain⟨va,vb,rfl,_⟩:=kL_open hK;exact⟨ad,hA,by simpa [Addr.add] using hcell 0 _ rfl⟩
def AView (w:World) (e:Ending) (w':World):Prop:=
 Below w.heap.size w w'∧∃ A1 c1 a2 c2 a5 c5,e=.returned (.tuple #[.agg #[.slice A1 0 c1,.slice (some a2) 1 c2,.slice none 0 0,.slice none 0 0,.slice (some a5) 1 c5],.agg #[.int .i64 0,.int .i64 0]])∧w'.cell? a2=some (.string ⟨#[100,46,114]⟩)∧w'.cell? a5=some (.string ⟨#[100,46,114]⟩)
theorem alive_view {w w':World} {e:Ending} (h:FlatView w (.ok flatWant) e w'):AView w e w':=by obtain⟨hb,uT,uD,uL,he,hp,_,_⟩:=h;obtain⟨A1,c1,rfl⟩:=hp.t.slice;obtain⟨A2,c2,rfl⟩:=hp.d.slice;obtain⟨A5,c5,rfl⟩:=hp.l.slice;obtain⟨a2,rfl,h2⟩:=decl_at0 (x:=⟨str [100,46,114],[⟨vx,str [110,117,109,98,101,114]⟩],false,false,10⟩) hp.d;obtain⟨a5,rfl,h5⟩:=clause_at0 (x:=⟨⟨str [100,46,114],[⟨1,0,vx,[],31⟩],29⟩,[⟨1,⟨str [101],[⟨1,0,vx,[],39⟩],37⟩,str [],ex0,ex0,37⟩],29⟩) hp.l;exact⟨hb,A1,c1,a2,c2,a5,c5,he,h2,h5⟩
theorem isflat_any (w:World) (A1 A2 A5:Option Addr) (n1 n2 n5 c1 c2 c5:Nat):Calls Try.prog 28 #[.agg #[.slice A1 n1 c1,.slice A2 n2 c2,.slice none 0 0,.slice none 0 0,.slice A5 n5 c5]] w fun e w'=>e=.returned (.bool true)∧Below w.heap.size w w':=by go_enter Try.func28,Try.ntmps28;go_wp2;go_ret;exact⟨rfl,below1 _ _⟩
theorem alive_any (w:World):Calls Try.prog 10 #[] w fun e w'=>e=.returned (.bool true)∧Below w.heap.size w w':=by
 have HP:=Za (fun W=>(parse_txt W).mono (fun _ _ h=>parse_view h));simp only[txtB] at HP;have e1:((⟨#[100,46,114]⟩:ByteArray).toList==(⟨#[100,46,114]⟩:ByteArray).toList)=true:=(by simp);have HF:=Za (fun W vT vD vC vI vL h=>(flat_calls W vT vD vC vI vL want h small_want _ flat_want).mono (fun _ _ h=>alive_view h));go_enter Try.func10,Try.ntmps10
 go_wp2_with (first
  | (go_at_call 7;(with_reducible refine (HP.out _).mono ?_);rintro e w1 ⟨A1,c1,A2,c2,A3,c3,A4,c4,A5,c5,rfl,hp,hb⟩;have HPW:=Za hp;have HB1:=Za hb;clear hp hb)
  | (go_at_call 8;(with_reducible refine (HF.out _ _ _ _ _ _ (HPW.out.below (below2 _ _ _))).mono ?_);rintro e w2 ⟨hb,B1,d1,a2,d2,a5,d5,rfl,hn1,hn2⟩;have HB2:=Za (HB1.out.trans ((below_in (below2 _ _ _) hb).mono HB1.out.size));have HF2:=Za ((blk_new1 w1 (.cells #[.slice A1 want.types.length c1,.slice A2 want.decls.length c2,.slice A3 want.comps.length c3,.slice A4 want.inits.length c4,.slice A5 want.clauses.length c5] 28) 31 #[.int .i64 0,.int .i64 0]).below hb (blk_new1 w1 (.cells #[.slice A1 want.types.length c1,.slice A2 want.decls.length c2,.slice A3 want.comps.length c3,.slice A4 want.inits.length c4,.slice A5 want.clauses.length c5] 28) 31 #[.int .i64 0,.int .i64 0]).lt);have hla2:=cell_in hn1;have hla5:=cell_in hn2;have g0:=HF2.out.cell 0;have g1:=HF2.out.cell 1;have lx3:=HF2.out.lt;have lx4:w1.heap.size<w2.heap.size:=Nat.lt_of_succ_lt lx3;simp only[List.getElem?_toArray,List.getElem?_cons_zero,List.getElem?_cons_succ] at g0 g1;clear hb)
  | (go_at_call 28;(with_reducible refine (isflat_any _ _ _ _ _ _ _ _ _ _).mono ?_);rintro e w3 ⟨rfl,hb⟩;have HB3:=Za hb;clear hb))
 go_ret;exact⟨rfl,HB2.out.trans ((below_in (below2 _ _ _) HB3.out).mono HB2.out.size)⟩
end CmpLaw
namespace CmpErr
open Go Go.RowKit RefPure CmpPure
theorem allS_err {α:Type} (f:α→Except (Int×Int) α) (hf:∀ x z,f x=.error z→z.1≠0):∀ (l:List α) z,allS f l=.error z→z.1≠0:=by
 intro l;induction l with
 | nil=>intro z h;cases h
 | cons a l ih=>
   intro z h;rw[allS] at h;cases e:f a with
   | error y=>rw[e] at h;injection h with h;exact h▸hf a y e
   | ok b=>
     rw[e] at h;simp only at h;cases e2:allS f l with
     | error y=>rw[e2] at h;injection h with h;exact h▸ih y e2
     | ok m=>rw[e2] at h;cases h
theorem declS_err (pre:ByteArray) (own:List ByteArray) (d:DeclT) (z:Int×Int) (h:declS pre own d=.error z):z.1≠0:=by
 unfold declS at h;split at h
 · injection h with h;rw[← h];simp
 · cases h
theorem atomS_err (pre:ByteArray) (own:List ByteArray) (d:AtomT) (z:Int×Int) (h:atomS pre own d=.error z):z.1≠0:=by
 unfold atomS at h;split at h
 · injection h with h;rw[← h];simp
 · cases h
theorem litS_err (pre:ByteArray) (own:List ByteArray) (d:LitT) (z:Int×Int) (h:litS pre own d=.error z):z.1≠0:=by
 unfold litS at h;split at h
 · cases e:atomS pre own d.atom with
   | error y=>rw[e] at h;injection h with h;exact h▸atomS_err _ _ _ _ e
   | ok a=>rw[e] at h;cases h
 · cases h
theorem clauseS_err (pre:ByteArray) (own:List ByteArray) (d:ClauseT) (z:Int×Int) (h:clauseS pre own d=.error z):z.1≠0:=by
 unfold clauseS at h;cases e:atomS pre own d.head with
 | error y=>rw[e] at h;injection h with h;exact h▸atomS_err _ _ _ _ e
 | ok a=>
   rw[e] at h;simp only at h;cases e2:allS (litS pre own) d.body with
   | error y=>rw[e2] at h;injection h with h;exact h▸allS_err _ (litS_err pre own) _ _ e2
   | ok b=>rw[e2] at h;cases h
theorem twice_err:∀ (l:List CompT) (met:List ByteArray) z,twice l met=some z→z.1≠0:=by
 intro l;induction l with
 | nil=>intro met z h;cases h
 | cons c l ih=>
   intro met z h;rw[twice] at h;split at h
   · injection h with h;rw[← h];simp
   · exact ih _ _ h
theorem inner_err:∀ (l:List CompT) z,inner l=some z→z.1≠0:=by
 intro l;induction l with
 | nil=>intro z h;cases h
 | cons c l ih=>
   intro z h;rw[inner] at h;split at h
   · injection h with h;rw[← h];simp
   · split at h
     · injection h with h;rw[← h];simp
     · exact ih _ h
theorem initsS_err (whole:ByteArray→Option (Int×ProgT)) (inst:ProgT→ByteArray→Int→List ByteArray→Out→Option (Except (Int×Int) Out)) (hi:∀ b p a w o z,inst b p a w o=some (.error z)→z.1≠0) (pre:ByteArray) (way:List ByteArray):∀ (l:List InitT) (met:List ByteArray) (o:Out) z,initsS whole inst pre way l met o=some (.error z)→z.1≠0:=by
 intro l;induction l with
 | nil=>intro met o z h;injection h with h;cases h
 | cons x l ih=>
   intro met o z h;unfold initsS at h;split at h
   · injection h with h;injection h with h;rw[← h];simp
   · cases e:whole x.comp with
     | none=>rw[e] at h;cases h
     | some r=>
       obtain⟨y,b⟩:=r;rw[e] at h;simp only at h;split at h
       · next hy=>injection h with h;injection h with h;rw[← h];exact hy
       · split at h
         · injection h with h;injection h with h;rw[← h];simp
         · cases e2:inst b (dot pre x.name) x.at_ (way++[x.comp]) o with
           | none=>rw[e2] at h;cases h
           | some r=>
             rw[e2] at h;cases r with
             | error y=>injection h with h;injection h with h;exact h▸hi _ _ _ _ _ _ e2
             | ok o1=>exact ih _ _ _ h
theorem instS_err (whole:ByteArray→Option (Int×ProgT)):∀ (k:Nat) (b:ProgT) (p:ByteArray) (a:Int) (w:List ByteArray) (o:Out) z,instS whole k b p a w o=some (.error z)→z.1≠0:=by
 intro k;induction k with
 | zero=>intro b p a w o z h;cases h
 | succ k ih=>
   intro b p a w o z h;unfold instS at h;split at h
   · injection h with h;injection h with h;rw[← h];simp
   · cases e:allS (declS p (ownS b)) b.decls with
     | error y=>rw[e] at h;injection h with h;injection h with h;exact h▸allS_err _ (declS_err _ _) _ _ e
     | ok ds=>
       rw[e] at h;simp only at h;cases e2:allS (clauseS p (ownS b)) b.clauses with
       | error y=>rw[e2] at h;injection h with h;injection h with h;exact h▸allS_err _ (clauseS_err _ _) _ _ e2
       | ok ls=>
         rw[e2] at h;simp only at h;split at h
         · injection h with h;injection h with h;rw[← h];simp
         · exact initsS_err _ _ (fun b p a w o z=>ih b p a w o z) _ _ _ _ _ _ h
theorem flat_err (p:ProgT) (z:Int×Int) (h:flatS p=some (.error z)):z.1≠0:=by
 unfold flatS at h;cases e:rulesS p.comps with
 | some y=>
   rw[e] at h;injection h with h
   injection h with h
   subst h;unfold rulesS at e;cases e2:twice p.comps [] with
   | some y=>rw[e2] at e;injection e with e;exact e▸twice_err _ _ _ e2
   | none=>rw[e2] at e;exact inner_err _ _ e
 | none=>
   rw[e] at h;obtain⟨r,h1,h2⟩:=Option.map_eq_some_iff.1 h;cases r with
   | error y=>injection h2 with h2;subst h2;exact initsS_err _ _ (fun b p a w o z=>instS_err _ _ b p a w o z) _ _ _ _ _ _ h1
   | ok o=>cases h2
end CmpErr
namespace CmpBasesM
open Go Go.RowKit RefSameR CmpFind RefPure RefKinds RefMem RefSameP CmpMem YtddmceldglelkaaW.PrintWords
theorem kComp_of (w:World) (x:CompT) {vB vT vD vC vI vL:Value} (hB:Vw Kd.string w vB x.bases) (h:PW w vT vD vC vI vL x.body):kComp.K w x [.string x.name,vB,vT,vD,vC,vI,vL,.int .i64 x.at_]:=by obtain⟨Ab,cb,rfl,lb,gb⟩:=hB;obtain⟨⟨A1,c1,rfl,l1,g1⟩,⟨A2,c2,rfl,l2,g2⟩,⟨A3,c3,rfl,l3,g3⟩,⟨A4,c4,rfl,l4,g4⟩,⟨A5,c5,rfl,l5,g5⟩⟩:=h;exact kComp_mk w x lb gb l1 g1 l2 g2 l3 g3 l4 g4 l5 g5
def six (cur:Array Value) (p:Nat) (b vT vD vC vI vL:Value):Array Value:=
 (((((cur.setIfInBounds (p+1) b).setIfInBounds (p+2) vT).setIfInBounds (p+3) vD).setIfInBounds (p+4) vC).setIfInBounds (p+5) vI).setIfInBounds (p+6) vL
theorem six_far {cur:Array Value} {p:Nat} {b vT vD vC vI vL:Value} {j:Nat} (h:j≤p∨p+7≤j):(six cur p b vT vD vC vI vL)[j]?=cur[j]?:=by unfold six;simp only[Array.getElem?_setIfInBounds,show ¬p+1=j by omega,show ¬p+2=j by omega,show ¬p+3=j by omega,show ¬p+4=j by omega,show ¬p+5=j by omega,show ¬p+6=j by omega,if_false]
theorem six_at {cur:Array Value} {p:Nat} {b vT vD vC vI vL:Value} (hs:p+8≤cur.size) (j:Nat) (u:Value) (h:([b,vT,vD,vC,vI,vL]:List Value)[j]?=some u):(six cur p b vT vD vC vI vL)[p+1+j]?=some u:=by unfold six;rcases j with _|_|_|_|_|_|j <;> simp_all [Array.getElem?_setIfInBounds] <;> omega
theorem comps_set {w0 w1 wF:World} {G c i n:Nat} {xs:List CompT} {x:CompT} {q:ProgT} {vT vD vC vI vL:Value} {t:TypeId} {cur:Array Value} (h:Vw (Kd.fixed kComp w0) w1 (.slice (some ⟨G,0,none⟩) n c) xs) (hx:xs[i]?=some x) (hq:PW w0 vT vD vC vI vL q)
    (hB:Blk w1 G t cur) (hF:Blk wF G t (six cur (i*8) (.slice none 0 0) vT vD vC vI vL)):Vw (Kd.fixed kComp w0) wF (.slice (some ⟨G,0,none⟩) n c) (xs.set i { x with bases:=[],body:=q }):=by
 obtain⟨A,c',e,hl,h1,h2,h3⟩:=h;injection e with e1 e2 e3
 subst e1 e2 e3;have hil:i<xs.length:=(Zq hx).1;obtain⟨ad,hA,hr⟩:=h3 (by omega);injection hA with hA
 subst hA;have hcl:∀ j,w1.cell? (Addr.add ⟨G,0,none⟩ j)=cur[j]?:=fun j=>(by have e2:Addr.add ⟨G,0,none⟩ j=⟨G,j,none⟩:=(by unfold Addr.add;split <;> simp_all);rw[e2,hB.cell]);have hcF:∀ j,wF.cell? (Addr.add ⟨G,0,none⟩ j)=(six cur (i*8) (.slice none 0 0) vT vD vC vI vL)[j]?:=fun j=>(by have e2:Addr.add ⟨G,0,none⟩ j=⟨G,j,none⟩:=(by unfold Addr.add;split <;> simp_all);rw[e2,hF.cell]);obtain⟨cs0,hl0,hK0,hc0⟩:=hr i x hx;obtain⟨vB,uT,uD,uC,uI,uL,rfl,_⟩:=CmpFind.kComp_open hK0;have k0:=hc0 0 _ rfl;have k7:=hc0 7 _ rfl;rw[hcl] at k0 k7;have hsz:i*8+8≤cur.size:=(by have:=(Array.getElem?_eq_some_iff.1 k7).1;have e8:(Kd.fixed kComp w0).sz=8:=rfl;rw[e8] at this;omega);refine⟨some ⟨G,0,none⟩,c,by rw[List.length_set],by rw[List.length_set];exact hl,by rw[List.length_set],by rw[List.length_set];exact h2,fun hn=>⟨_,rfl,fun j y hj=>?_⟩⟩;by_cases hji:j=i
 · subst hji;rw[List.getElem?_set_self hil] at hj;injection hj with hj
   subst hj;refine⟨[.string x.name,.slice none 0 0,vT,vD,vC,vI,vL,.int .i64 x.at_],rfl,kComp_of w0 { x with bases:=[],body:=q } ⟨none,0,rfl,Zc _,rfl,Nat.zero_le _,fun h=>absurd h (Nat.lt_irrefl _)⟩ hq,fun k u hk=>?_⟩;rw[hcF];show (six cur (j*8) (.slice none 0 0) vT vD vC vI vL)[j*8+k]?=some u;rcases Nat.eq_zero_or_pos k with rfl|hk0
   · rw[Nat.add_zero,six_far (Or.inl (Zc _))];injection hk with hk
     subst hk;exact k0
   · have hk8:k<8:=(Zq hk).1;by_cases h7:k=7
     · subst h7;rw[six_far (j:=j*8+7) (Or.inr (Zc _))];injection hk with hk
       subst hk;exact k7
     · obtain⟨m,rfl⟩:∃ m,k=m+1:=⟨k - 1,by omega⟩;have e3:j*8+(m+1)=j*8+1+m:=(by omega);rw[e3];refine six_at hsz m u ?_;rcases m with _|_|_|_|_|_|m
       · exact hk
       · exact hk
       · exact hk
       · exact hk
       · exact hk
       · exact hk
       · omega
 · rw[List.getElem?_set_ne (by omega)] at hj;obtain⟨cs,hcl2,hK,hc⟩:=hr j y hj;refine⟨cs,hcl2,hK,fun k u hk=>?_⟩;have hk8:k<8:=(by have:=(Zq hk).1;have e8:(Kd.fixed kComp w0).sz=8:=rfl;omega);have:=hc k u hk;rw[hcl] at this;rw[hcF];have e8:(Kd.fixed kComp w0).sz=8:=rfl;rw[e8] at this ⊢;rw[six_far (by omega)];exact this
theorem row_room {w0 w1:World} {G c i n:Nat} {xs:List CompT} {t:TypeId} {cur:Array Value} (h:Vw (Kd.fixed kComp w0) w1 (.slice (some ⟨G,0,none⟩) n c) xs) (hi:i<xs.length) (hB:Blk w1 G t cur):i*8+8≤cur.size:=by
 obtain⟨ad,hA,vB,vT,vD,vC,vI,vL,_,_,_,_,_,_,_,_,k7⟩:=comp_cells h i (xs[i]'hi) (by simp);injection hA with hA
 subst hA;have e2:Addr.add ⟨G,0,none⟩ (i*8)=⟨G,i*8,none⟩:=(by unfold Addr.add;split <;> simp_all);rw[e2,hB.cell] at k7;have:i*8+7<cur.size:=(Array.getElem?_eq_some_iff.1 k7).1;omega
theorem six_there {w:World} {G p:Nat} {t:TypeId} {cur:Array Value} (hB:Blk w G t cur) (hs:p+8≤cur.size):∃ u1 u2 u3 u4 u5 u6,w.cell? ⟨G,p+1,none⟩=some u1∧w.cell? ⟨G,p+2,none⟩=some u2∧w.cell? ⟨G,p+3,none⟩=some u3∧w.cell? ⟨G,p+4,none⟩=some u4∧w.cell? ⟨G,p+5,none⟩=some u5∧w.cell? ⟨G,p+6,none⟩=some u6:=
 ⟨cur[p+1]'(by omega),cur[p+2]'(by omega),cur[p+3]'(by omega),cur[p+4]'(by omega),cur[p+5]'(by omega),cur[p+6]'(by omega),by rw[hB.cell];simp,by rw[hB.cell];simp,by rw[hB.cell];simp,by rw[hB.cell];simp,by rw[hB.cell];simp,by rw[hB.cell];simp⟩
theorem six_frozen {w:World} {G p:Nat} {t:TypeId} {cur:Array Value} (hB:Blk w G t cur):w.frozen? ⟨G,p+1,none⟩=false∧w.frozen? ⟨G,p+2,none⟩=false∧w.frozen? ⟨G,p+3,none⟩=false∧w.frozen? ⟨G,p+4,none⟩=false∧w.frozen? ⟨G,p+5,none⟩=false∧w.frozen? ⟨G,p+6,none⟩=false:=⟨hB.frozen _,hB.frozen _,hB.frozen _,hB.frozen _,hB.frozen _,hB.frozen _⟩
end CmpBasesM
end Go.Proofs.Ytddmceldglelkaa
