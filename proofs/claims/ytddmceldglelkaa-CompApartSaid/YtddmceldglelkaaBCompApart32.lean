/- A claim's texts, in the order of what they need: CmpIns, CmpAll, CmpFlat, RefSameR, CmpAlive. -/
import Derived.Test.YtddmceldglelkaaBCompApart10
import Derived.Test.YtddmceldglelkaaBCompApart15
import Derived.Test.YtddmceldglelkaaBCompApart24
import Derived.Test.YtddmceldglelkaaBCompApart29
import Derived.Test.YtddmceldglelkaaBCompApart31
import Derived.Deep.QuietTactic
import Derived.Deep.LoopGhost
import Derived.Deep.RegionHeld3
import Derived.Deep.RegionLaw
set_option maxRecDepth 100000
set_option maxHeartbeats 8000000
set_option linter.unusedVariables false
set_option linter.unusedSimpArgs false
set_option linter.unusedSectionVars false
namespace Go.Proofs.Ytddmceldglelkaa.CmpIns
open Go Go.RowKit CmpInsMem CmpContains CmpInits RefPure RefKinds RefMem RefSameP CmpPure CmpMem CmpKinds CmpFind CmpName CmpCopied CmpClone CmpClause CmpRule CmpWholeOf CmpInst RefExpr RefFields RefCells YtddmceldglelkaaW.PrintWords
theorem ins_many (w0 w:World) (vT vD vC vI vL:Value) (p:ProgT) (g n0:Nat) (oT oD oL:Value) (tl:List TDecl) (o:Out) (b1 b2 b3 b4 b5:Value) (b:ProgT) (pre:ByteArray) (at_:Int) (vW:Value) (h:FlS w0 w vT vD vC vI vL p g n0 oT oD oL tl o) (hb:Body w0 w (Ch g oD oL) b1 b2 b3 b4 b5 b) (hm:96<o.made+1) :
    Calls Try.prog 57 #[.pointer (some ⟨g,0,none⟩),.agg #[b1,b2,b3,b4,b5],.string pre,.int .i64 at_,vW] w (IPost w0 w vT vD vC vI vL p g n0 oT oD oL tl (.error (3,at_))):=by
 obtain⟨A1,c1,A2,c2,A3,c3,A4,c4,A5,c5,rfl,rfl,rfl,rfl,rfl⟩:=(hb w (Kp.refl _ w)).values
 have q12:=Blk.cell h.fl 12
 have f12:=Blk.frozen h.fl 12
 simp only[List.getElem?_toArray,List.getElem?_cons_zero,List.getElem?_cons_succ] at q12
 have lg:=Blk.lt h.fl
 have hl:=h.len.2.2
 have hwr0:wrap64 ((o.made:Int)+1)=((o.made+1:Nat):Int):=wrap_up _ (by omega)
 obtain⟨n1,hn1⟩:∃ n,o.made+1=n:=⟨_,rfl⟩
 rw[hn1] at hwr0
 have HFA:=Lib.hid (fun ob:Obj=>fail_any ((w.setCell ⟨g,12,none⟩ (.int .i64 (n1:Int))).alloc ob) g _ _ _ _ _ _ _ _ _ _ _ _ _ 3 at_ (Blk.alloc (Blk.set_ h.fl 12 (.int .i64 (n1:Int))) ob))
 have hwr:=hwr0
 have hgt:decide ((96:Int)<((n1:Nat):Int))=true:=decide_eq_true (by omega)
 clear hb hm hl hn1 hwr0 h
 go_enter Try.func57,Try.ntmps57
 go_wp2_with (first|(go_at_call 55;(with_reducible refine (HFA.out _).mono ?_);rintro e w7 ⟨rfl,hk,h10,h11⟩;have HK7:=Lib.hid hk;have H10:=Lib.hid h10;have H11:=Lib.hid h11;clear hk h10 h11))
 go_ret
 exact FailPost.all ⟨rfl,HK7.out,H10.out,H11.out⟩ (((Kp.refl (Ch g oD oL) w).set (fun _=>.inl rfl) _ _).alloc _) (fun k _ q=>.inl q)
theorem ins_go (w0:World) (vT vD vC vI vL:Value) (p:ProgT) (g n0:Nat) (oT:Value) (tl:List TDecl) (K:Nat) (ih:PInits w0 vT vD vC vI vL p g n0 oT tl K)
    (w:World) (oD oL:Value) (b:ProgT) (b1 b2 b3 b4 b5:Value) (pre:ByteArray) (at_:Int) (way:List ByteArray) (vW:Value) (o:Out) (r:Except (Int×Int) Out) (h:FlS w0 w vT vD vC vI vL p g n0 oT oD oL tl o) (hb:Body w0 w (Ch g oD oL) b1 b2 b3 b4 b5 b) (hw:CmpInst.Way w (Ch g oD oL) vW way) (hs:CmpSize.OkP 65536 1048576 b) (hpre:pre.size≤65537*way.length) (hway:∀ x∈way,x.size≤65536) (hk:K+1+way.length≤1048580)
    (hr:instS (wholeOf p.comps) (K+1) b pre at_ way o=some r) (hm:¬96<o.made+1) :
    Calls Try.prog 57 #[.pointer (some ⟨g,0,none⟩),.agg #[b1,b2,b3,b4,b5],.string pre,.int .i64 at_,vW] w (IPost w0 w vT vD vC vI vL p g n0 oT oD oL tl r):=by
 obtain⟨A1,c1,A2,c2,A3,c3,A4,c4,A5,c5,rfl,rfl,rfl,rfl,rfl⟩:=(hb w (Kp.refl _ w)).values
 obtain⟨P1,d1,P2,d2,P3,d3,P4,d4,P5,d5,rfl,rfl,rfl,rfl,rfl⟩:=h.pv.values
 obtain⟨AW,cW,rfl⟩:=(hw.1 w (Kp.refl _ w)).slice
 have H:=Lib.hid h
 have HB:=Lib.hid hb
 have HW:=Lib.hid hw
 have HS:=Lib.hid hs
 have HPRE:=Lib.hid hpre
 have HWAY:=Lib.hid hway
 have HK:=Lib.hid hk
 have HR:=Lib.hid hr
 have HIH:=Lib.hid ih
 have q12:=Blk.cell h.fl 12
 have f12:=Blk.frozen h.fl 12
 simp only[List.getElem?_toArray,List.getElem?_cons_zero,List.getElem?_cons_succ] at q12
 have lg:=Blk.lt h.fl
 have hl:=h.len.2.2
 have hwr0:wrap64 ((o.made:Int)+1)=((o.made+1:Nat):Int):=wrap_up _ (by omega)
 obtain⟨n1,hn1⟩:∃ n,o.made+1=n:=⟨_,rfl⟩
 rw[hn1] at hwr0
 have HN1:=Lib.hid hn1
 have hwr:=hwr0
 have hgt:decide ((96:Int)<((n1:Nat):Int))=false:=decide_eq_false (by omega)
 have HL3:=Lib.hid h.len
 have HFA0:=Lib.hid (FlS.made h (n1:=n1) (by omega))
 have HNM:=Lib.hid hm
 have hmk:∀ W:World,(Instr.makeMap 85 none).run Try.prog W=.ok (.map (some W.heap.size)) (W.alloc (.map #[] 0)):=fun W=>by kernel_rfl
 obtain⟨nd,hnd⟩:∃ n,b.decls.length=n:=⟨_,rfl⟩
 obtain⟨ni,hni⟩:∃ n,b.inits.length=n:=⟨_,rfl⟩
 obtain⟨nc,hnc⟩:∃ n,b.clauses.length=n:=⟨_,rfl⟩
 have HND:=Lib.hid hnd
 have HNI:=Lib.hid hni
 have HNC:=Lib.hid hnc
 simp only[hnd,hni,hnc] at HB ⊢
 clear h hb hw hs hpre hway hk hr ih hnd hni hnc hm hl hn1 hwr0
 go_enter Try.func57,Try.ntmps57
 go_wp2
 have HKW:=Lib.hid ((Kp.refl (Ch g oD oL) w).set (fun _=>.inl rfl) 12 (.int .i64 (n1:Int)))
 have hsz:(w.setCell ⟨g,12,none⟩ (.int .i64 (n1:Int))).heap.size=w.heap.size:=set_size _ _ _
 have H3:=Lib.hid (three _ _ hsz #[.slice A1 b.types.length c1,.slice A2 nd c2,.slice A3 b.comps.length c3,.slice A4 ni c4,.slice A5 nc c5] #[.string pre,.map (some (w.heap.size+1))] 28 133)
 clear q12 f12 hsz
 generalize (((w.setCell ⟨g,12,none⟩ (.int .i64 (n1:Int))).alloc (.cells #[.slice A1 b.types.length c1,.slice A2 nd c2,.slice A3 b.comps.length c3,.slice A4 ni c4,.slice A5 nc c5] 28)).alloc (.map #[] 0)).alloc (.cells #[.string pre,.map (some (w.heap.size+1))] 133)=W0 at *
 have HLA:Hid ((w.setCell ⟨g,12,none⟩ (.int .i64 (n1:Int))).heap.size=w.heap.size):=Lib.hid (set_size _ _ _)
 generalize w.setCell ⟨g,12,none⟩ (.int .i64 (n1:Int))=wA at *
 have HBW:Hid (∀ W,Kp (fun k=>w.heap.size≤k) wA W→Kp (Ch g oD oL) w W):=Lib.hid (fun W hk=>HKW.out.trans hk (fun k hl hs=>by omega))
 obtain⟨hbx0,hm0,hsc0,hsz0,hk0⟩:=H3.out
 have HBX0:=Lib.hid hbx0
 have HM0:=Lib.hid hm0
 have HSC0:=Lib.hid hsc0
 have HSZ0:=Lib.hid hsz0
 have HK0:=Lib.hid hk0
 clear hbx0 hm0 hsc0 hsz0 hk0 H3
 have HNS:Hid (nd≤1048576∧ni≤1048576∧nc≤1048576):=Lib.hid (by have:=HS.out.many;unfold manyP at this;have:=HND.out;have:=HNI.out;have:=HNC.out;omega)
 go_loopg [41] (nd+1) (fun gk v41 wr=>∃ i:Nat,v41=.int .i64 (i:Int)∧Hid (i≤nd∧nd - i<gk∧CmpMap.Met wr (w.heap.size+1) i (names (b.decls.take i)).reverse∧Kp (fun k=>k=w.heap.size+1) W0 wr))
 case atStart=>exact⟨0,rfl,Lib.hid ⟨Nat.zero_le _,by omega,HM0.out,Kp.refl _ _⟩⟩
 case round=>
  obtain⟨i,rfl,HI⟩:=hrel
  have hka:Kp (fun k=>w.heap.size≤k) wA wr:=HK0.out.trans HI.out.2.2.2 (fun k _ e=>by omega)
  have HKA:=Lib.hid hka
  by_cases hi:i<nd
  · have hib:decide (i<nd)=true:=decide_eq_true hi
    obtain⟨x,hx⟩:∃ t,b.decls[i]?=some t:=⟨b.decls[i]'(by rw[HND.out];exact hi),by simp⟩
    obtain⟨ad,rfl,e2,f2,k0,k1,k2,k3,k4⟩:=decl_cells (HB.out wr (HBW.out wr hka)).d i x hx
    have hns:x.name.size≤maxLen:=Nat.le_trans (HS.out.decls x (List.mem_of_getElem? hx)) (by decide)
    have HX:=Lib.hid (names_step hx)
    have hi0:(0:Int)≤(i:Int):=by omega
    have hi1:(i:Int)<(nd:Int):=by omega
    have hsc:Blk wr (w.heap.size+1+1) 133 #[.string pre,.map (some (w.heap.size+1))]:=HI.out.2.2.2.blk HSC0.out (by omega)
    have s1:=hsc.cell 1
    simp only[List.getElem?_toArray,List.getElem?_cons_zero,List.getElem?_cons_succ] at s1
    have lsc:=hsc.lt
    obtain⟨w3,hput,hmet3,hgr3⟩:=(HI.out.2.2.1.alloc (.cells #[.string x.name,.slice e2 x.cols.length f2,.bool x.input,.bool x.output,.int .i64 x.at_] 46)).put (by have:=HNS.out;have:(1048576:Nat)<maxLen:=(by decide);omega) hns
    have HM3:=Lib.hid hmet3
    have HG3:=Lib.hid hgr3
    clear hx hmet3 hgr3 hns hka hsc
    go_wp2
    go_roundg (nd - i)
    all_goals first
     | (have:=HI.out.2.1;omega)
     | exact⟨i+1,by rw[wrap_up i (by have:=HNS.out;omega)],Lib.hid ⟨hi,by omega,by rw[HX.out];exact HM3.out,(HI.out.2.2.2.alloc _).then_grown HG3.out (fun k e _=>by injection e with e;exact e.symm)⟩⟩
  · have hib:decide (i<nd)=false:=decide_eq_false hi
    have hbx:Blk wr w.heap.size 28 #[.slice A1 b.types.length c1,.slice A2 nd c2,.slice A3 b.comps.length c3,.slice A4 ni c4,.slice A5 nc c5]:=HI.out.2.2.2.blk HBX0.out (by omega)
    obtain⟨p0,p1,p2,p3,p4⟩:=five_cells hbx
    have lbx:=hbx.lt
    have hall:b.decls.take i=b.decls:=List.take_of_length_le (by have:=HND.out;omega)
    have hm1:=HI.out.2.2.1
    rw[hall] at hm1
    have hin:i=nd:=by have:=HI.out.1;omega
    rw[hin] at hm1
    have HM1:=Lib.hid hm1
    have HK1:=Lib.hid HI.out.2.2.2
    clear hm1 HI hi hall hin hbx p0 p1 p2 p4 hka HKA
    go_wp2
    clear HM0
    go_loopg [53] (ni+1) (fun gk v53 wr=>∃ i:Nat,v53=.int .i64 (i:Int)∧Hid (i≤ni∧ni - i<gk∧CmpMap.Met wr (w.heap.size+1) (nd+i) ((inames (b.inits.take i)).reverse++(names b.decls).reverse)∧Kp (fun k=>k=w.heap.size+1) W0 wr))
    case atStart=>exact⟨0,rfl,Lib.hid ⟨Nat.zero_le _,by omega,HM1.out,HK1.out⟩⟩
    case round=>
     clear HM1 HK1
     obtain⟨i,rfl,HI⟩:=hrel
     have hka:Kp (fun k=>w.heap.size≤k) wA wr:=HK0.out.trans HI.out.2.2.2 (fun k _ e=>by omega)
     have HKA:=Lib.hid hka
     by_cases hi:i<ni
     · have hib:decide (i<ni)=true:=decide_eq_true hi
       obtain⟨x,hx⟩:∃ t,b.inits[i]?=some t:=⟨b.inits[i]'(by rw[HNI.out];exact hi),by simp⟩
       obtain⟨ad,rfl,k0,k1,k2⟩:=init_cells (HB.out wr (HBW.out wr hka)).i i x hx
       have hns:x.name.size≤maxLen:=Nat.le_trans (HS.out.inits x (List.mem_of_getElem? hx)).1 (by decide)
       have HX:=Lib.hid (inames_step hx)
       have hi0:(0:Int)≤(i:Int):=by omega
       have hi1:(i:Int)<(ni:Int):=by omega
       have hsc:Blk wr (w.heap.size+1+1) 133 #[.string pre,.map (some (w.heap.size+1))]:=HI.out.2.2.2.blk HSC0.out (by omega)
       have s1:=hsc.cell 1
       simp only[List.getElem?_toArray,List.getElem?_cons_zero,List.getElem?_cons_succ] at s1
       have lsc:=hsc.lt
       obtain⟨w3,hput,hmet3,hgr3⟩:=(HI.out.2.2.1.alloc (.cells #[.string x.name,.string x.comp,.int .i64 x.at_] 48)).put (by have:=HNS.out;have:(4194304:Nat)<maxLen:=(by decide);omega) hns
       have HM3:=Lib.hid hmet3
       have HG3:=Lib.hid hgr3
       clear hx hmet3 hgr3 hns hka hsc
       go_wp2
       go_roundg (ni - i)
       all_goals first
        | (have:=HI.out.2.1;omega)
        | exact⟨i+1,by rw[wrap_up i (by have:=HNS.out;omega)],Lib.hid ⟨hi,by omega,by rw[HX.out];exact HM3.out,(HI.out.2.2.2.alloc _).then_grown HG3.out (fun k e _=>by injection e with e;exact e.symm)⟩⟩
     · have hib:decide (i<ni)=false:=decide_eq_false hi
       have hbx:Blk wr w.heap.size 28 #[.slice A1 b.types.length c1,.slice A2 nd c2,.slice A3 b.comps.length c3,.slice A4 ni c4,.slice A5 nc c5]:=HI.out.2.2.2.blk HBX0.out (by omega)
       have hall:b.inits.take i=b.inits:=List.take_of_length_le (by have:=HNI.out;omega)
       have hm1:=HI.out.2.2.1
       rw[hall] at hm1
       have HM1:Hid (CmpMap.Met wr (w.heap.size+1) (nd+i) (ownS b)):=Lib.hid hm1
       have hsc:Blk wr (w.heap.size+1+1) 133 #[.string pre,.map (some (w.heap.size+1))]:=HI.out.2.2.2.blk HSC0.out (by omega)
       have HSZ1:Hid (w.heap.size+3≤wr.heap.size):=Lib.hid (by have:=HI.out.2.2.2.size;have:=HSZ0.out;omega)
       have HBX1:=Lib.hid hbx
       have HSC1:=Lib.hid hsc
       clear HI hi hall hka HBX0 HSC0 HK0 HSZ0
       go_wp2
       have hS1:=Below.refl wr.heap.size wr
       have lbx:=hbx.lt
       obtain⟨p0,p1,p2,p3,p4⟩:=five_cells hbx
       have hrl:=fun W (hb:Below wr.heap.size wr W)=>(⟨(hb.cell (p:=⟨w.heap.size,1,none⟩) lbx).trans p1,(hb.cell (p:=⟨w.heap.size,4,none⟩) lbx).trans p4⟩:W.cell? ⟨w.heap.size,1,none⟩=some (.slice A2 nd c2)∧W.cell? ⟨w.heap.size,4,none⟩=some (.slice A5 nc c5))
       have HCD:=Lib.hid (fun W (hb:Below wr.heap.size wr W)=>decls_any w0 W _ b.decls (HB.out W (HBW.out W (HKA.out.then_below hb))).d (by have:=HNS.out;have:=HND.out;omega))
       have HCC:=Lib.hid (fun W (hb:Below wr.heap.size wr W)=>clauses_any w0 W _ b.clauses (HB.out W (HBW.out W (HKA.out.then_below hb))).l (by have:=HNS.out;have:=HNC.out;omega))
       clear hm1 hbx hsc p0 p1 p2 p3 p4
       go_region_held3 (fun W=>Below wr.heap.size wr W) (first|assumption|(repeat (with_reducible first|assumption|exact Below.refl _ _|refine Below.drew ?_|refine below_alloc ?_ _)))
        (first
        | (go_at_call 19;(with_reducible refine (HCD.out _ (Below.refl _ _).drew).mono ?_);rintro e w5 ⟨v5,rfl,hr5,hb5⟩;obtain⟨a5,z5,e5⟩:=Kd.R_slice hr5;rw[HND.out] at e5;subst e5;have hS5:Below wr.heap.size wr w5:=(Below.refl _ wr).drew.trans hb5;have HR5:=Lib.hid hr5;have HB5:=Lib.hid hS5;clear hr5 hb5)
        | (go_at_call 53;(with_reducible refine (HCC.out _ HB5.out).mono ?_);rintro e w6 ⟨v6,rfl,hr6,hb6⟩;obtain⟨a6,z6,e6⟩:=Kd.R_slice hr6;rw[HNC.out] at e6;subst e6;have hS6:Below wr.heap.size wr w6:=HB5.out.trans (hb6.mono HB5.out.size);have HR6:=Lib.hid hr6;have HB6:=Lib.hid hb6;have HBS6:=Lib.hid hS6;clear hr6 hb6))
       have hr5:(Kd.fixed kDecl w0).R 46 w5 wr.heap.size (fun k=>wr.heap.size≤k) (.slice a5 nd z5) b.decls:=HR5.out
       obtain⟨s1,s5,H6⟩:∃ s1 s5,Hid (w.heap.size+3≤s1∧s1≤s5∧s5≤w6.heap.size∧(Kd.fixed kDecl w0).R 46 w6 s1 (fun k=>s1≤k∧k<s5) (.slice a5 nd z5) b.decls∧(xL w0).R 54 w6 s5 (fun k=>s5≤k) (.slice a6 nc z6) (half [] b.clauses 0)):=
        ⟨wr.heap.size,w5.heap.size,Lib.hid ⟨HSZ1.out,HB5.out.size,HB6.out.size,Kd.R_below (Kd.R_mono (Kd.R_bound hr5) (fun k hk=>⟨hk.1,hk.2.2.1⟩)) HB6.out,xL_came HR6.out⟩⟩
       have HKA6:Hid (Kp (fun k=>w.heap.size≤k) wA w6):=Lib.hid (HKA.out.then_below HBS6.out)
       have HM6:Hid (CmpMap.Met w6 (w.heap.size+1) (nd+i) (ownS b)):=Lib.hid ((Kp.of_below (fun _=>False) HBS6.out).met HM1.out (fun q=>q))
       have HSC6:=Lib.hid (HSC1.out.below HBS6.out HSC1.out.lt)
       have HBX6:=Lib.hid (HBX1.out.below HBS6.out HBX1.out.lt)
       clear hr5 hrl HR5 HR6 HB5 HB6 HBS6 hS5 hS6 HKA HM1 HSC1 HBX1 HSZ1 HCD HCC lbx hS1
       repeat (rename Below wr.heap.size wr _=>hh;clear hh)
       clear w5
       go_wp2
       go_loopg [70] (nd+1) (fun gk v70 wr=>∃ k:Nat,v70=.int .i64 (k:Int)∧∃ done,Hid (k≤nd∧nd - k<gk∧allS (declS pre (ownS b)) (b.decls.take k)=.ok done∧(Kd.fixed kDecl w0).R 46 wr s1 (fun k=>s1≤k∧k<s5) (.slice a5 nd z5) (done++b.decls.drop k)∧Kp (fun q=>s1≤q∧q<s5) w6 wr))
       case atStart=>exact⟨0,rfl,[],Lib.hid ⟨Nat.zero_le _,by omega,rfl,by simpa using H6.out.2.2.2.1,Kp.refl _ _⟩⟩
       case round=>
        obtain⟨k,rfl,done,HI⟩:=hrel
        have hka:Kp (fun k=>w.heap.size≤k) wA wr:=HKA6.out.trans HI.out.2.2.2.2 (fun q _ e=>by have:=H6.out.1;omega)
        have HKA:=Lib.hid hka
        have hsc:Blk wr (w.heap.size+1+1) 133 #[.string pre,.map (some (w.heap.size+1))]:=HI.out.2.2.2.2.blk HSC6.out (by have:=H6.out.1;omega)
        have hmt:=HI.out.2.2.2.2.met HM6.out (by have:=H6.out.1;omega)
        have HMT:=Lib.hid hmt
        have HSC:=Lib.hid hsc
        by_cases hk:k<nd
        · have hib:decide (k<nd)=true:=decide_eq_true hk
          obtain⟨y,hy⟩:∃ t,b.decls[k]?=some t:=⟨b.decls[k]'(by rw[HND.out];exact hk),by simp⟩
          have hdl:done.length=k:=by have:=allS_len _ _ _ HI.out.2.2.1;rw[List.length_take] at this;have:=HND.out;omega
          have hyd:=mid_at hdl hy
          obtain⟨N,rfl,_,hNok,hNl,curN,hNB⟩:=row_at HI.out.2.2.2.1 (by have:=(List.getElem?_eq_some_iff.1 hyd).1;omega)
          obtain⟨cs,hM,hcl,hcell⟩:=made_at HI.out.2.2.2.1 k y hyd
          have hKy:kDecl.K w0 y cs:=hM
          obtain⟨A,ca,ecs,_⟩:=kDecl_open hKy
          have l0:wr.cell? ⟨N,k*5,none⟩=some (.string y.name):=hcell 0 _ (by rw[ecs];rfl)
          have l4:wr.cell? ⟨N,k*5+4,none⟩=some (.int .i64 y.at_):=hcell 4 _ (by rw[ecs];rfl)
          have s0:=hsc.cell 0
          have s1':=hsc.cell 1
          simp only[List.getElem?_toArray,List.getElem?_cons_zero,List.getElem?_cons_succ] at s0 s1'
          have lsb:=hsc.lt
          have hfl:=FlS.kp HFA0.out hka (fun k hl e=>by have:=HLA.out;omega)
          have hys:y.name.size≤65536:=HS.out.decls y (List.mem_of_getElem? hy)
          have HN2:=Lib.hid (fun W (hb:Below wr.heap.size wr W)=>name_any W g N (k*5) (w.heap.size+1) (nd+i) _ _ _ _ _ _ _ _ _ _ 0 0 _ (hfl.fl.below hb) pre y.name (ownS b) y.at_ ((Kp.of_below (fun _=>False) hb).met hmt (fun q=>q)) hys _ curN (hNB.below hb hNB.lt) (by rw[← hNB.cell];exact l0) (by have:=HPRE.out;have:=HK.out;omega))
          have HLR:=Lib.hid (fun W w6 n2 (hb:Below wr.heap.size wr W) (hN:Nm W N (k*5) n2 w6)=>decl_row (n1:=n2) HI.out.2.2.2.1 hyd hb hN hNB hKy hcell)
          have HY:=Lib.hid hy
          have HDL:=Lib.hid hdl
          have HNN:Hid (s1≤N∧N<s5):=Lib.hid hNok
          have hi0:(0:Int)≤(k:Int):=by omega
          have hi1:(k:Int)<(nd:Int):=by omega
          clear hy hdl hyd hNok hNl hNB hM hcl hcell hKy ecs hsc hfl hmt hys hka
          cases hnm:nameS pre (ownS b) y.name with
          | none=>
            rw[hnm] at HN2
            have hls:declS pre (ownS b) y=.error (2,y.at_):=by unfold declS;rw[hnm]
            have hres:r=.error (2,y.at_):=inst_decl HR.out HNM.out (by rw[take_split HY.out,allS_fall _ _ _ _ _ _ HI.out.2.2.1 hls])
            subst hres
            clear hls hnm
            go_wp2
            go_region_law (first|(go_simp;go_wp2_with (first|(go_at_call 77;(with_reducible refine (HN2.out _ (Below.refl _ _).drew).mono ?_);rintro e w7 ⟨rfl,hk,h10,h11⟩;have HK7:=Lib.hid hk;have H10:=Lib.hid h10;have H11:=Lib.hid h11;clear hk h10 h11))))
            all_goals go_wp2
            all_goals go_ret
            all_goals exact FailPost.all (S:=fun b=>b=g) ⟨rfl,HK7.out,H10.out,H11.out⟩ ((HBW.out _ HKA.out).drew) (fun k _ q=>.inl q)
          | some n2=>
            rw[hnm] at HN2
            have HLS:Hid (declS pre (ownS b) y=.ok { y with name:=n2 }):=Lib.hid (by unfold declS;rw[hnm])
            clear hnm
            go_wp2
            go_region_law (first|(go_simp;go_wp2_with (first|(go_at_call 77;(with_reducible refine (HN2.out _ (Below.refl _ _).drew).mono ?_);rintro e w7 ⟨rfl,hnm7⟩;have HM7:=Lib.hid hnm7;clear hnm7))))
            all_goals go_wp2
            all_goals go_roundg (nd - k)
            all_goals first
             | (have:=HI.out.2.1;omega)
             | exact⟨k+1,by rw[wrap_up k (by have:=HNS.out;omega)],done++[{ y with name:=n2 }],Lib.hid ⟨hk,by omega,by rw[take_one HY.out];exact allS_snoc _ _ _ _ _ HI.out.2.2.1 HLS.out,by rw[← mid_set HDL.out HY.out];exact HLR.out _ _ _ (Below.refl _ _).drew HM7.out,HI.out.2.2.2.2.drew.trans HM7.out.kp (fun b _ q=>by have:=HNN.out;subst q;exact this)⟩⟩
        · have hib:decide (k<nd)=false:=decide_eq_false hk
          have hkn:k=b.decls.length:=by have:=HI.out.1;have:=HND.out;omega
          have hrun:=HI.out.2.2.1
          have hrow:=HI.out.2.2.2.1
          rw[hkn,List.take_length] at hrun
          rw[hkn,List.drop_eq_nil_of_le (Nat.le_refl _),List.append_nil] at hrow
          have HRUN:=Lib.hid hrun
          have HDS:=Lib.hid hrow
          have HLL:Hid ((xL w0).R 54 wr s5 (fun k=>s5≤k) (.slice a6 nc z6) (half [] b.clauses 0)):=Lib.hid (HI.out.2.2.2.2.R H6.out.2.2.2.2 (fun k h1 _ h2=>by omega))
          have hbx:Blk wr w.heap.size 28 #[.slice A1 b.types.length c1,.slice A2 nd c2,.slice A3 b.comps.length c3,.slice A4 ni c4,.slice A5 nc c5]:=HI.out.2.2.2.2.blk HBX6.out (by have:=H6.out.1;omega)
          have HBX:=Lib.hid hbx
          have HSZ:Hid (w.heap.size+3≤s1∧s1≤s5∧s5≤wr.heap.size):=Lib.hid ⟨H6.out.1,H6.out.2.1,Nat.le_trans H6.out.2.2.1 HI.out.2.2.2.2.size⟩
          clear hrun hrow hbx hkn hk hka hsc hmt H6 HKA6 HM6 HSC6 HBX6
          go_wp2
          generalize wr=W7 at *
          generalize done=ds at *
          go_loopg [89] (nc+1) (fun gk v89 wr=>∃ k:Nat,v89=.int .i64 (k:Int)∧∃ done,Hid (k≤nc∧nc - k<gk∧allS (clauseS pre (ownS b)) (b.clauses.take k)=.ok done∧(xL w0).R 54 wr s5 (fun k=>s5≤k) (.slice a6 nc z6) (half done b.clauses k)∧Kp (fun q=>s5≤q) W7 wr))
          case atStart=>exact⟨0,rfl,[],Lib.hid ⟨Nat.zero_le _,by omega,rfl,HLL.out,Kp.refl _ _⟩⟩
          case round=>
           clear HLL
           obtain⟨k,rfl,done,HJ⟩:=hrel
           have hka:Kp (fun k=>w.heap.size≤k) wA wr:=HKA.out.trans HJ.out.2.2.2.2 (fun q _ e=>by have:=HSZ.out;omega)
           have HKB:=Lib.hid hka
           have hsc:Blk wr (w.heap.size+1+1) 133 #[.string pre,.map (some (w.heap.size+1))]:=HJ.out.2.2.2.2.blk HSC.out (by have:=HSZ.out;omega)
           have hmt:=HJ.out.2.2.2.2.met HMT.out (by have:=HSZ.out;omega)
           have hfl:=FlS.kp HFA0.out hka (fun k hl e=>by have:=HLA.out;omega)
           by_cases hk:k<nc
           · have hib:decide (k<nc)=true:=decide_eq_true hk
             obtain⟨y,hy⟩:∃ t,b.clauses[k]?=some t:=⟨b.clauses[k]'(by rw[HNC.out];exact hk),by simp⟩
             have hdl:done.length=k:=by have:=allS_len _ _ _ HJ.out.2.2.1;rw[List.length_take] at this;have:=HNC.out;omega
             have hyd:=half_at hdl hy
             obtain⟨G,rfl,_,hGok,hGl,curG,hGB⟩:=row_at HJ.out.2.2.2.1 (by have:=(List.getElem?_eq_some_iff.1 hyd).1;omega)
             have s0:=hsc.cell 0
             have s1':=hsc.cell 1
             simp only[List.getElem?_toArray,List.getElem?_cons_zero,List.getElem?_cons_succ] at s0 s1'
             have lsb:=hsc.lt
             have hG5:s5≤G:=hGok
             have hcst:=CSt.drew (pre:=pre) (base:=s5) (ok:=fun k=>s5≤k) ⟨hfl.bs,hfl.fl,hmt,HJ.out.2.2.2.1,hyd,⟨by have:=HSZ.out;omega,by have:=HSZ.out;omega⟩,by have:=HSZ.out;have:=H.out.size;omega,⟨curG,hGB⟩,fun k h=>by have:=HSZ.out;have:=HJ.out.2.2.2.2.size;omega,by have:=HSZ.out;have:=HJ.out.2.2.2.2.size;omega,by have:=HPRE.out;have:=HK.out;omega,HS.out.clauses y (List.mem_of_getElem? hy)⟩
             have HCL:=Lib.hid (clause_any w0 wr.drew g G nc z6 s5 (fun k=>s5≤k) (half done b.clauses k) k y _ _ _ _ _ _ _ _ _ _ 0 0 _ (w.heap.size+1) (nd+i) (ownS b) pre hcst)
             have HY:=Lib.hid hy
             have HDL:=Lib.hid hdl
             have HG5:=Lib.hid hG5
             have hi0:(0:Int)≤(k:Int):=by omega
             have hi1:(k:Int)<(nc:Int):=by omega
             clear hy hdl hyd hGok hGl hGB hsc hfl hmt hka hcst hG5
             cases hcs:clauseS pre (ownS b) y with
             | error z=>
               rw[hcs] at HCL
               have hres:r=.error z:=inst_clause HR.out HNM.out HRUN.out (by rw[take_split HY.out,allS_fall _ _ _ _ _ _ HJ.out.2.2.1 hcs])
               subst hres
               clear hcs
               go_wp2
               go_region_law (first|(go_simp;go_wp2_with (first|(go_at_call 78;(with_reducible refine (HCL.out).mono ?_);rintro e w8 ⟨rfl,hk,h10,h11⟩;have HK8:=Lib.hid hk;have H10:=Lib.hid h10;have H11:=Lib.hid h11;clear hk h10 h11))))
               all_goals go_wp2
               all_goals go_ret
               all_goals exact FailPost.all (S:=fun b=>b=g∨b=G) ⟨rfl,HK8.out,H10.out,H11.out⟩ ((HBW.out _ HKB.out).drew) (fun k hl q=>q.elim .inl (fun q=>by have:=HG5.out;have:=HSZ.out;omega))
             | ok y2=>
               rw[hcs] at HCL
               have HCS:=Lib.hid hcs
               clear hcs
               go_wp2
               go_region_law (first|(go_simp;go_wp2_with (first|(go_at_call 78;(with_reducible refine (HCL.out).mono ?_);rintro e w8 ⟨rfl,hr8,hk8⟩;have HR8:=Lib.hid hr8;have HK8:=Lib.hid hk8;clear hr8 hk8))))
               all_goals go_wp2
               all_goals go_roundg (nc - k)
               all_goals first
                | (have:=HJ.out.2.1;omega)
                | exact⟨k+1,by rw[wrap_up k (by have:=HNS.out;omega)],done++[y2],Lib.hid ⟨hk,by omega,by rw[take_one HY.out];exact allS_snoc _ _ _ _ _ HJ.out.2.2.1 HCS.out,by rw[← half_set HDL.out HY.out];exact HR8.out,HJ.out.2.2.2.2.drew.trans HK8.out (fun b _ q=>by have:=HG5.out;subst q;exact this)⟩⟩
           · have hib:decide (k<nc)=false:=decide_eq_false hk
             have hkn:k=b.clauses.length:=by have:=HJ.out.1;have:=HNC.out;omega
             have hrun:=HJ.out.2.2.1
             have hrow:=HJ.out.2.2.2.1
             have hdl:=allS_len _ _ _ hrun
             rw[hkn,List.take_length] at hrun hdl
             rw[hkn,half_end hdl] at hrow
             have HRUN2:=Lib.hid hrun
             have HLS:=Lib.hid (xL_made hrow)
             have HDS2:Hid ((Kd.fixed kDecl w0).R 46 wr s1 (fun k=>s1≤k∧k<s5) (.slice a5 nd z5) ds):=Lib.hid (HJ.out.2.2.2.2.R HDS.out (fun k h1 _ h2=>by omega))
             have hbx:Blk wr w.heap.size 28 #[.slice A1 b.types.length c1,.slice A2 nd c2,.slice A3 b.comps.length c3,.slice A4 ni c4,.slice A5 nc c5]:=HJ.out.2.2.2.2.blk HBX.out (by have:=HSZ.out;omega)
             have HBX9:=Lib.hid hbx
             have HSZ9:Hid (w.heap.size+3≤s1∧s1≤s5∧s5≤wr.heap.size):=Lib.hid ⟨HSZ.out.1,HSZ.out.2.1,Nat.le_trans HSZ.out.2.2 HJ.out.2.2.2.2.size⟩
             have HF9:=Lib.hid hfl
             have HNL:Hid (ds.length=nd∧done.length=nc):=Lib.hid ⟨by rw[allS_len _ _ _ HRUN.out];exact HND.out,by rw[hdl];exact HNC.out⟩
             clear hrun hrow hdl hbx hkn hk hka hsc hmt hfl HJ HDS HBX HSC HMT HI HSZ
             generalize wr=W9 at *
             generalize done=ls at *
             obtain⟨Q1,r1,hQ1⟩:=Kd.R_slice HF9.out.d
             obtain⟨Q2,r2,hQ2⟩:=Kd.R_slice HF9.out.l
             simp only at hQ1 hQ2
             subst hQ1 hQ2
             have q6:=Blk.cell HF9.out.fl 6
             have q9:=Blk.cell HF9.out.fl 9
             have lg9:=Blk.lt HF9.out.fl
             simp only[List.getElem?_toArray,List.getElem?_cons_zero,List.getElem?_cons_succ] at q6 q9
             have hsum:=sum4 (n1:=o.decls.length) (n2:=o.clauses.length) (n3:=nd) (n4:=nc) (by have:=HL3.out;have:=HNS.out;omega)
             obtain⟨M,hM⟩:∃ M,o.decls.length+o.clauses.length+nd+nc=M:=⟨_,rfl⟩
             rw[hM] at hsum
             have HM:=Lib.hid hM
             clear hM
             by_cases hmany:96<M
             · have hmb:decide ((96:Int)<((M:Nat):Int))=true:=decide_eq_true (by omega)
               have hres:r=.error (3,at_):=inst_many HR.out HNM.out HRUN.out HRUN2.out (by rw[HNL.out.1,HNL.out.2,HM.out];exact hmany)
               subst hres
               have HFA:=Lib.hid (fun W (hb:Below W9.heap.size W9 W)=>fail_any W g _ _ _ _ _ _ _ _ _ _ _ _ _ 3 at_ (Fl.below HF9.out.fl hb))
               clear hmany
               go_wp2
               go_region
               go_wp2_with (first|(go_at_call 55;(with_reducible refine (HFA.out _ (Below.refl _ _).drew).mono ?_);rintro e w10 ⟨rfl,hk,h10,h11⟩;have HK10:=Lib.hid hk;have H10:=Lib.hid h10;have H11:=Lib.hid h11;clear hk h10 h11))
               go_ret
               exact FailPost.all (S:=fun b=>b=g) ⟨rfl,HK10.out,H10.out,H11.out⟩ ((HBW.out _ HKB.out).drew) (fun k _ q=>.inl q)
             · have hmb:decide ((96:Int)<((M:Nat):Int))=false:=decide_eq_false (by omega)
               have HLE:Hid (o.decls.length+o.clauses.length+nd+nc≤96):=Lib.hid (by rw[HM.out];omega)
               have HRES:=Lib.hid (inst_inits HR.out HNM.out HRUN.out HRUN2.out (by rw[HNL.out.1,HNL.out.2,HM.out];exact hmany))
               clear hmany
               go_wp2
               go_region
               have HF10:=Lib.hid (HF9.out.up (Below.refl _ _).drew)
               have HKB10:=Lib.hid HKB.out.drew
               have HDS10:=Lib.hid (Kd.R_below HDS2.out (Below.refl _ _).drew)
               have HLS10:=Lib.hid (Kd.R_below HLS.out (Below.refl _ _).drew)
               have HBX10:=Lib.hid HBX9.out.drew
               have HSZ10:Hid (w.heap.size+3≤s1∧s1≤s5∧s5≤W9.drew.heap.size):=HSZ9
               clear q6 q9 lg9 HF9 HKB HDS2 HLS HBX9 HSZ9 hsum hmb
               generalize W9.drew=W10 at *
               have q6:=Blk.cell HF10.out.fl 6
               have q9:=Blk.cell HF10.out.fl 9
               have lg9:=Blk.lt HF10.out.fl
               simp only[List.getElem?_toArray,List.getElem?_cons_zero,List.getElem?_cons_succ] at q6 q9
               go_wp2_with (at_builtin;refine Kd.R_append_rows (Kd.fixed kDecl w0) (Rr:=fun x cs=>kDecl.K w0 x cs) n0 (by rfl) _ _ 23 46 (.agg #[.string ⟨#[]⟩,.slice none 0 0,.bool false,.bool false,.int .i64 0]) 56 rfl Try.underlying23 infoDecl rfl (show 0<Kd.sz kDecl by decide) (by decide) _ o.decls ds a5 nd z5 (fun b=>Off n0 [oT,.slice Q2 o.clauses.length r2] b∧b≠g) (fun _=>False) rfl rfl HF10.out.d (made_row HDS10.out) (fun _ _ h=>h) (fun _ h=>h.elim) (fun k hk=>FlS.freshD HF10.out k hk) (Below.refl _ _) HF10.out.lo.2.1 (by have:=HLE.out;omega) ?_)
               intro v1 w1 h1 hb1 hg1 ha1
               have hlen1:(o.decls++ds).length≤1048576:=by rw[List.length_append,HNL.out.1];have:=HLE.out;omega
               have HF11:=Lib.hid (FlS.pushD HF10.out h1 hg1 ha1 hlen1)
               have hB1:=Blk.grown HF10.out.fl hg1 (fun e=>(HF10.out.d.1 g e.symm).2 rfl)
               have HLS11:Hid ((mL w0).R 54 (w1.setCell ⟨g,6,none⟩ v1) s5 (fun k=>s5≤k∧k<W10.heap.size) (.slice a6 nc z6) ls):=Lib.hid (Kd.R_far (Kd.R_grown (Kd.R_mono (Kd.R_bound HLS10.out) (ok':=fun k=>s5≤k∧k<W10.heap.size) (fun k hk=>⟨hk.1,hk.2.2.1⟩)) hg1 (fun k hk=>(FlS.midL H.out (s:=s5) (by have:=HSZ10.out;omega) k hk.1).2.2)) (fun k hk=>(FlS.midL H.out (s:=s5) (by have:=HSZ10.out;omega) k hk.1).1.2) _)
               have HG1:=Lib.hid hg1
               have HA1:=Lib.hid ha1
               have HBX11:=Lib.hid ((HBX10.out.grown hg1 (fun e=>by have:=Kd.R_lt H.out.d _ e.symm;omega)).far (p:=⟨g,6,none⟩) (fun e=>by have e2:w.heap.size=g:=e;omega) v1)
               obtain⟨p1,y1,hv1⟩:=Kd.R_slice h1
               rw[List.length_append,HNL.out.1] at hv1
               subst hv1
               have HOK:=Lib.hid (FlS.okL H.out (s:=s5) (N:=W10.heap.size) (by have:=HSZ10.out;omega) HA1.out)
               have g6:=hB1.cell 6
               have g9:=hB1.cell 9
               have h6:=hB1.frozen 6
               have h9:=hB1.frozen 9
               have lg1:=hB1.lt
               simp only[List.getElem?_toArray,List.getElem?_cons_zero,List.getElem?_cons_succ] at g6 g9
               clear h1 hb1 hg1 ha1 hlen1 hB1
               go_wp2_with (at_builtin;refine Kd.R_append_rows (mL w0) (Rr:=fun x cs=>(mL w0).M (w1.setCell ⟨g,6,none⟩ (.slice p1 (o.decls.length+nd) y1)) s5 (fun k=>s5≤k∧k<W10.heap.size) x cs) n0 (by rfl) _ _ 26 54 (.agg #[.string ⟨#[]⟩,.slice none 0 0,.int .i64 0,.slice none 0 0,.int .i64 0]) 80 rfl Try.underlying26 infoClause rfl (show 0<5 by decide) (by decide) _ o.clauses ls a6 nc z6 (fun b=>Off n0 [oT,.slice p1 (o.decls.length+nd) y1] b∧b≠g) (fun k=>s5≤k∧k<W10.heap.size) rfl rfl HF11.out.l (made_row HLS11.out) (fun _ _ h=>(mL w0).M_lower (by have:=H.out.lo;have:=HSZ10.out;omega) h) (fun k hk=>HOK.out k hk) (fun k hk=>FlS.freshL HF11.out k hk) (Below.refl _ _) HF11.out.lo.2.1 (by have:=HLE.out;omega) ?_)
               intro v2 w2 h2 hb2 hg2 ha2
               have hlen2:(o.clauses++ls).length≤1048576:=by rw[List.length_append,HNL.out.2];have:=HLE.out;omega
               have HF12:=Lib.hid (FlS.pushL HF11.out h2 hg2 (by rw[set_size];exact ha2) hlen2)
               have hB2:=Blk.grown HF11.out.fl hg2 (fun e=>(HF11.out.l.1 g e.symm).2 rfl)
               have hbx:=(HBX11.out.grown hg2 (fun e=>by have:=Kd.R_lt H.out.l _ e.symm;omega)).far (p:=⟨g,9,none⟩) (fun e=>by have e2:w.heap.size=g:=e;omega) v2
               obtain⟨p2,y2,hv2⟩:=Kd.R_slice h2
               rw[List.length_append,HNL.out.2] at hv2
               subst hv2
               have i9:=hB2.cell 9
               have j9:=hB2.frozen 9
               have lg2:=hB2.lt
               simp only[List.getElem?_toArray,List.getElem?_cons_zero,List.getElem?_cons_succ] at i9
               obtain⟨p0',p1',p2',p3',p4'⟩:=five_cells hbx
               have lbx:=hbx.lt
               have hkw:Kp (Ch g (.slice Q1 o.decls.length r1) (.slice Q2 o.clauses.length r2)) w ((w2.setCell ⟨g,9,none⟩ (.slice p2 (o.clauses.length+nc) y2))):=
                ((((HBW.out _ HKB10.out).then_grown HG1.out (fun k e _=>.inr (.inl e))).set (fun _=>.inl rfl) 6 _).then_grown hg2 (fun k e _=>.inr (.inr e))).set (fun _=>.inl rfl) 9 _
               have hnew:∀ k,Ch g (.slice p1 (o.decls.length+nd) y1) (.slice p2 (o.clauses.length+nc) y2) k→Ch g (.slice Q1 o.decls.length r1) (.slice Q2 o.clauses.length r2) k∨w.heap.size≤k:=
                ch_new HA1.out ha2 (by have:=HSZ10.out;omega) (by have h1:=HG1.out.size;have h2:=HSZ10.out;omega)
               have hS:∀ k,k<w.heap.size→Ch g (.slice p1 (o.decls.length+nd) y1) (.slice p2 (o.clauses.length+nc) y2) k→Ch g (.slice Q1 o.decls.length r1) (.slice Q2 o.clauses.length r2) k:=fun k hl h=>(hnew k h).elim id (fun h=>by omega)
               have hres2:=HRES.out
               rw[HN1.out] at hres2
               have HCALL:=Lib.hid (HIH.out _ _ _ b _ _ _ _ _ pre way _ _ r HF12.out (HB.out.step hkw hS) (HW.out.step hkw hS) HS.out HPRE.out HWAY.out (by have:=HK.out;omega) hres2)
               have HKW12:=Lib.hid hkw
               have HNEW:=Lib.hid hnew
               clear h2 hb2 hg2 ha2 hlen2 hB2 hbx hkw hnew hS hres2 HOK
               go_wp2_with (first|(go_at_call 22;(with_reducible refine (HCALL.out).mono ?_);rintro e w13 hp;obtain⟨q,rfl⟩:=IPost.ret hp;have HPO:=Lib.hid hp;clear hp))
               go_ret
               exact IPost.from HPO.out HKW12.out HNEW.out
end Go.Proofs.Ytddmceldglelkaa.CmpIns
namespace Go.Proofs.Ytddmceldglelkaa.CmpAll
open Go Go.RowKit CmpIns CmpInits RefPure CmpPure CmpMem CmpInst RefCells YtddmceldglelkaaW.PrintWords
theorem ins_any (w0:World) (vT vD vC vI vL:Value) (p:ProgT) (g n0:Nat) (oT:Value) (tl:List TDecl) (K:Nat) (ih:PInits w0 vT vD vC vI vL p g n0 oT tl K):PInst w0 vT vD vC vI vL p g n0 oT tl (K+1):=by
 intro w oD oL b b1 b2 b3 b4 b5 pre at_ way vW o r h hb hw hs hpre hway hk hr
 by_cases hm:96<o.made+1
 · rw[instS,if_pos hm] at hr
   injection hr with hr
   subst hr
   exact ins_many w0 w vT vD vC vI vL p g n0 oT oD oL tl o b1 b2 b3 b4 b5 b pre at_ vW h hb hm
 · exact ins_go w0 vT vD vC vI vL p g n0 oT tl K ih w oD oL b b1 b2 b3 b4 b5 pre at_ way vW o r h hb hw hs hpre hway hk hr hm
theorem inst_all (w0:World) (vT vD vC vI vL:Value) (p:ProgT) (g n0:Nat) (oT:Value) (tl:List TDecl) (hp:CmpSize.Small p):∀ K:Nat,PInst w0 vT vD vC vI vL p g n0 oT tl K:=by
 intro K
 induction K with
 | zero=>intro w oD oL b b1 b2 b3 b4 b5 pre at_ way vW o r h hb hw hs hpre hway hk hr;cases hr
 | succ K ih=>exact ins_any w0 vT vD vC vI vL p g n0 oT tl K (inits_any w0 vT vD vC vI vL p g n0 oT tl hp K ih)
theorem inits_all (w0:World) (vT vD vC vI vL:Value) (p:ProgT) (g n0:Nat) (oT:Value) (tl:List TDecl) (hp:CmpSize.Small p) (K:Nat):PInits w0 vT vD vC vI vL p g n0 oT tl K:=
 inits_any w0 vT vD vC vI vL p g n0 oT tl hp K (inst_all w0 vT vD vC vI vL p g n0 oT tl hp K)
end Go.Proofs.Ytddmceldglelkaa.CmpAll
namespace Go.Proofs.Ytddmceldglelkaa.CmpFlat
open Go Go.RowKit CmpAll CmpInsMem CmpInits RefPure RefKinds RefMem RefSameP CmpPure CmpMem CmpKinds CmpFind CmpName CmpCopied CmpClone CmpClause CmpRule CmpWholeOf CmpInst RefExpr RefFields RefCells YtddmceldglelkaaW.PrintWords
def FlatPost (w0:World) (r:Except (Int×Int) ProgT) (e:Ending) (w':World):Prop:=
 Below w0.heap.size w0 w'∧
 match r with
 | .error z=>e=.returned (.tuple #[.agg #[.slice none 0 0,.slice none 0 0,.slice none 0 0,.slice none 0 0,.slice none 0 0],.agg #[.int .i64 z.1,.int .i64 z.2]])
 | .ok q=>∃ uT uD uL,e=.returned (.tuple #[.agg #[uT,uD,.slice none 0 0,.slice none 0 0,uL],.agg #[.int .i64 0,.int .i64 0]])∧(Kd.fixed kTDecl w0).R 73 w' w0.heap.size (Off w0.heap.size [uD,uL]) uT q.types∧(Kd.fixed kDecl w0).R 46 w' w0.heap.size (Off w0.heap.size [uT,uL]) uD q.decls∧(mL w0).R 54 w' w0.heap.size (Off w0.heap.size [uT,uD]) uL q.clauses∧q.comps=[]∧q.inits=[]
theorem row_mid {α:Type} {d:Kd α} {e:Nat} {w w':World} {lo n0:Nat} {v:Value} {xs:List α} {os:List Value} {g:Nat} (h:d.R e w lo (fun k=>lo≤k) v xs) (hb:Below w.heap.size w w') (hn:n0≤lo) (hos:∀ o∈os,∀ k,o.ownBlock=some k→¬(lo≤k∧k<w.heap.size)) (hg:w.heap.size≤g):d.R e w' n0 (fun b=>Off n0 os b∧b≠g) v xs:=by
 have h1:=Kd.R_below (Kd.R_mono (ok':=fun k=>lo≤k∧k<w.heap.size) (Kd.R_bound h) (fun k hk=>⟨hk.1,hk.2.2.1⟩)) hb
 exact Kd.R_mono (Kd.R_lower h1 hn) (fun k hk=>⟨⟨Nat.le_trans hn hk.1,fun o ho e=>hos o ho k e hk⟩,fun e=>by omega⟩)
theorem flat_start {w0 W1 w2 w3 w4:World} {vT vD vC vI vL:Value} {p:ProgT} (hv:PV w0 w0 vT vD vC vI vL p) {oT oD oL:Value} (hbl:Below w0.heap.size w0 W1) (h2:(Kd.fixed kTDecl w0).R 73 w2 W1.heap.size (fun k=>W1.heap.size≤k) oT p.types) (h3:(Kd.fixed kDecl w0).R 46 w3 w2.heap.size (fun k=>w2.heap.size≤k) oD p.decls) (h4:(mL w0).R 54 w4 w3.heap.size (fun k=>w3.heap.size≤k) oL p.clauses)
    (b12:Below W1.heap.size W1 w2) (b23:Below w2.heap.size w2 w3) (b34:Below w3.heap.size w3 w4) (hl:p.decls.length≤1048576∧p.clauses.length≤1048576) :
    FlS w0 (w4.alloc (.cells #[vT,vD,vC,vI,vL,oT,oD,.slice none 0 0,.slice none 0 0,oL,.int .i64 0,.int .i64 0,.int .i64 0] 77)) vT vD vC vI vL p w4.heap.size W1.heap.size oT oD oL p.types ⟨0,p.decls,p.clauses⟩:=by
 have s1:=hbl.size
 have s2:=b12.size
 have s3:=b23.size
 have s4:=b34.size
 have b45:=below1 w4 (.cells #[vT,vD,vC,vI,vL,oT,oD,.slice none 0 0,.slice none 0 0,oL,.int .i64 0,.int .i64 0,.int .i64 0] 77)
 have b35:=b34.trans (b45.mono s4)
 have b25:=b23.trans (b35.mono s3)
 have s5:=b45.size
 refine⟨hbl.trans ((b12.trans (b25.mono s2)).mono s1),hv,Blk.new _ _ _,row_mid h2 b25 (Nat.le_refl _) ?_ (by omega),row_mid h3 b35 s2 ?_ (by omega),row_mid h4 b45 (Nat.le_trans s2 s3) ?_ (by omega),⟨s1,by omega,by omega⟩,hl.1,hl.2,Nat.zero_le _⟩
 · intro o ho k e
   simp only[List.mem_cons,List.not_mem_nil,or_false] at ho
   rcases ho with rfl|rfl
   · have:=Kd.R_base h3 k e;omega
   · have:=Kd.R_base h4 k e;omega
 · intro o ho k e
   simp only[List.mem_cons,List.not_mem_nil,or_false] at ho
   rcases ho with rfl|rfl
   · have:=Kd.R_lt h2 k e;omega
   · have:=Kd.R_base h4 k e;omega
 · intro o ho k e
   simp only[List.mem_cons,List.not_mem_nil,or_false] at ho
   rcases ho with rfl|rfl
   · have:=Kd.R_lt h2 k e;omega
   · have:=Kd.R_lt h3 k e;omega
theorem seven_out {W:World} {X Y:Nat} {t t2:TypeId} {a b c d e f h a0 b0 c0 d0 e0 f0 h0:Value} (hX:Blk W X t #[a0,b0,c0,d0,e0]) (hY:Blk W Y t2 #[f0,h0]) (hne:X≠Y) :
    Blk (((five W X a b c d e).setCell ⟨Y,0,none⟩ f).setCell ⟨Y,1,none⟩ h) X t #[a,b,c,d,e]∧Blk (((five W X a b c d e).setCell ⟨Y,0,none⟩ f).setCell ⟨Y,1,none⟩ h) Y t2 #[f,h]∧Kp (fun k=>k=X∨k=Y) W (((five W X a b c d e).setCell ⟨Y,0,none⟩ f).setCell ⟨Y,1,none⟩ h):=
 ⟨((five_blk hX).far (p:=⟨Y,0,none⟩) hne _).far (p:=⟨Y,1,none⟩) hne _,((five_far hY hne.symm).set_ 0 f).set_ 1 h,((CmpWhole.kp_five (Kp.refl _ W) (fun _=>.inl rfl)).set (fun _=>.inr rfl) 0 f).set (fun _=>.inr rfl) 1 h⟩
theorem way_nil (w:World) (S:Nat→Prop):CmpInst.Way w S (.slice none 0 0) []:=
 ⟨fun W _=>⟨none,0,rfl,Nat.le_refl _,⟨rfl,Nat.zero_le _,fun h=>absurd h (Nat.lt_irrefl _)⟩⟩,fun A n c ad hv hA=>by injection hv with h1;subst h1;cases hA⟩
theorem flatten_any (w0:World) (vT vD vC vI vL:Value) (p:ProgT) (hv:PV w0 w0 vT vD vC vI vL p) (hs:CmpSize.Small p) (r:Except (Int×Int) ProgT) (hr:flatS p=some r) :
    Calls Try.prog 8 #[.agg #[vT,vD,vC,vI,vL]] w0 (FlatPost w0 r):=by
 have HV:=Lib.hid hv
 obtain⟨P1,d1,P2,d2,P3,d3,P4,d4,P5,d5,rfl,rfl,rfl,rfl,rfl⟩:=hv.values
 have HS:=Lib.hid hs
 have HR:=Lib.hid hr
 have HL:Hid (p.types.length≤1048576∧p.decls.length≤1048576∧p.clauses.length≤1048576):=Lib.hid (by have:=hs.body.many;unfold manyP at this;omega)
 clear hv hs hr
 go_enter Try.func8,Try.ntmps8
 go_wp2
 have HW1:Hid (∃ W1,((w0.alloc (.cells #[.slice P1 p.types.length d1,.slice P2 p.decls.length d2,.slice P3 p.comps.length d3,.slice P4 p.inits.length d4,.slice P5 p.clauses.length d5] 28)).alloc (.cells #[.slice none 0 0,.slice none 0 0,.slice none 0 0,.slice none 0 0,.slice none 0 0] 28)).alloc (.cells #[.int .i64 0,.int .i64 0] 31)=W1∧Blk W1 w0.heap.size 28 #[.slice P1 p.types.length d1,.slice P2 p.decls.length d2,.slice P3 p.comps.length d3,.slice P4 p.inits.length d4,.slice P5 p.clauses.length d5]∧Blk W1 (w0.heap.size+1) 28 #[.slice none 0 0,.slice none 0 0,.slice none 0 0,.slice none 0 0,.slice none 0 0]∧Blk W1 (w0.heap.size+1+1) 31 #[.int .i64 0,.int .i64 0]∧Below w0.heap.size w0 W1∧W1.heap.size=w0.heap.size+3):=
  Lib.hid ⟨_,rfl,((Blk.new w0 _ _).alloc _).alloc _,(blk_new1 w0 _ _ _).alloc _,blk_new2 w0 _ _ _ _,below3 w0 _ _ _,by rw[size1,size1,size1]⟩
 obtain⟨W1,hW1,hb1,hb2,hb3,hbl,hsz⟩:=HW1.out
 rw[hW1]
 have HB1:=Lib.hid hb1
 have HB2:=Lib.hid hb2
 have HB3:=Lib.hid hb3
 have HBL:=Lib.hid hbl
 have HSZ:=Lib.hid hsz
 obtain⟨p0,p1,p2,p3,p4⟩:=five_cells hb1
 have lbx:=hb1.lt
 have hrl:=fun W (hb:Below W1.heap.size W1 W)=>(⟨(hb.cell (p:=⟨w0.heap.size,0,none⟩) lbx).trans p0,(hb.cell (p:=⟨w0.heap.size,1,none⟩) lbx).trans p1,(hb.cell (p:=⟨w0.heap.size,2,none⟩) lbx).trans p2,(hb.cell (p:=⟨w0.heap.size,3,none⟩) lbx).trans p3,(hb.cell (p:=⟨w0.heap.size,4,none⟩) lbx).trans p4⟩:W.cell? ⟨w0.heap.size,0,none⟩=some (.slice P1 p.types.length d1)∧W.cell? ⟨w0.heap.size,1,none⟩=some (.slice P2 p.decls.length d2)∧W.cell? ⟨w0.heap.size,2,none⟩=some (.slice P3 p.comps.length d3)∧W.cell? ⟨w0.heap.size,3,none⟩=some (.slice P4 p.inits.length d4)∧W.cell? ⟨w0.heap.size,4,none⟩=some (.slice P5 p.clauses.length d5))
 have hS1:=Below.refl W1.heap.size W1
 have HCT:=Lib.hid (fun W (hb:Below W1.heap.size W1 W)=>types_any w0 W _ p.types (HV.out.t.below (hbl.trans (hb.mono hbl.size))) HL.out.1)
 have HCD:=Lib.hid (fun W (hb:Below W1.heap.size W1 W)=>decls_any w0 W _ p.decls (HV.out.d.below (hbl.trans (hb.mono hbl.size))) HL.out.2.1)
 have HCC:=Lib.hid (fun W (hb:Below W1.heap.size W1 W)=>copied_any w0 W _ p.clauses (HV.out.l.below (hbl.trans (hb.mono hbl.size))) (hbl.trans (hb.mono hbl.size)) HL.out.2.2 (fun c hc=>(HS.out.body.clauses c hc).len))
 clear hW1 hb1 hb2 hb3 hbl hsz p0 p1 p2 p3 p4 HW1
 go_region_held3 (fun W=>Below W1.heap.size W1 W) (first|assumption|(repeat (with_reducible first|assumption|exact Below.refl _ _|refine Below.drew ?_|refine below_alloc ?_ _)))
  (first
  | (go_at_call 18;(with_reducible refine (HCT.out _ (Below.refl _ _).drew).mono ?_);rintro e w2 ⟨v2,rfl,hr2,hb2⟩;obtain⟨a2,z2,e2⟩:=Kd.R_slice hr2;subst e2;have hS2:Below W1.heap.size W1 w2:=(Below.refl _ W1).drew.trans hb2;have HR2:=Lib.hid hr2;have HB12:=Lib.hid hS2;clear hr2 hb2)
  | (go_at_call 19;(with_reducible refine (HCD.out _ HB12.out).mono ?_);rintro e w3 ⟨v3,rfl,hr3,hb3⟩;obtain⟨a3,z3,e3⟩:=Kd.R_slice hr3;subst e3;have hS3:Below W1.heap.size W1 w3:=HB12.out.trans (hb3.mono HB12.out.size);have HR3:=Lib.hid hr3;have HB23:=Lib.hid hb3;have HB13:=Lib.hid hS3;clear hr3 hb3)
  | (go_at_call 20;(with_reducible refine (HCC.out _ HB13.out).mono ?_);rintro e w4 ⟨v4,rfl,hr4,hb4⟩;obtain⟨a4,z4,e4⟩:=Kd.R_slice hr4;subst e4;have hS4:Below W1.heap.size W1 w4:=HB13.out.trans (hb4.mono HB13.out.size);have HR4:=Lib.hid hr4;have HB34:=Lib.hid hb4;have HB14:=Lib.hid hS4;clear hr4 hb4))
 have HFS:=Lib.hid (flat_start HV.out HBL.out HR2.out HR3.out HR4.out HB12.out HB23.out HB34.out HL.out.2)
 have HB5:=Lib.hid (HB14.out.alloc HB14.out.size (.cells #[.slice P1 p.types.length d1,.slice P2 p.decls.length d2,.slice P3 p.comps.length d3,.slice P4 p.inits.length d4,.slice P5 p.clauses.length d5,.slice a2 p.types.length z2,.slice a3 p.decls.length z3,.slice none 0 0,.slice none 0 0,.slice a4 p.clauses.length z4,.int .i64 0,.int .i64 0,.int .i64 0] 77))
 have HG:Hid (W1.heap.size≤w4.heap.size):=Lib.hid HB14.out.size
 clear HCT HCD HCC HR2 HR3 HR4 HB12 HB23 HB34 hS1 hS2 hS3 hS4 hrl lbx
 clear HB14 HB13
 have b15:Below W1.heap.size W1 (w4.alloc (.cells #[.slice P1 p.types.length d1,.slice P2 p.decls.length d2,.slice P3 p.comps.length d3,.slice P4 p.inits.length d4,.slice P5 p.clauses.length d5,.slice a2 p.types.length z2,.slice a3 p.decls.length z3,.slice none 0 0,.slice none 0 0,.slice a4 p.clauses.length z4,.int .i64 0,.int .i64 0,.int .i64 0] 77)):=HB5.out
 have HX1:=Lib.hid (HB1.out.below b15 HB1.out.lt)
 have HX2:=Lib.hid (HB2.out.below b15 HB2.out.lt)
 have HX3:=Lib.hid (HB3.out.below b15 HB3.out.lt)
 clear b15 HB1 HB2 HB3 HB5
 generalize w4.alloc (.cells #[.slice P1 p.types.length d1,.slice P2 p.decls.length d2,.slice P3 p.comps.length d3,.slice P4 p.inits.length d4,.slice P5 p.clauses.length d5,.slice a2 p.types.length z2,.slice a3 p.decls.length z3,.slice none 0 0,.slice none 0 0,.slice a4 p.clauses.length z4,.int .i64 0,.int .i64 0,.int .i64 0] 77)=W5 at *
 generalize w4.heap.size=g at *
 clear w4
 have HRU:=Lib.hid (rules_any w0 W5 g _ _ _ _ _ _ _ _ _ _ p HFS.out.bs HV.out HS.out HFS.out.fl)
 cases hru:rulesS p.comps with
 | some z=>
   rw[hru] at HRU
   have hr:r=.error z:=by
    have:=HR.out
    unfold flatS at this
    rw[hru] at this
    injection this with this
    exact this.symm
   subst hr
   clear hru
   go_wp2_with (first|(go_at_call 21;(with_reducible refine (HRU.out).mono ?_);rintro e w7 ⟨rfl,hk,h10,h11⟩;have HK7:=Lib.hid hk;have lg7:=cell_lt h10;have x3:=hk.blk HX3.out (by have:=HG.out;have:=HSZ.out;omega);have c30:=x3.cell 0;have c31:=x3.cell 1;have f30:=x3.frozen 0;have f31:=x3.frozen 1;have l3:=x3.lt;have x2:=hk.blk HX2.out (by have:=HG.out;have:=HSZ.out;omega);have c2:=five_cells x2;have f2:=five_frozen x2;have l2:=x2.lt;simp only[List.getElem?_toArray,List.getElem?_cons_zero,List.getElem?_cons_succ] at c30 c31;have HQ3:=Lib.hid x3;have HQ2:=Lib.hid x2;clear x3 x2;clear hk))
   have HB7:Hid (Below w0.heap.size w0 w7):=Lib.hid (HFS.out.bs.trans (HK7.out.below (fun k hl e=>by have:=HG.out;have:=HSZ.out;omega) HFS.out.size))
   clear HRU HFS
   go_region
   all_goals go_wp2
   all_goals refine bodyPost_ret (results_cc rfl _ _ (w0.heap.size+1) (w0.heap.size+1+1) 28 31 #[.slice none 0 0,.slice none 0 0,.slice none 0 0,.slice none 0 0,.slice none 0 0] #[.int .i64 z.1,.int .i64 z.2] (0,0) (0,0) _ _ rfl ?_ Try.underlying28 rfl (by kernel_rfl) rfl ?_ Try.underlying31 rfl (by kernel_rfl)) rfl ?_
   · exact (seven_out HQ2.out HQ3.out (Nat.ne_of_lt (Nat.lt_succ_self _))).1.drew
   · exact (seven_out HQ2.out HQ3.out (Nat.ne_of_lt (Nat.lt_succ_self _))).2.1.drew
   · exact⟨(HB7.out.trans ((seven_out HQ2.out HQ3.out (Nat.ne_of_lt (Nat.lt_succ_self _))).2.2.below (fun k hl e=>by omega) HB7.out.size)).drew,rfl⟩
 | none=>
   rw[hru] at HRU
   obtain⟨ri,hri,hfr⟩:∃ ri,initsS (wholeOf p.comps) (instS (wholeOf p.comps) (p.comps.length+1)) (str []) [] p.inits (names p.decls).reverse ⟨0,p.decls,p.clauses⟩=some ri∧(match ri with|.error z=>.error z|.ok o=>.ok ⟨p.types,o.decls,[],[],o.clauses⟩)=r:=by
    have:=HR.out
    unfold flatS at this
    rw[hru] at this
    exact Option.map_eq_some_iff.1 this
   have HCH:Hid (∀ k,Ch g (.slice a3 p.decls.length z3) (.slice a4 p.clauses.length z4) k→W1.heap.size≤k):=Lib.hid (by
    rintro k (rfl|hk|hk)
    · exact HG.out
    · exact Kd.R_base HFS.out.d k hk
    · exact Kd.R_base HFS.out.l k hk)
   have hin:∀ W,Below W5.heap.size W5 W→Calls Try.prog 22 #[.pointer (some ⟨g,0,none⟩),.agg #[.slice P1 p.types.length d1,.slice P2 p.decls.length d2,.slice P3 p.comps.length d3,.slice P4 p.inits.length d4,.slice P5 p.clauses.length d5],.string ⟨#[]⟩,.slice none 0 0] W (IPost w0 W _ _ _ _ _ p g W1.heap.size _ _ _ p.types ri):=fun W hb=>
    inits_all w0 _ _ _ _ _ p g W1.heap.size _ p.types HS.out (p.comps.length+1) W _ _ p _ _ _ _ _ (str []) [] _ _ ri (HFS.out.up hb) (fun V hV=>by
     have hbV:Below w0.heap.size w0 V:=(HFS.out.up hb).bs.trans (hV.below (fun k hl hs=>by have:=HCH.out k hs;have:=HSZ.out;omega) (HFS.out.up hb).size)
     exact⟨HV.out.t.below hbV,HV.out.d.below hbV,HV.out.c.below hbV,HV.out.i.below hbV,HV.out.l.below hbV⟩) (way_nil _ _) HS.out.body (Nat.zero_le _) (fun x h=>absurd h List.not_mem_nil) (by have:=HS.out.body.many;unfold manyP at this;simp only[List.length_nil];omega) hri
   have HIN:=Lib.hid hin
   clear hin hri
   cases ri with
   | error z=>
     simp only at hfr
     subst hfr
     go_wp2_with (first
      | (go_at_call 21;(with_reducible refine (HRU.out).mono ?_);rintro e w7 ⟨rfl,hb7⟩;have HB57:=Lib.hid hb7;have lg7:g<w7.heap.size:=Nat.lt_of_lt_of_le (Blk.lt HFS.out.fl) hb7.size;have x1:=HX1.out.below hb7 HX1.out.lt;have c1:=five_cells x1;have l1:=x1.lt;clear hb7 x1)
      | (go_at_call 22;(with_reducible refine (HIN.out _ HB57.out).mono ?_);rintro e w8 ⟨rfl,hk,h10,h11⟩;have HK8:=Lib.hid ((Kp.of_below (Ch g (.slice a3 p.decls.length z3) (.slice a4 p.clauses.length z4)) HB57.out).trans hk (fun _ _ q=>q));have lg8:=cell_lt h10;have x3:=HK8.out.blk HX3.out (fun q=>by have:=HCH.out _ q;have:=HSZ.out;omega);have c30:=x3.cell 0;have c31:=x3.cell 1;have f30:=x3.frozen 0;have f31:=x3.frozen 1;have l3:=x3.lt;have x2:=HK8.out.blk HX2.out (fun q=>by have:=HCH.out _ q;have:=HSZ.out;omega);have c2:=five_cells x2;have f2:=five_frozen x2;have l2:=x2.lt;simp only[List.getElem?_toArray,List.getElem?_cons_zero,List.getElem?_cons_succ] at c30 c31;have HQ3:=Lib.hid x3;have HQ2:=Lib.hid x2;clear x3 x2;clear hk))
     have HB8:Hid (Below w0.heap.size w0 w8):=Lib.hid (HFS.out.bs.trans (HK8.out.below (fun k hl e=>by have:=HCH.out k e;have:=HSZ.out;omega) HFS.out.size))
     clear HRU HFS HIN c1 l1
     go_region
     all_goals go_wp2
     all_goals refine bodyPost_ret (results_cc rfl _ _ (w0.heap.size+1) (w0.heap.size+1+1) 28 31 #[.slice none 0 0,.slice none 0 0,.slice none 0 0,.slice none 0 0,.slice none 0 0] #[.int .i64 z.1,.int .i64 z.2] (0,0) (0,0) _ _ rfl ?_ Try.underlying28 rfl (by kernel_rfl) rfl ?_ Try.underlying31 rfl (by kernel_rfl)) rfl ?_
     · exact (seven_out HQ2.out HQ3.out (Nat.ne_of_lt (Nat.lt_succ_self _))).1.drew
     · exact (seven_out HQ2.out HQ3.out (Nat.ne_of_lt (Nat.lt_succ_self _))).2.1.drew
     · exact⟨(HB8.out.trans ((seven_out HQ2.out HQ3.out (Nat.ne_of_lt (Nat.lt_succ_self _))).2.2.below (fun k hl e=>by omega) HB8.out.size)).drew,rfl⟩
   | ok o=>
     simp only at hfr
     subst hfr
     go_wp2_with (first
      | (go_at_call 21;(with_reducible refine (HRU.out).mono ?_);rintro e w7 ⟨rfl,hb7⟩;have HB57:=Lib.hid hb7;have lg7:g<w7.heap.size:=Nat.lt_of_lt_of_le (Blk.lt HFS.out.fl) hb7.size;have x1:=HX1.out.below hb7 HX1.out.lt;have c1:=five_cells x1;have l1:=x1.lt;clear hb7 x1)
      | (go_at_call 22;(with_reducible refine (HIN.out _ HB57.out).mono ?_);rintro e w8 ⟨rfl,oD,oL,hf8,hk,hn8⟩;obtain⟨aT,yT,eT⟩:=Kd.R_slice hf8.t;obtain⟨aD,yD,eD⟩:=Kd.R_slice hf8.d;obtain⟨aL,yL,eL⟩:=Kd.R_slice hf8.l;subst eD eL;have g5:=Blk.cell hf8.fl 5;have g6:=Blk.cell hf8.fl 6;have g7:=Blk.cell hf8.fl 7;have g8:=Blk.cell hf8.fl 8;have g9:=Blk.cell hf8.fl 9;have lg8:=Blk.lt hf8.fl;simp only[List.getElem?_toArray,List.getElem?_cons_zero,List.getElem?_cons_succ] at g5 g6 g7 g8 g9;have HF8:=Lib.hid hf8;have HK8:=Lib.hid ((Kp.of_below (Ch g (.slice a3 p.decls.length z3) (.slice a4 p.clauses.length z4)) HB57.out).trans hk (fun _ _ q=>q));have x3:=HK8.out.blk HX3.out (fun q=>by have:=HCH.out _ q;have:=HSZ.out;omega);have c30:=x3.cell 0;have c31:=x3.cell 1;have f30:=x3.frozen 0;have f31:=x3.frozen 1;have l3:=x3.lt;have x2:=HK8.out.blk HX2.out (fun q=>by have:=HCH.out _ q;have:=HSZ.out;omega);have c2:=five_cells x2;have f2:=five_frozen x2;have l2:=x2.lt;simp only[List.getElem?_toArray,List.getElem?_cons_zero,List.getElem?_cons_succ] at c30 c31;have HQ3:=Lib.hid x3;have HQ2:=Lib.hid x2;clear x3 x2;clear hk hf8 hn8))
     clear HRU HFS HIN c1 l1
     all_goals go_wp2
     all_goals refine bodyPost_ret (results_cc rfl _ _ (w0.heap.size+1) (w0.heap.size+1+1) 28 31 #[.slice a2 p.types.length z2,.slice aD o.decls.length yD,.slice none 0 0,.slice none 0 0,.slice aL o.clauses.length yL] #[.int .i64 0,.int .i64 0] (0,0) (0,0) _ _ rfl ?_ Try.underlying28 rfl (by kernel_rfl) rfl ?_ Try.underlying31 rfl (by kernel_rfl)) rfl ?_
     · exact (seven_out HQ2.out HQ3.out (Nat.ne_of_lt (Nat.lt_succ_self _))).1
     · exact (seven_out HQ2.out HQ3.out (Nat.ne_of_lt (Nat.lt_succ_self _))).2.1
     · have hk:=(seven_out (a:=.slice a2 p.types.length z2) (b:=.slice aD o.decls.length yD) (c:=.slice none 0 0) (d:=.slice none 0 0) (e:=.slice aL o.clauses.length yL) (f:=.int .i64 0) (h:=.int .i64 0) HQ2.out HQ3.out (Nat.ne_of_lt (Nat.lt_succ_self _))).2.2
       have hsz:=HSZ.out
       have hn:w0.heap.size≤W1.heap.size:=by omega
       have hS:∀ k,W1.heap.size≤k→k=w0.heap.size+1∨k=w0.heap.size+1+1→False:=fun k h1 h2=>by omega
       exact⟨HF8.out.bs.trans (hk.below (fun k hl e=>by omega) HF8.out.size),_,_,_,rfl,
        Kd.R_mono (Kd.R_lower (hk.R HF8.out.t (fun k h1 _ h2=>hS k h1.1.1 h2)) hn) (fun k h=>⟨Nat.le_trans hn h.1.1,h.1.2⟩),
        Kd.R_mono (Kd.R_lower (hk.R HF8.out.d (fun k h1 _ h2=>hS k h1.1.1 h2)) hn) (fun k h=>⟨Nat.le_trans hn h.1.1,h.1.2⟩),
        Kd.R_mono (Kd.R_lower (hk.R HF8.out.l (fun k h1 _ h2=>hS k h1.1.1 h2)) hn) (fun k h=>⟨Nat.le_trans hn h.1.1,h.1.2⟩),rfl,rfl⟩
end Go.Proofs.Ytddmceldglelkaa.CmpFlat
namespace Go.Proofs.Ytddmceldglelkaa.RefSameR
open Go Go.RowKit RefPure RefKinds RefMem RefSameP RefExpr RefCells CmpMem CmpFind YtddmceldglelkaaW.PrintWords
structure PW (w:World) (vT vD vC vI vL:Value) (p:ProgT):Prop where
 t:Vw kTDecl w vT p.types
 d:Vw kDecl w vD p.decls
 c:Vw kComp w vC p.comps
 i:Vw kInit w vI p.inits
 l:Vw kClause w vL p.clauses
theorem PW.below {w w1:World} {vT vD vC vI vL:Value} {p:ProgT} (h:PW w vT vD vC vI vL p) (hb:Below w.heap.size w w1):PW w1 vT vD vC vI vL p:=⟨h.t.below hb,h.d.below hb,h.c.below hb,h.i.below hb,h.l.below hb⟩
theorem PW.values {w:World} {vT vD vC vI vL:Value} {p:ProgT} (h:PW w vT vD vC vI vL p):∃ A1 c1 A2 c2 A3 c3 A4 c4 A5 c5,vT=.slice A1 p.types.length c1∧vD=.slice A2 p.decls.length c2∧vC=.slice A3 p.comps.length c3∧vI=.slice A4 p.inits.length c4∧vL=.slice A5 p.clauses.length c5:=by
 obtain⟨A1,c1,h1⟩:=h.t.slice
 obtain⟨A2,c2,h2⟩:=h.d.slice
 obtain⟨A3,c3,h3⟩:=h.c.slice
 obtain⟨A4,c4,h4⟩:=h.i.slice
 obtain⟨A5,c5,h5⟩:=h.l.slice
 exact⟨A1,c1,A2,c2,A3,c3,A4,c4,A5,c5,h1,h2,h3,h4,h5⟩
theorem cell_in {w:World} {p:Addr} {v:Value} (h:w.cell? p=some v):p.block<w.heap.size:=by
 rcases Nat.lt_or_ge p.block w.heap.size with q|q
 · exact q
 · simp[World.cell?,Array.getElem?_eq_none q] at h
end Go.Proofs.Ytddmceldglelkaa.RefSameR
namespace Go.Proofs.Ytddmceldglelkaa.CmpAlive
open Go Go.RowKit RefPure LexPure
def txt:List UInt8:=[46,99,111,109,112,32,67,32,123,32,46,100,101,99,108,32,114,40,120,58,32,110,117,109,98,101,114,41,32,114,40,120,41,32,58,45,32,101,40,120,41,46,32,125,32,46,105,110,105,116,32,100,32,61,32,67]
def vr:ByteArray:=str [114]
def vx:ByteArray:=str [120]
def want:ProgT:=⟨[],[],[⟨str [67],[],⟨[],[⟨vr,[⟨vx,str [110,117,109,98,101,114]⟩],false,false,10⟩],[],[],[⟨⟨vr,[⟨1,0,vx,[],31⟩],29⟩,[⟨1,⟨str [101],[⟨1,0,vx,[],39⟩],37⟩,str [],ex0,ex0,37⟩],29⟩]⟩,0⟩],[⟨str [100],str [67],45⟩],[]⟩
theorem parse_ok:parse 400 txt=some (want,0,0):=by kernel_rfl
end Go.Proofs.Ytddmceldglelkaa.CmpAlive
