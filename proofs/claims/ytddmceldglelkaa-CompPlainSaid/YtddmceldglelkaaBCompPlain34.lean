/- A claim's texts, in the order of what they need: RefSameZ, CmpAlive, CmpLaw, CmpPlainW. -/
import Derived.Test.YtddmceldglelkaaBCompPlain15
import Derived.Test.YtddmceldglelkaaBCompPlain24
import Derived.Test.YtddmceldglelkaaBCompPlain27
import Derived.Test.YtddmceldglelkaaBCompPlain33
set_option maxRecDepth 100000
set_option maxHeartbeats 8000000
set_option linter.unusedVariables false
set_option linter.unusedSimpArgs false
set_option linter.unusedSectionVars false
namespace Go.Proofs.Ytddmceldglelkaa.RefSameZ
open Go Go.RowKit RefPure RefKinds RefMem RefSameP RefSame RefSameR RefExpr RefCells CmpMem YtddmceldglelkaaW.PrintWords
theorem init_cells {w:World} {A:Option Addr} {n c:Nat} {l:List InitT} (h:Vw kInit w (.slice A n c) l) (i:Nat) (x:InitT) (hx:l[i]?=some x) :
    ∃ ad,A=some ad∧w.cell? (ad.add (i*3))=some (.string x.name)∧w.cell? ⟨(ad.add (i*3)).block,(ad.add (i*3)).off+1,none⟩=some (.string x.comp)∧w.cell? ⟨(ad.add (i*3)).block,(ad.add (i*3)).off+2,none⟩=some (.int .i64 x.at_):=by
 obtain⟨ad,cs,hA,hK,hcell0⟩:=h.at_ i x hx;have hcell:∀ j u,cs[j]?=some u→w.cell? (ad.add (i*3+j))=some u:=hcell0;obtain rfl:=kInit_open hK;exact⟨ad,hA,hcell 0 _ rfl,by rw[← add_field _ _ 1 (by omega)];exact hcell 1 _ rfl,by rw[← add_field _ _ 2 (by omega)];exact hcell 2 _ rfl⟩
theorem clause_cells {w:World} {A:Option Addr} {n c:Nat} {l:List ClauseT} (h:Vw kClause w (.slice A n c) l) (i:Nat) (x:ClauseT) (hx:l[i]?=some x) :
    ∃ ad va vb,A=some ad∧Vw kEx w va x.head.args∧Vw kLit w vb x.body∧w.cell? (ad.add (i*5))=some (.string x.head.rel)∧w.cell? ⟨(ad.add (i*5)).block,(ad.add (i*5)).off+1,none⟩=some va∧w.cell? ⟨(ad.add (i*5)).block,(ad.add (i*5)).off+2,none⟩=some (.int .i64 x.head.at_)∧w.cell? ⟨(ad.add (i*5)).block,(ad.add (i*5)).off+3,none⟩=some vb∧w.cell? ⟨(ad.add (i*5)).block,(ad.add (i*5)).off+4,none⟩=some (.int .i64 x.at_):=by
 obtain⟨ad,cs,hA,hK,hcell0⟩:=h.at_ i x hx;have hcell:∀ j u,cs[j]?=some u→w.cell? (ad.add (i*5+j))=some u:=hcell0;obtain⟨va,vb,rfl,hva,hvb⟩:=CmpKinds.kL_open hK;exact⟨ad,va,vb,hA,hva,hvb,hcell 0 _ rfl,by rw[← add_field _ _ 1 (by omega)];exact hcell 1 _ rfl,by rw[← add_field _ _ 2 (by omega)];exact hcell 2 _ rfl,by rw[← add_field _ _ 3 (by omega)];exact hcell 3 _ rfl,by rw[← add_field _ _ 4 (by omega)];exact hcell 4 _ rfl⟩
theorem same_step (N:Nat) (ih:PCs N):PSm (N+1):=by
 intro w a vT vD vC vI vL uT uD uC uI uL pl hsz hp hq;obtain⟨A1,c1,A2,c2,A3,c3,A4,c4,A5,c5,rfl,rfl,rfl,rfl,rfl⟩:=hp.values;obtain⟨B1,d1,B2,d2,B3,d3,B4,d4,B5,d5,rfl,rfl,rfl,rfl,rfl⟩:=hq.values;have HI:=Lib.hid ih;unfold PCs at HI;have HSZ:Hid (SizeOf.sizeOf a.comps≤N):=Lib.hid (by have:=comps_size a;omega);have HP:=Lib.hid hp;have HQ:=Lib.hid hq;have HMI:=Lib.hid hp.i.max;have HMC:=Lib.hid hp.l.max;obtain⟨ni,hni⟩:∃ n,a.inits.length=n:=⟨_,rfl⟩;obtain⟨nc,hnc⟩:∃ n,a.clauses.length=n:=⟨_,rfl⟩;have HNI:=Lib.hid hni;have HNC:=Lib.hid hnc;have HPI:=Lib.hid hp.i;have HQI:=Lib.hid hq.i;have HPC:=Lib.hid hp.l;have HQC:=Lib.hid hq.l;simp only[hni] at HPI HQI HMI;simp only[hnc] at HPC HQC HMC;have HKD:=Lib.hid (fun W (hb:Below w.heap.size w W)=>(RefSameT.kinds_any W a.types a.types _ _ pl (hp.t.below hb) (hq.t.below hb)).mono (fun e w' h=>(⟨by rw[h.1,sameAll_refl _ (sameT_refl pl)],h.2⟩:e=.returned (.bool true)∧Below W.heap.size W w')));have HDC:=Lib.hid (fun W (hb:Below w.heap.size w W)=>(RefSameD.decls_any W a.decls a.decls _ _ pl (hp.d.below hb) (hq.d.below hb)).mono (fun e w' h=>(⟨by rw[h.1,sameAll_refl _ (sameD_refl pl)],h.2⟩:e=.returned (.bool true)∧Below W.heap.size W w')));have HCS:=Lib.hid (fun W (hb:Below w.heap.size w W)=>HI.out W a.comps _ _ pl HSZ.out (hp.c.below hb) (hq.c.below hb));simp only[hni,hnc];clear ih hsz hp hq hni hnc;obtain⟨W1,hW1,hx1,hx2,hbl⟩:∃ W1,(w.alloc (.cells #[.slice A1 a.types.length c1,.slice A2 a.decls.length c2,.slice A3 a.comps.length c3,.slice A4 ni c4,.slice A5 nc c5] 28)).alloc (.cells #[.slice B1 a.types.length d1,.slice B2 a.decls.length d2,.slice B3 a.comps.length d3,.slice B4 ni d4,.slice B5 nc d5] 28)=W1∧Blk W1 w.heap.size 28 #[.slice A1 a.types.length c1,.slice A2 a.decls.length c2,.slice A3 a.comps.length c3,.slice A4 ni c4,.slice A5 nc c5]∧Blk W1 (w.heap.size+1) 28 #[.slice B1 a.types.length d1,.slice B2 a.decls.length d2,.slice B3 a.comps.length d3,.slice B4 ni d4,.slice B5 nc d5]∧Below w.heap.size w W1:=⟨_,rfl,(Blk.new w _ _).alloc _,blk_new1 w _ _ _,below2 w _ _⟩;have HX1:=Lib.hid hx1;have HX2:=Lib.hid hx2;have HBL:=Lib.hid hbl;have HW:=Lib.hid hW1;have HKD1:=HKD.out W1 hbl;rw[← hW1] at HKD1;have HKE:=Lib.hid HKD1;clear hx1 hx2 hbl hW1 HKD1;go_enter Try.func9,Try.ntmps9
 go_wp2_with (first
  | (go_at_call 23;(with_reducible refine (HKE.out).mono ?_);rintro e w2 ⟨rfl,hb⟩;rw[HW.out] at hb;have h1:=HX1.out.below hb HX1.out.lt;have h2:=HX2.out.below hb HX2.out.lt;have HB2:=Lib.hid (HBL.out.trans (hb.mono HBL.out.size));have HH1:=Lib.hid h1;have HH2:=Lib.hid h2;have k1:=five_cells h1;have k2:=five_cells h2;have l1:=h1.lt;have l2:=h2.lt;clear h1 h2 hb)
  | (go_at_call 24;(with_reducible refine (HDC.out _ HB2.out).mono ?_);rintro e w3 ⟨rfl,hb⟩;have h1:=HH1.out.below hb HH1.out.lt;have h2:=HH2.out.below hb HH2.out.lt;have HB3:=Lib.hid (HB2.out.trans (hb.mono HB2.out.size));have HH3:=Lib.hid h1;have HH4:=Lib.hid h2;have k1:=five_cells h1;have k2:=five_cells h2;have l1:=h1.lt;have l2:=h2.lt;clear h1 h2 hb)
  | (go_at_call 25;(with_reducible refine (HCS.out _ HB3.out).mono ?_);rintro e w4 ⟨rfl,hb⟩;have h1:=HH3.out.below hb HH3.out.lt;have h2:=HH4.out.below hb HH4.out.lt;have HB4:=Lib.hid (HB3.out.trans (hb.mono HB3.out.size));have HH5:=Lib.hid h1;have HH6:=Lib.hid h2;have k1:=five_cells h1;have k2:=five_cells h2;have l1:=h1.lt;have l2:=h2.lt;clear h1 h2 hb))
 clear k1 k2 l1 l2 HKD HDC HCS HKE HB2 HB3 HH1 HH2 HH3 HH4 HX1 HX2 HW HBL;go_loopg [7] (ni+1) (fun gk v7 wr=>∃ i:Nat,v7=.int .i64 (i:Int)∧Hid (i≤ni∧Below w4.heap.size w4 wr∧ni - i<gk))
 case atStart=>exact⟨0,rfl,Lib.hid ⟨Nat.zero_le _,Below.refl _ _,by omega⟩⟩
 case round=>
  obtain⟨i,rfl,HI2⟩:=hrel;have hbw:Below w.heap.size w wr:=HB4.out.trans (HI2.out.2.1.mono HB4.out.size);have h1:=HH5.out.below HI2.out.2.1 HH5.out.lt;have h2:=HH6.out.below HI2.out.2.1 HH6.out.lt;have HG1:=Lib.hid h1;have HG2:=Lib.hid h2;have HBW:=Lib.hid hbw;by_cases hi:i<ni
  · have hib:decide (i<ni)=true:=decide_eq_true hi;obtain⟨x,hx⟩:∃ t,a.inits[i]?=some t:=⟨a.inits[i]'(by rw[HNI.out];exact hi),by simp⟩;obtain⟨x1,rfl,p0,p1,p2⟩:=init_cells (HPI.out.below hbw) i x hx;obtain⟨x2,rfl,q0,q1,q2⟩:=init_cells (HQI.out.below hbw) i x hx;have hi0:(0:Int)≤(i:Int):=(by omega);have hi1:(i:Int)<(ni:Int):=(by omega);have hpl:plc pl x.at_ x.at_=true:=plc_refl _ _;have n1:(x.name.toList==x.name.toList)=true:=(by simp);have n2:(x.name.toList != x.name.toList)=false:=(by simp);have n3:(x.comp.toList==x.comp.toList)=true:=(by simp);have n4:(x.comp.toList != x.comp.toList)=false:=(by simp);have k1:=h1.cell 3;have k2:=h2.cell 3;have l1:=h1.lt;have l2:=h2.lt;simp only[List.getElem?_toArray,List.getElem?_cons_zero,List.getElem?_cons_succ] at k1 k2;clear hx h1 h2 hbw;go_wp2;(try simp only[List.append_eq,List.cons_append,List.nil_append])
    go_quiet (first
     | (go_at_call 26;exact Calls.quiet_of_same ((place_any _ _ _ _).mono fun _ _ q=>⟨q.1,q.2.symm⟩)))
    go_wp2;all_goals go_roundg (ni - i)
    all_goals first
     | (have:=HI2.out.2.2;omega)
     | exact⟨i+1,by rw[CmpMem.wrap_up i (Nat.le_trans hi HMI.out)],Lib.hid ⟨hi,HI2.out.2.1.trans (Below.mono (pw_below_drewN (Below.refl _ _) _) HI2.out.2.1.size),by omega⟩⟩
  · have hib:decide (i<ni)=false:=decide_eq_false hi;have k1:=five_cells h1;have k2:=five_cells h2;have l1:=h1.lt;have l2:=h2.lt;clear h1 h2 hbw hi HI2;go_wp2;clear k1 k2 l1 l2 hib;generalize wr=W5 at *;go_loopg [8] (nc+1) (fun gk v8 wr=>∃ i:Nat,v8=.int .i64 (i:Int)∧Hid (i≤nc∧Below W5.heap.size W5 wr∧nc - i<gk))
    case atStart=>exact⟨0,rfl,Lib.hid ⟨Nat.zero_le _,Below.refl _ _,by omega⟩⟩
    case round=>
     obtain⟨i,rfl,HI2⟩:=hrel;have hbw:Below w.heap.size w wr:=HBW.out.trans (HI2.out.2.1.mono HBW.out.size);have h1:=HG1.out.below HI2.out.2.1 HG1.out.lt;have h2:=HG2.out.below HI2.out.2.1 HG2.out.lt;have HBV:=Lib.hid hbw;have k1:=h1.cell 4;have k2:=h2.cell 4;have l1:=h1.lt;have l2:=h2.lt;simp only[List.getElem?_toArray,List.getElem?_cons_zero,List.getElem?_cons_succ] at k1 k2;by_cases hi:i<nc
     · have hib:decide (i<nc)=true:=decide_eq_true hi;obtain⟨x,hx⟩:∃ t,a.clauses[i]?=some t:=⟨a.clauses[i]'(by rw[HNC.out];exact hi),by simp⟩;obtain⟨x1,va,vb,rfl,hva,hvb,p0,p1,p2,p3,p4⟩:=clause_cells (HPC.out.below hbw) i x hx;obtain⟨x2,vc,vd,rfl,hvc,hvd,q0,q1,q2,q3,q4⟩:=clause_cells (HQC.out.below hbw) i x hx;have HCC:=Lib.hid (fun W (hb:Below wr.heap.size wr W)=>(RefSameC.sameClause_any W x x va vc vb vd pl (hva.below hb) (hvc.below hb) (hvb.below hb) (hvd.below hb)).mono (fun e w' h=>(⟨by rw[h.1,sameCl_refl],h.2⟩:e=.returned (.bool true)∧Below W.heap.size W w')));obtain⟨g1,y1,rfl⟩:=hva.slice;obtain⟨g2,y2,rfl⟩:=hvb.slice;obtain⟨g3,y3,rfl⟩:=hvc.slice;obtain⟨g4,y4,rfl⟩:=hvd.slice;have hi0:(0:Int)≤(i:Int):=(by omega);have hi1:(i:Int)<(nc:Int):=(by omega);have hS0:=Below.refl wr.heap.size wr;have hrl:=fun W (hb:Below wr.heap.size wr W)=>(⟨(hb.cell (cell_in p0)).trans p0,(hb.cell (cell_in p1)).trans p1,(hb.cell (cell_in p2)).trans p2,(hb.cell (cell_in p3)).trans p3,(hb.cell (cell_in p4)).trans p4,(hb.cell (cell_in q0)).trans q0,(hb.cell (cell_in q1)).trans q1,(hb.cell (cell_in q2)).trans q2,(hb.cell (cell_in q3)).trans q3,(hb.cell (cell_in q4)).trans q4,(hb.cell (cell_in k1)).trans k1,(hb.cell (cell_in k2)).trans k2⟩:W.cell? (x1.add (i*5))=some (.string x.head.rel)∧W.cell? ⟨(x1.add (i*5)).block,(x1.add (i*5)).off+1,none⟩=some (.slice g1 x.head.args.length y1)∧W.cell? ⟨(x1.add (i*5)).block,(x1.add (i*5)).off+2,none⟩=some (.int .i64 x.head.at_)∧W.cell? ⟨(x1.add (i*5)).block,(x1.add (i*5)).off+3,none⟩=some (.slice g2 x.body.length y2)∧W.cell? ⟨(x1.add (i*5)).block,(x1.add (i*5)).off+4,none⟩=some (.int .i64 x.at_)∧W.cell? (x2.add (i*5))=some (.string x.head.rel)∧W.cell? ⟨(x2.add (i*5)).block,(x2.add (i*5)).off+1,none⟩=some (.slice g3 x.head.args.length y3)∧W.cell? ⟨(x2.add (i*5)).block,(x2.add (i*5)).off+2,none⟩=some (.int .i64 x.head.at_)∧W.cell? ⟨(x2.add (i*5)).block,(x2.add (i*5)).off+3,none⟩=some (.slice g4 x.body.length y4)∧W.cell? ⟨(x2.add (i*5)).block,(x2.add (i*5)).off+4,none⟩=some (.int .i64 x.at_)∧W.cell? ⟨w.heap.size,4,none⟩=some (.slice (some x1) nc c5)∧W.cell? ⟨w.heap.size+1,4,none⟩=some (.slice (some x2) nc d5));clear hx hva hvb hvc hvd h1 h2 hbw;go_wp2
       go_region_held3 (fun W=>Below wr.heap.size wr W) (first|assumption|(repeat (with_reducible first|assumption|exact Below.refl _ _|refine Below.drew ?_|refine below_alloc ?_ _)))
        (first
        | (go_at_call 27;(with_reducible refine (HCC.out _ (Below.refl _ _).drew).mono ?_);rintro e w1 ⟨rfl,hb⟩;have hS1:Below wr.heap.size wr w1:=(Below.refl _ wr).drew.trans hb;have HB1:=Lib.hid hS1;clear hb))
       (all_goals go_wp2);all_goals go_roundg (nc - i)
       all_goals first
        | (have:=HI2.out.2.2;omega)
        | exact⟨i+1,by rw[CmpMem.wrap_up i (Nat.le_trans hi HMC.out)],Lib.hid ⟨hi,HI2.out.2.1.trans (HB1.out.mono HI2.out.2.1.size),by omega⟩⟩
     · have hib:decide (i<nc)=false:=decide_eq_false hi;clear h1 h2 hbw;go_wp2;go_ret;exact⟨rfl,HBV.out⟩
theorem same_both:∀ N:Nat,PSm N∧PCs N:=by
 intro N;induction N with
 | zero=>
   refine⟨fun w a vT vD vC vI vL uT uD uC uI uL pl hsz _ _=>?_,fun w l vl vm pl hsz _ _=>?_⟩
   · cases a;simp at hsz
   · cases l <;> simp at hsz
 | succ N ih=>exact⟨same_step N ih.2,comps_step N ih.1⟩
theorem same_any (w:World) (a:ProgT) (vT vD vC vI vL uT uD uC uI uL:Value) (pl:Bool) (h1:PW w vT vD vC vI vL a) (h2:PW w uT uD uC uI uL a):Calls Try.prog 9 #[.agg #[vT,vD,vC,vI,vL],.agg #[uT,uD,uC,uI,uL],.bool pl] w fun e w'=>e=.returned (.bool true)∧Below w.heap.size w w':=
 (same_both (SizeOf.sizeOf a)).1 w a vT vD vC vI vL uT uD uC uI uL pl (Nat.le_refl _) h1 h2
end Go.Proofs.Ytddmceldglelkaa.RefSameZ
namespace Go.Proofs.Ytddmceldglelkaa.CmpAlive
open Go Go.RowKit RefPure LexPure
def txt:List UInt8:=[46,99,111,109,112,32,67,32,123,32,46,100,101,99,108,32,114,40,120,58,32,110,117,109,98,101,114,41,32,114,40,120,41,32,58,45,32,101,40,120,41,46,32,125,32,46,105,110,105,116,32,100,32,61,32,67]
def vr:ByteArray:=str [114]
def vx:ByteArray:=str [120]
def want:ProgT:=⟨[],[],[⟨str [67],[],⟨[],[⟨vr,[⟨vx,str [110,117,109,98,101,114]⟩],false,false,10⟩],[],[],[⟨⟨vr,[⟨1,0,vx,[],31⟩],29⟩,[⟨1,⟨str [101],[⟨1,0,vx,[],39⟩],37⟩,str [],ex0,ex0,37⟩],29⟩]⟩,0⟩],[⟨str [100],str [67],45⟩],[]⟩
theorem parse_ok:parse 400 txt=some (want,0,0):=by kernel_rfl
end Go.Proofs.Ytddmceldglelkaa.CmpAlive
namespace Go.Proofs.Ytddmceldglelkaa.CmpLaw
open Go Go.RowKit CmpFind CmpFlat CmpAlive RefSameR RefSameZ RefPure RefKinds RefMem RefSameP CmpPure CmpMem CmpKinds RefExpr RefFields RefCells YtddmceldglelkaaW.PrintWords
theorem parse_calls (s:ByteArray) (hs:s.size≤140737488351232):∃ k r,parse k s.data.toList=some r∧CmpSize.Small r.1∧∀ w,Calls Try.prog 7 #[.string s] w (RefParse.ParsePost w r):=by obtain⟨k,r,hr,hk,hsm⟩:=CmpSize.parse_some s.data.toList;exact⟨k,r,hr,hsm,fun w=>RefParse.parse_any s hs w k (by omega) r hr⟩
theorem rows_pw {w:World} {n0:Nat} {vT vD vC vI vL:Value} {p:ProgT} (h:RefProgS.Rows w n0 vT vD vC vI vL p):PW w vT vD vC vI vL p:=⟨Vw.of_R h.t,Vw.of_R h.d,Vw.of_R h.c,Vw.of_R h.i,Vw.of_R h.l⟩
theorem pw_pv {w:World} {vT vD vC vI vL:Value} {p:ProgT} (h:PW w vT vD vC vI vL p):PV w w vT vD vC vI vL p:=⟨vw_fixed h.t,vw_fixed h.d,vw_fixed h.c,vw_fixed h.i,vw_fixed h.l⟩
theorem vw_map {α:Type} {d d':Kd α} {w:World} {v:Value} {xs:List α} (h:Vw d w v xs) (hz:d'.sz=d.sz) (hK:∀ x cs,d.K w x cs→d'.K w x cs):Vw d' w v xs:=by obtain⟨A,c,rfl,hl,h1,h2,h3⟩:=h;refine⟨A,c,rfl,hl,h1,h2,fun hn=>?_⟩;obtain⟨ad,hA,hr⟩:=h3 hn;refine⟨ad,hA,fun j x hj=>?_⟩;obtain⟨cs,hcl,hk,hcell⟩:=hr j x hj;rw[hz];exact⟨cs,hcl,hK x cs hk,hcell⟩
theorem vw_unfix {α:Type} {d:Kd α} {w0 w:World} {v:Value} {xs:List α} (h:Vw (Kd.fixed d w0) w v xs) (hb:Below w0.heap.size w0 w):Vw d w v xs:=vw_map h rfl (fun _ _ hk=>d.K_below hb hk)
theorem vw_mL {w0 w:World} {v:Value} {xs:List ClauseT} (h:Vw (mL w0) w v xs) (hb:Below w0.heap.size w0 w):Vw kClause w v xs:=vw_map h rfl (fun x cs hk=>by obtain⟨va,vb,rfl,hva,hvb⟩:=mL_open hk;obtain⟨A,c,rfl,h1,h2⟩:=hva.below hb;obtain⟨B,d,rfl,h3,h4⟩:=vw_unfix hvb hb;exact kClause_mk w x h1 h2 h3 h4)
theorem vw_nil {α:Type} (d:Kd α) (w:World):Vw d w (.slice none 0 0) []:=⟨none,0,rfl,Nat.le_refl _,⟨rfl,Nat.zero_le _,fun h=>absurd h (Nat.lt_irrefl _)⟩⟩
theorem pw_plain {w:World} {vT vD vC vI vL:Value} {p:ProgT} (h:PW w vT vD vC vI vL p):PW w vT vD (.slice none 0 0) (.slice none 0 0) vL ⟨p.types,p.decls,[],[],p.clauses⟩:=⟨h.t,h.d,vw_nil _ _,vw_nil _ _,h.l⟩
theorem box_1 {w1 w2:World} {cs:Array Value} {t:TypeId} {o:Obj} (hb:Below ((w1.alloc (.cells cs t)).alloc o).heap.size ((w1.alloc (.cells cs t)).alloc o) w2):Blk w2 w1.heap.size t cs:=Blk.below ((Blk.new w1 t cs).alloc o) hb ((Blk.new w1 t cs).alloc o).lt
def FlatView (w:World) (r:Except (Int×Int) ProgT) (e:Ending) (w':World):Prop:=
 Below w.heap.size w w'∧
 match r with
 | .error z=>e=.returned (.tuple #[.agg #[.slice none 0 0,.slice none 0 0,.slice none 0 0,.slice none 0 0,.slice none 0 0],.agg #[.int .i64 z.1,.int .i64 z.2]])
 | .ok q=>∃ uT uD uL,e=.returned (.tuple #[.agg #[uT,uD,.slice none 0 0,.slice none 0 0,uL],.agg #[.int .i64 0,.int .i64 0]])∧PW w' uT uD (.slice none 0 0) (.slice none 0 0) uL q∧q.comps=[]∧q.inits=[]
theorem flat_view {w w':World} {r:Except (Int×Int) ProgT} {e:Ending} (h:FlatPost w r e w'):FlatView w r e w':=by
 obtain⟨hb,h⟩:=h;refine⟨hb,?_⟩;cases r with
 | error z=>exact h
 | ok q=>
   obtain⟨uT,uD,uL,he,h1,h2,h3,h4,h5⟩:=h;refine⟨uT,uD,uL,he,⟨vw_unfix (Vw.of_R h1) hb,vw_unfix (Vw.of_R h2) hb,?_,?_,vw_mL (Vw.of_R h3) hb⟩,h4,h5⟩
   · rw[h4];exact vw_nil _ _
   · rw[h5];exact vw_nil _ _
theorem flat_calls (w:World) (vT vD vC vI vL:Value) (p:ProgT) (hv:PW w vT vD vC vI vL p) (hs:CmpSize.Small p) (r:Except (Int×Int) ProgT) (hr:flatS p=some r) :
    Calls Try.prog 8 #[.agg #[vT,vD,vC,vI,vL]] w (FlatView w r):=(flatten_any w vT vD vC vI vL p (pw_pv hv) hs r hr).mono (fun _ _ h=>flat_view h)
def FView (w:World) (q:ProgT) (e:Ending) (w':World):Prop:=
 Below w.heap.size w w'∧∃ A1 c1 A2 c2 A5 c5,e=.returned (.tuple #[.agg #[.slice A1 q.types.length c1,.slice A2 q.decls.length c2,.slice none 0 0,.slice none 0 0,.slice A5 q.clauses.length c5],.agg #[.int .i64 0,.int .i64 0]])∧PW w' (.slice A1 q.types.length c1) (.slice A2 q.decls.length c2) (.slice none 0 0) (.slice none 0 0) (.slice A5 q.clauses.length c5) q
theorem f_view {w w':World} {q:ProgT} {e:Ending} (h:FlatView w (.ok q) e w'):FView w q e w':=by obtain⟨hb,uT,uD,uL,he,hp,_,_⟩:=h;obtain⟨A1,c1,rfl⟩:=hp.t.slice;obtain⟨A2,c2,rfl⟩:=hp.d.slice;obtain⟨A5,c5,rfl⟩:=hp.l.slice;exact⟨hb,A1,c1,A2,c2,A5,c5,he,hp⟩
def flatWant:ProgT:=⟨[],[⟨str [100,46,114],[⟨vx,str [110,117,109,98,101,114]⟩],false,false,10⟩],[],[],[⟨⟨str [100,46,114],[⟨1,0,vx,[],31⟩],29⟩,[⟨1,⟨str [101],[⟨1,0,vx,[],39⟩],37⟩,str [],ex0,ex0,37⟩],29⟩]⟩
theorem flat_want:flatS want=some (.ok flatWant):=by kernel_rfl
def txtB:ByteArray:=⟨#[46,99,111,109,112,32,67,32,123,32,46,100,101,99,108,32,114,40,120,58,32,110,117,109,98,101,114,41,32,114,40,120,41,32,58,45,32,101,40,120,41,46,32,125,32,46,105,110,105,116,32,100,32,61,32,67]⟩
theorem small_want:CmpSize.Small want:=CmpSize.parse_small 400 (by decide) txt (want,0,0) parse_ok
theorem parse_txt (w:World):Calls Try.prog 7 #[.string txtB] w (RefParse.ParsePost w (want,0,0)):=RefParse.parse_any txtB (by decide) w 400 (by decide) _ parse_ok
def ParseView (w:World) (p:ProgT) (why fat:Int) (e:Ending) (w':World):Prop:=
 ∃ A1 c1 A2 c2 A3 c3 A4 c4 A5 c5,e=.returned (.tuple #[.agg #[.slice A1 p.types.length c1,.slice A2 p.decls.length c2,.slice A3 p.comps.length c3,.slice A4 p.inits.length c4,.slice A5 p.clauses.length c5],.agg #[.int .i64 why,.int .i64 fat]])∧PW w' (.slice A1 p.types.length c1) (.slice A2 p.decls.length c2) (.slice A3 p.comps.length c3) (.slice A4 p.inits.length c4) (.slice A5 p.clauses.length c5) p∧Below w.heap.size w w'
theorem parse_view {w w':World} {r:ProgT×Int×Int} {e:Ending} (h:RefParse.ParsePost w r e w'):ParseView w r.1 r.2.1 r.2.2 e w':=by obtain⟨vT,vD,vC,vI,vL,he,hr,hb⟩:=h;have hp:=rows_pw hr;obtain⟨A1,c1,A2,c2,A3,c3,A4,c4,A5,c5,rfl,rfl,rfl,rfl,rfl⟩:=hp.values;exact⟨A1,c1,A2,c2,A3,c3,A4,c4,A5,c5,he,hp,hb⟩
theorem decl_at0 {w:World} {A:Option Addr} {n c:Nat} {x:DeclT} (h:Vw kDecl w (.slice A n c) [x]):∃ ad,A=some ad∧w.cell? ad=some (.string x.name):=by obtain⟨ad,cs,hA,hK,hcell0⟩:=h.at_ 0 x rfl;have hcell:∀ j u,cs[j]?=some u→w.cell? (ad.add (0*5+j))=some u:=hcell0;obtain⟨A2,c2,rfl,_⟩:=kDecl_open hK;exact⟨ad,hA,by simpa [Addr.add] using hcell 0 _ rfl⟩
theorem clause_at0 {w:World} {A:Option Addr} {n c:Nat} {x:ClauseT} (h:Vw kClause w (.slice A n c) [x]):∃ ad,A=some ad∧w.cell? ad=some (.string x.head.rel):=by obtain⟨ad,cs,hA,hK,hcell0⟩:=h.at_ 0 x rfl;have hcell:∀ j u,cs[j]?=some u→w.cell? (ad.add (0*5+j))=some u:=hcell0;obtain⟨va,vb,rfl,_⟩:=kL_open hK;exact⟨ad,hA,by simpa [Addr.add] using hcell 0 _ rfl⟩
def AView (w:World) (e:Ending) (w':World):Prop:=
 Below w.heap.size w w'∧∃ A1 c1 a2 c2 a5 c5,e=.returned (.tuple #[.agg #[.slice A1 0 c1,.slice (some a2) 1 c2,.slice none 0 0,.slice none 0 0,.slice (some a5) 1 c5],.agg #[.int .i64 0,.int .i64 0]])∧w'.cell? a2=some (.string ⟨#[100,46,114]⟩)∧w'.cell? a5=some (.string ⟨#[100,46,114]⟩)
theorem alive_view {w w':World} {e:Ending} (h:FlatView w (.ok flatWant) e w'):AView w e w':=by obtain⟨hb,uT,uD,uL,he,hp,_,_⟩:=h;obtain⟨A1,c1,rfl⟩:=hp.t.slice;obtain⟨A2,c2,rfl⟩:=hp.d.slice;obtain⟨A5,c5,rfl⟩:=hp.l.slice;obtain⟨a2,rfl,h2⟩:=decl_at0 (x:=⟨str [100,46,114],[⟨vx,str [110,117,109,98,101,114]⟩],false,false,10⟩) hp.d;obtain⟨a5,rfl,h5⟩:=clause_at0 (x:=⟨⟨str [100,46,114],[⟨1,0,vx,[],31⟩],29⟩,[⟨1,⟨str [101],[⟨1,0,vx,[],39⟩],37⟩,str [],ex0,ex0,37⟩],29⟩) hp.l;exact⟨hb,A1,c1,a2,c2,a5,c5,he,h2,h5⟩
theorem isflat_any (w:World) (A1 A2 A5:Option Addr) (n1 n2 n5 c1 c2 c5:Nat):Calls Try.prog 28 #[.agg #[.slice A1 n1 c1,.slice A2 n2 c2,.slice none 0 0,.slice none 0 0,.slice A5 n5 c5]] w fun e w'=>e=.returned (.bool true)∧Below w.heap.size w w':=by go_enter Try.func28,Try.ntmps28;go_wp2;go_ret;exact⟨rfl,below1 _ _⟩
theorem alive_any (w:World):Calls Try.prog 10 #[] w fun e w'=>e=.returned (.bool true)∧Below w.heap.size w w':=by
 have HP:=Lib.hid (fun W=>(parse_txt W).mono (fun _ _ h=>parse_view h));simp only[txtB] at HP;have e1:((⟨#[100,46,114]⟩:ByteArray).toList==(⟨#[100,46,114]⟩:ByteArray).toList)=true:=(by simp);have HF:=Lib.hid (fun W vT vD vC vI vL h=>(flat_calls W vT vD vC vI vL want h small_want _ flat_want).mono (fun _ _ h=>alive_view h));go_enter Try.func10,Try.ntmps10
 go_wp2_with (first
  | (go_at_call 7;(with_reducible refine (HP.out _).mono ?_);rintro e w1 ⟨A1,c1,A2,c2,A3,c3,A4,c4,A5,c5,rfl,hp,hb⟩;have HPW:=Lib.hid hp;have HB1:=Lib.hid hb;clear hp hb)
  | (go_at_call 8;(with_reducible refine (HF.out _ _ _ _ _ _ (HPW.out.below (below2 _ _ _))).mono ?_);rintro e w2 ⟨hb,B1,d1,a2,d2,a5,d5,rfl,hn1,hn2⟩;have HB2:=Lib.hid (HB1.out.trans ((below_in (below2 _ _ _) hb).mono HB1.out.size));have HF2:=Lib.hid ((blk_new1 w1 (.cells #[.slice A1 want.types.length c1,.slice A2 want.decls.length c2,.slice A3 want.comps.length c3,.slice A4 want.inits.length c4,.slice A5 want.clauses.length c5] 28) 31 #[.int .i64 0,.int .i64 0]).below hb (blk_new1 w1 (.cells #[.slice A1 want.types.length c1,.slice A2 want.decls.length c2,.slice A3 want.comps.length c3,.slice A4 want.inits.length c4,.slice A5 want.clauses.length c5] 28) 31 #[.int .i64 0,.int .i64 0]).lt);have hla2:=cell_in hn1;have hla5:=cell_in hn2;have g0:=HF2.out.cell 0;have g1:=HF2.out.cell 1;have lx3:=HF2.out.lt;have lx4:w1.heap.size<w2.heap.size:=Nat.lt_of_succ_lt lx3;simp only[List.getElem?_toArray,List.getElem?_cons_zero,List.getElem?_cons_succ] at g0 g1;clear hb)
  | (go_at_call 28;(with_reducible refine (isflat_any _ _ _ _ _ _ _ _ _ _).mono ?_);rintro e w3 ⟨rfl,hb⟩;have HB3:=Lib.hid hb;clear hb))
 go_ret;exact⟨rfl,HB2.out.trans ((below_in (below2 _ _ _) HB3.out).mono HB2.out.size)⟩
end Go.Proofs.Ytddmceldglelkaa.CmpLaw
namespace Go.Proofs.Ytddmceldglelkaa.CmpPlainW
open Go Go.RowKit CmpLaw CmpFind CmpFlat RefSameR RefSameZ RefPure RefKinds RefMem RefSameP CmpPure CmpMem CmpKinds RefExpr RefFields RefCells YtddmceldglelkaaW.PrintWords
theorem small_plain {p:ProgT} (h:CmpSize.Small p):CmpSize.Small ⟨p.types,p.decls,[],[],p.clauses⟩:=
 ⟨⟨by have:=h.body.many;unfold manyP at this ⊢;simp only[List.length_nil];omega,h.body.decls,fun _ q=>absurd q List.not_mem_nil,h.body.clauses⟩,fun _ q=>absurd q List.not_mem_nil⟩
theorem plain_any (s:ByteArray) (W:World) (hs:s.size≤140737488351232):Calls Try.prog 3 #[.string s] W fun e w'=>e=.returned (.bool true)∧Below W.heap.size W w':=by
 obtain⟨k,r,_,hsm,hcalls⟩:=parse_calls s hs;obtain⟨p,why,fat⟩:=r;have HP:Hid (∀ W,Calls Try.prog 7 #[.string s] W (ParseView W p why fat)):=Lib.hid (fun W=>(hcalls W).mono (fun _ _ h=>parse_view h));have HF:=Lib.hid (fun V vT vD vL (h:PW V vT vD (.slice none 0 0) (.slice none 0 0) vL ⟨p.types,p.decls,[],[],p.clauses⟩)=>(flat_calls V _ _ _ _ _ _ h (small_plain hsm) _ (flatS_plain _ rfl rfl)).mono (fun _ _ h=>f_view h));clear hsm hcalls hs;go_enter Try.func3,Try.ntmps3
 go_wp2_with (first
  | (go_at_call 7;(with_reducible refine (HP.out _).mono ?_);rintro e w1 ⟨A1,c1,A2,c2,A3,c3,A4,c4,A5,c5,rfl,hp,hb⟩;have HPW:=Lib.hid hp;have HB1:=Lib.hid hb;clear hp hb)
  | (go_at_call 8;(with_reducible refine (HF.out _ _ _ _ ((pw_plain HPW.out).below (below2 _ _ _))).mono ?_);rintro e w2 ⟨hb,B1,d1,B2,d2,B5,d5,rfl,hp⟩;have hx:=box_1 hb;have x0:=five_cells hx;have lx:=hx.lt;have HB2:=Lib.hid (HB1.out.trans ((below_in (below2 _ _ _) hb).mono HB1.out.size));have HPQ:=Lib.hid ((pw_plain HPW.out).below (below_in (below2 w1 _ _) hb));have HPR:=Lib.hid hp;clear hp hb hx)
  | (go_at_call 9;(with_reducible refine (same_any _ _ _ _ _ _ _ _ _ _ _ _ _ (HPQ.out.below (below2 _ _ _)) (HPR.out.below (below2 _ _ _))).mono ?_);rintro e w3 ⟨rfl,hb⟩;have HB3:=Lib.hid (HB2.out.trans ((below_in (below2 _ _ _) hb).mono HB2.out.size));clear hb)
  | (go_at_call 10;(with_reducible refine (alive_any _).mono ?_);rintro e w4 ⟨rfl,hb⟩;have HB4:=Lib.hid (HB3.out.trans (hb.mono HB3.out.size));clear hb))
 go_ret;exact⟨rfl,HB4.out⟩
end Go.Proofs.Ytddmceldglelkaa.CmpPlainW
