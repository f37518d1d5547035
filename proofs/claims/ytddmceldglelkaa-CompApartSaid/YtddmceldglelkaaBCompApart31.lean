/- A claim's texts, in the order of what they need: CmpInits, CmpInsMem. -/
import Derived.Test.YtddmceldglelkaaBCompApart30
import Derived.Deep.RegionHeldLaw
set_option maxRecDepth 100000
set_option maxHeartbeats 8000000
set_option linter.unusedVariables false
set_option linter.unusedSimpArgs false
set_option linter.unusedSectionVars false
namespace Go.Proofs.Ytddmceldglelkaa.CmpInits
open Go Go.RowKit CmpContains RefPure RefKinds RefMem RefSameP CmpPure CmpMem CmpKinds CmpFind CmpName CmpClause CmpRule CmpWholeOf CmpInst RefExpr RefCells YtddmceldglelkaaW.PrintWords
theorem decl_cells {w0 w:World} {A:Option Addr} {n c:Nat} {l:List DeclT} (h:Vw (Kd.fixed kDecl w0) w (.slice A n c) l) (i:Nat) (x:DeclT) (hx:l[i]?=some x) :
    ∃ ad,A=some ad∧∃ A2 c2,w.cell? (ad.add (i*5))=some (.string x.name)∧w.cell? ⟨(ad.add (i*5)).block,(ad.add (i*5)).off+1,none⟩=some (.slice A2 x.cols.length c2)∧w.cell? ⟨(ad.add (i*5)).block,(ad.add (i*5)).off+2,none⟩=some (.bool x.input)∧w.cell? ⟨(ad.add (i*5)).block,(ad.add (i*5)).off+3,none⟩=some (.bool x.output)∧w.cell? ⟨(ad.add (i*5)).block,(ad.add (i*5)).off+4,none⟩=some (.int .i64 x.at_):=by
 obtain⟨ad,cs,hA,hK,hcell0⟩:=h.at_ i x hx
 have hcell:∀ j u,cs[j]?=some u→w.cell? (ad.add (i*5+j))=some u:=hcell0
 obtain⟨A2,c2,rfl,_⟩:=kDecl_open hK
 refine⟨ad,hA,A2,c2,hcell 0 _ rfl,?_,?_,?_,?_⟩
 · rw[← add_field _ _ 1 (by omega)];exact hcell 1 _ rfl
 · rw[← add_field _ _ 2 (by omega)];exact hcell 2 _ rfl
 · rw[← add_field _ _ 3 (by omega)];exact hcell 3 _ rfl
 · rw[← add_field _ _ 4 (by omega)];exact hcell 4 _ rfl
theorem init_cells {w0 w:World} {A:Option Addr} {n c:Nat} {l:List InitT} (h:Vw (Kd.fixed kInit w0) w (.slice A n c) l) (i:Nat) (x:InitT) (hx:l[i]?=some x) :
    ∃ ad,A=some ad∧w.cell? (ad.add (i*3))=some (.string x.name)∧w.cell? ⟨(ad.add (i*3)).block,(ad.add (i*3)).off+1,none⟩=some (.string x.comp)∧w.cell? ⟨(ad.add (i*3)).block,(ad.add (i*3)).off+2,none⟩=some (.int .i64 x.at_):=by
 obtain⟨ad,cs,hA,hK,hcell0⟩:=h.at_ i x hx
 have hcell:∀ j u,cs[j]?=some u→w.cell? (ad.add (i*3+j))=some u:=hcell0
 obtain rfl:=kInit_open hK
 refine⟨ad,hA,hcell 0 _ rfl,?_,?_⟩
 · rw[← add_field _ _ 1 (by omega)];exact hcell 1 _ rfl
 · rw[← add_field _ _ 2 (by omega)];exact hcell 2 _ rfl
structure IRel (w0 w W0 wr:World) (vT vD vC vI vL:Value) (p:ProgT) (g n0:Nat) (oT oD oL:Value) (tl:List TDecl) (b:ProgT) (pre:ByteArray) (way:List ByteArray) (r:Except (Int×Int) Out) (K nd ni i gk:Nat) (o:Out) (uD uL:Value):Prop where
 le:i≤ni∧ni - i<gk
 run:initsS (wholeOf p.comps) (instS (wholeOf p.comps) K) pre way (b.inits.drop i) ((inames (b.inits.take i)).reverse++(names b.decls).reverse) o=some r
 met:CmpMap.Met wr (w.heap.size+1) (nd+i) ((inames (b.inits.take i)).reverse++(names b.decls).reverse)
 fs:FlS w0 wr vT vD vC vI vL p g n0 oT uD uL tl o
 kp:Kp (fun k=>Ch g oD oL k∨k=w.heap.size+1) W0 wr
 new:∀ k,Ch g uD uL k→Ch g oD oL k∨w.heap.size+2≤k
theorem met_lt {w:World} {b m:Nat} {l:List ByteArray} (h:CmpMap.Met w b m l):b<w.heap.size:=by
 obtain⟨es,c,h1⟩:=met_map h
 rcases Nat.lt_or_ge b w.heap.size with q|q
 · exact q
 · rw[Array.getElem?_eq_none q] at h1;cases h1
theorem fl_cells {w:World} {g:Nat} {vT vD vC vI vL oT oD oC oI oL:Value} {why at_ made:Int} (h:Fl w g vT vD vC vI vL oT oD oC oI oL why at_ made):w.cell? ⟨g,0,none⟩=some vT∧w.cell? ⟨g,1,none⟩=some vD∧w.cell? ⟨g,2,none⟩=some vC∧w.cell? ⟨g,3,none⟩=some vI∧w.cell? ⟨g,4,none⟩=some vL:=⟨Blk.cell h 0,Blk.cell h 1,Blk.cell h 2,Blk.cell h 3,Blk.cell h 4⟩
theorem one_row {w:World} {N:Nat} {t:TypeId} {s:ByteArray} (h:Blk w N t #[.string s]):ReadsRow (fun (y:ByteArray) cs=>cs=[Value.string y]) 1 w (some ⟨N,0,none⟩) 1 [s]:=by
 refine⟨rfl,by decide,fun _=>⟨_,rfl,fun j y hj=>?_⟩⟩
 rcases j with _|j
 · refine⟨[.string s],rfl,by simpa using hj,fun i u hu=>?_⟩
   rcases i with _|i
   · have:Value.string s=u:=by simpa using hu
     rw[← this]
     exact h.cell 0
   · simp at hu
 · simp at hj
theorem text_spot {w:World} {base:Nat} {ok:Nat→Prop} {v:Value} {l:List ByteArray} (h:Kd.string.R 9 w base ok v l):∀ A n c ad,v=.slice A n c→A=some ad→ad.spot=none:=by
 intro A n c ad hv hA
 subst hv hA
 obtain⟨_,inner,ho,_⟩:=h
 rcases ho.2 with ⟨hv,_⟩|⟨g,cap,cur,hv,_⟩
 · cases hv
 · injection hv with hA
   injection hA with hA
   subst hA
   rfl
theorem ins_ready {w0 w7 wd:World} {vT vD vC vI vL:Value} {p:ProgT} {g n0 K N3:Nat} {oT uD uL:Value} {tl:List TDecl} {oo:Out} {q:ProgT} {q1 q2 q3 q4 q5 vd:Value} {pre nm:ByteArray} {at_:Int} {way:List ByteArray} {cm:ByteArray} {t:Except (Int×Int) Out} (ih:PInst w0 vT vD vC vI vL p g n0 oT tl K) (hf:FlS w0 w7 vT vD vC vI vL p g n0 oT uD uL tl oo) (hbd:Below w7.heap.size w7 wd) (hq:FRows w0 w7 N3 q1 q2 q3 q4 q5 q) (hch:∀ k,Ch g uD uL k→k<N3) (hok:CmpSize.OkP 65536 1048576 q)
    (hr:Kd.string.R 9 wd w7.heap.size (fun b=>w7.heap.size≤b) vd (way++[cm])) (hpre:pre.size≤65537*way.length) (hnm:nm.size≤65536) (hcm:cm.size≤65536) (hway:∀ x∈way,x.size≤65536) (hk:K+way.length+1≤1048580) (ht:instS (wholeOf p.comps) K q (dot pre nm) at_ (way++[cm]) oo=some t) :
    Calls Try.prog 57 #[.pointer (some ⟨g,0,none⟩),.agg #[q1,q2,q3,q4,q5],.string (pre++nm++⟨#[46]⟩),.int .i64 at_,vd] wd (IPost w0 wd vT vD vC vI vL p g n0 oT uD uL tl t):=by
 refine ih wd uD uL q q1 q2 q3 q4 q5 (dot pre nm) at_ (way++[cm]) vd oo t (hf.up hbd) (fun W hW=>?_) ⟨fun W hW=>?_,text_spot hr⟩ hok ?_ (fun x hx=>?_) ?_ ht
 · exact ((hq.kp (Kp.of_below (fun _=>False) hbd) (fun _ _ _ h=>h)).kp hW (fun k hk _ hs=>by have:=hch k hs;omega)).view
 · exact Vw.of_R (hW.R hr (fun k hk _ hs=>by have:=(hf.old k hs).2;omega))
 · have:(dot pre nm).size=pre.size+nm.size+1:=by
     unfold dot
     rw[ByteArray.size_append,ByteArray.size_append]
     rfl
   rw[this,List.length_append,List.length_singleton]
   omega
 · rcases List.mem_append.1 hx with hx|hx
   · exact hway x hx
   · rw[List.mem_singleton] at hx;exact hx▸hcm
 · rw[List.length_append,List.length_singleton]
   omega
theorem names_step {l:List DeclT} {i:Nat} {x:DeclT} (hx:l[i]?=some x):(names (l.take (i+1))).reverse=x.name :: (names (l.take i)).reverse:=by
 rw[take_one hx]
 simp[names]
theorem inames_step {l:List InitT} {i:Nat} {x:InitT} (hx:l[i]?=some x):(inames (l.take (i+1))).reverse=x.name :: (inames (l.take i)).reverse:=by
 rw[take_one hx]
 simp[inames]
theorem inits_any (w0:World) (vT vD vC vI vL:Value) (p:ProgT) (g n0:Nat) (oT:Value) (tl:List TDecl) (hp:CmpSize.Small p) (K:Nat) (ih:PInst w0 vT vD vC vI vL p g n0 oT tl K):PInits w0 vT vD vC vI vL p g n0 oT tl K:=by
 intro w oD oL b b1 b2 b3 b4 b5 pre way vW o r h hb hw hs hpre hway hk hr
 obtain⟨A1,c1,A2,c2,A3,c3,A4,c4,A5,c5,rfl,rfl,rfl,rfl,rfl⟩:=(hb w (Kp.refl _ w)).values
 obtain⟨P1,d1,P2,d2,P3,d3,P4,d4,P5,d5,rfl,rfl,rfl,rfl,rfl⟩:=h.pv.values
 obtain⟨AW,cW,rfl⟩:=(hw.1 w (Kp.refl _ w)).slice
 have H:=Lib.hid h
 have HB:=Lib.hid hb
 have HW:=Lib.hid hw
 have HS:=Lib.hid hs
 have HP:=Lib.hid hp
 have HPRE:=Lib.hid hpre
 have HWAY:=Lib.hid hway
 have HK:=Lib.hid hk
 have HR:=Lib.hid hr
 have HIH:=Lib.hid ih
 have hmk:∀ W:World,(Instr.makeMap 85 none).run Try.prog W=.ok (.map (some W.heap.size)) (W.alloc (.map #[] 0)):=fun W=>by kernel_rfl
 obtain⟨nd,hnd⟩:∃ n,b.decls.length=n:=⟨_,rfl⟩
 obtain⟨ni,hni⟩:∃ n,b.inits.length=n:=⟨_,rfl⟩
 have HND:=Lib.hid hnd
 have HNI:=Lib.hid hni
 simp only[hnd,hni] at HB ⊢
 clear h hb hw hs hp hpre hway hk hr ih hnd hni
 go_enter Try.func22,Try.ntmps22
 go_wp2
 have HM0:Hid (CmpMap.Met ((w.alloc (.cells #[.slice A1 b.types.length c1,.slice A2 nd c2,.slice A3 b.comps.length c3,.slice A4 ni c4,.slice A5 b.clauses.length c5] 28)).alloc (.map #[] 0)) (w.heap.size+1) 0 []):=Lib.hid (by
  have:=CmpMap.Met.made (w.alloc (.cells #[.slice A1 b.types.length c1,.slice A2 nd c2,.slice A3 b.comps.length c3,.slice A4 ni c4,.slice A5 b.clauses.length c5] 28))
  rwa [size1] at this)
 have HB0:Hid (Below w.heap.size w ((w.alloc (.cells #[.slice A1 b.types.length c1,.slice A2 nd c2,.slice A3 b.comps.length c3,.slice A4 ni c4,.slice A5 b.clauses.length c5] 28)).alloc (.map #[] 0))):=Lib.hid (below2 _ _ _)
 have HS0:Hid (((w.alloc (.cells #[.slice A1 b.types.length c1,.slice A2 nd c2,.slice A3 b.comps.length c3,.slice A4 ni c4,.slice A5 b.clauses.length c5] 28)).alloc (.map #[] 0)).heap.size=w.heap.size+2):=Lib.hid (by rw[size1,size1])
 have HBX0:Hid (Blk ((w.alloc (.cells #[.slice A1 b.types.length c1,.slice A2 nd c2,.slice A3 b.comps.length c3,.slice A4 ni c4,.slice A5 b.clauses.length c5] 28)).alloc (.map #[] 0)) w.heap.size 28 #[.slice A1 b.types.length c1,.slice A2 nd c2,.slice A3 b.comps.length c3,.slice A4 ni c4,.slice A5 b.clauses.length c5]):=Lib.hid ((Blk.new w _ _).alloc _)
 generalize ((w.alloc (.cells #[.slice A1 b.types.length c1,.slice A2 nd c2,.slice A3 b.comps.length c3,.slice A4 ni c4,.slice A5 b.clauses.length c5] 28)).alloc (.map #[] 0))=W0 at *
 go_loopg [20] (nd+1) (fun gk v20 wr=>∃ i:Nat,v20=.int .i64 (i:Int)∧Hid (i≤nd∧nd - i<gk∧CmpMap.Met wr (w.heap.size+1) i (names (b.decls.take i)).reverse∧Kp (fun k=>k=w.heap.size+1) W0 wr))
 case atStart=>exact⟨0,rfl,Lib.hid ⟨Nat.zero_le _,by omega,HM0.out,Kp.refl _ _⟩⟩
 case round=>
  obtain⟨i,rfl,HI⟩:=hrel
  have hbr:Below w.heap.size w wr:=HI.out.2.2.2.below2 HB0.out (fun k hk e=>by omega) HB0.out.size
  have HBR:=Lib.hid hbr
  by_cases hi:i<nd
  · have hib:decide (i<nd)=true:=decide_eq_true hi
    obtain⟨x,hx⟩:∃ t,b.decls[i]?=some t:=⟨b.decls[i]'(by rw[HND.out];exact hi),by simp⟩
    obtain⟨ad,rfl,e2,f2,k0,k1,k2,k3,k4⟩:=decl_cells (HB.out wr (Kp.of_below _ hbr)).d i x hx
    have hns:x.name.size≤maxLen:=Nat.le_trans (HS.out.decls x (List.mem_of_getElem? hx)) (by decide)
    have HX:=Lib.hid (names_step hx)
    have hi0:(0:Int)≤(i:Int):=by omega
    have hi1:(i:Int)<(nd:Int):=by omega
    have hnd2:nd≤1048576:=by have:=HS.out.many;unfold manyP at this;have:=HND.out;omega
    obtain⟨w3,hput,hmet3,hgr3⟩:=(HI.out.2.2.1.alloc (.cells #[.string x.name,.slice e2 x.cols.length f2,.bool x.input,.bool x.output,.int .i64 x.at_] 46)).put (by have:(1048576:Nat)<maxLen:=(by decide);omega) hns
    have HM3:=Lib.hid hmet3
    have HG3:=Lib.hid hgr3
    have HN2:=Lib.hid hnd2
    clear hx hmet3 hgr3 hns hbr hnd2
    go_wp2
    go_roundg (nd - i)
    all_goals first
     | (have:=HI.out.2.1;omega)
     | exact⟨i+1,by rw[wrap_up i (by have:=HN2.out;omega)],Lib.hid ⟨hi,by omega,by rw[HX.out];exact HM3.out,(HI.out.2.2.2.alloc _).then_grown HG3.out (fun k e _=>by injection e with e;exact e.symm)⟩⟩
  · have hib:decide (i<nd)=false:=decide_eq_false hi
    have hbx:Blk wr w.heap.size 28 #[.slice A1 b.types.length c1,.slice A2 nd c2,.slice A3 b.comps.length c3,.slice A4 ni c4,.slice A5 b.clauses.length c5]:=HI.out.2.2.2.blk HBX0.out (by omega)
    obtain⟨p0,p1,p2,p3,p4⟩:=five_cells hbx
    have lbx:=hbx.lt
    have hall:b.decls.take i=b.decls:=List.take_of_length_le (by have:=HND.out;omega)
    have hm1:=HI.out.2.2.1
    rw[hall] at hm1
    have hin:i=nd:=by have:=HI.out.1;omega
    rw[hin] at hm1
    have HM1:=Lib.hid hm1
    have HK1:=Lib.hid HI.out.2.2.2
    clear hbr hm1 HI hi hall hin hbx p0 p1 p2 p4
    go_wp2
    have HR0:Hid (initsS (wholeOf p.comps) (instS (wholeOf p.comps) K) pre way (b.inits.drop 0) ((inames (b.inits.take 0)).reverse++(names b.decls).reverse) o=some r):=Lib.hid HR.out
    have HKW0:Hid (Kp (fun k=>k=w.heap.size+1) W0 wr):=HK1
    have HM1':Hid (CmpMap.Met wr (w.heap.size+1) (nd+0) ((inames (b.inits.take 0)).reverse++(names b.decls).reverse)):=Lib.hid HM1.out
    clear HM1 HK1 HM0
    generalize wr=W1 at *
    go_loopg [31] (ni+1) (fun gk v31 wr=>∃ i:Nat,v31=.int .i64 (i:Int)∧∃ oo uD uL,Hid (IRel w0 w W0 wr (.slice P1 p.types.length d1) (.slice P2 p.decls.length d2) (.slice P3 p.comps.length d3) (.slice P4 p.inits.length d4) (.slice P5 p.clauses.length d5) p g n0 oT oD oL tl b pre way r K nd ni i gk oo uD uL))
    case atStart=>exact⟨0,rfl,o,oD,oL,Lib.hid ⟨⟨Nat.zero_le _,by omega⟩,HR0.out,HM1'.out,H.out.up HBR.out,HKW0.out.mono (fun _ _ q=>.inr q),fun k q=>.inl q⟩⟩
    case round=>
     obtain⟨j,rfl,oo,uD,uL,HJ⟩:=hrel
     have hkw:Kp (Ch g oD oL) w wr:=(Kp.of_below _ HB0.out).trans HJ.out.kp (fun k hk hs=>hs.elim id (fun e=>by omega))
     have HKW:=Lib.hid hkw
     have hbox:Blk wr w.heap.size 28 #[.slice A1 b.types.length c1,.slice A2 nd c2,.slice A3 b.comps.length c3,.slice A4 ni c4,.slice A5 b.clauses.length c5]:=HJ.out.kp.blk HBX0.out (fun q=>by
      rcases q with q|q
      · have:=(H.out.old _ q).2;omega
      · omega)
     have HBOX:=Lib.hid hbox
     have hni2:ni≤1048576:=by have:=HS.out.many;unfold manyP at this;have:=HNI.out;omega
     have hnd2:nd≤1048576:=by have:=HS.out.many;unfold manyP at this;have:=HND.out;omega
     by_cases hj:j<ni
     · have hib2:decide (j<ni)=true:=decide_eq_true hj
       obtain⟨x,hx⟩:∃ t,b.inits[j]?=some t:=⟨b.inits[j]'(by rw[HNI.out];exact hj),by simp⟩
       obtain⟨ad,rfl,k0,k1,k2⟩:=init_cells (HB.out wr hkw).i j x hx
       obtain⟨hxn,hxc⟩:=HS.out.inits x (List.mem_of_getElem? hx)
       have hns:x.name.size≤maxLen:=Nat.le_trans hxn (by decide)
       obtain⟨hi1,hi2⟩:=inits_at hx HJ.out.run
       have HI1:=Lib.hid hi1
       have HI2:=Lib.hid hi2
       have hlk:=fun o:Obj=>(HJ.out.met.alloc o).get hns
       have HX:=Lib.hid (inames_step hx)
       have HXN:=Lib.hid hxn
       have HXC:=Lib.hid hxc
       have hj0:(0:Int)≤(j:Int):=by omega
       have hj1:(j:Int)<(ni:Int):=by omega
       obtain⟨w3,hput,hmet3,hgr3⟩:=(HJ.out.met.alloc (.cells #[.string x.name,.string x.comp,.int .i64 x.at_] 48)).put (by have:(4194304:Nat)<maxLen:=(by decide);omega) hns
       have HM3:=Lib.hid hmet3
       have HG3:=Lib.hid hgr3
       have HN2:=Lib.hid hni2
       clear hx hi1 hi2 hmet3 hgr3 hns hxn hxc hkw hbox hni2 hnd2
       cases hh:hasS ((inames (b.inits.take j)).reverse++(names b.decls).reverse) x.name with
       | true=>
         rw[hh] at hlk
         have hr:=HI1.out hh
         subst hr
         have HFA:=Lib.hid (fun o:Obj=>fail_any (wr.alloc o) g _ _ _ _ _ _ _ _ _ _ _ _ _ 11 x.at_ (Fl.below HJ.out.fs.fl (below1 _ o)))
         clear hh hput
         go_wp2_with (first|(go_at_call 55;(with_reducible refine (HFA.out _).mono ?_);rintro e w7 ⟨rfl,hk,h10,h11⟩;have HK7:=Lib.hid hk;have H10:=Lib.hid h10;have H11:=Lib.hid h11;clear hk h10 h11))
         go_ret
         exact FailPost.all ⟨rfl,HK7.out,H10.out,H11.out⟩ (HKW.out.alloc _) (fun k _ q=>.inl q)
       | false=>
         rw[hh] at hlk
         obtain⟨z,q,hw,hz1,hz2,hz3⟩:=HI2.out hh
         have hmb:=met_lt HJ.out.met
         have HF3:Hid (FlS w0 w3 (.slice P1 p.types.length d1) (.slice P2 p.decls.length d2) (.slice P3 p.comps.length d3) (.slice P4 p.inits.length d4) (.slice P5 p.clauses.length d5) p g n0 oT uD uL tl oo):=Lib.hid ((HJ.out.fs.up (below1 _ _)).kpm (Kp.of_grown (S:=fun k=>k=w.heap.size+1) HG3.out (fun k e=>by injection e with e;exact e.symm)) (fun k e=>by subst e;exact met_map (HJ.out.met.alloc _)) (fun k e=>by have:=H.out.size;omega))
         have HX3:Hid (Blk w3 wr.heap.size 48 #[.string x.name,.string x.comp,.int .i64 x.at_]):=Lib.hid ((Blk.new wr _ _).grown HG3.out (fun e=>by injection e with e;omega))
         have HKW3:Hid (Kp (Ch g oD oL) w w3):=Lib.hid ((HKW.out.alloc _).then_grown HG3.out (fun k e hk=>by injection e with e;omega))
         have HWH:=Lib.hid (fun W (hb:Below w3.heap.size w3 W)=>whole_any w0 W (.slice P1 p.types.length d1) (.slice P2 p.decls.length d2) (.slice P3 p.comps.length d3) (.slice P4 p.inits.length d4) (.slice P5 p.clauses.length d5) p HP.out HF3.out.pv (HF3.out.bs.trans (hb.mono HF3.out.bs.size)) x.comp HXC.out z q hw)
         have HZ1:=Lib.hid hz1
         have HZ2:=Lib.hid hz2
         have HZ3:=Lib.hid hz3
         have HWQ:=Lib.hid hw
         have x3:=HX3.out.cell 1
         have x32:=HX3.out.cell 2
         have x30:=HX3.out.cell 0
         have lx3:=HX3.out.lt
         obtain⟨f0,f1,f2,f3,f4⟩:=fl_cells HF3.out.fl
         have lg3:=Blk.lt HF3.out.fl
         simp only[List.getElem?_toArray,List.getElem?_cons_zero,List.getElem?_cons_succ] at x3 x32 x30
         clear hw hz1 hz2 hz3 hh hmb
         have hrl:=(fun W (hb:Below w3.heap.size w3 W)=>(⟨(hb.cell (p:=⟨g,0,none⟩) lg3).trans f0,(hb.cell (p:=⟨g,1,none⟩) lg3).trans f1,(hb.cell (p:=⟨g,2,none⟩) lg3).trans f2,(hb.cell (p:=⟨g,3,none⟩) lg3).trans f3,(hb.cell (p:=⟨g,4,none⟩) lg3).trans f4,(hb.cell (p:=⟨wr.heap.size,1,none⟩) lx3).trans x3⟩:W.cell? ⟨g,0,none⟩=some (.slice P1 p.types.length d1)∧W.cell? ⟨g,1,none⟩=some (.slice P2 p.decls.length d2)∧W.cell? ⟨g,2,none⟩=some (.slice P3 p.comps.length d3)∧W.cell? ⟨g,3,none⟩=some (.slice P4 p.inits.length d4)∧W.cell? ⟨g,4,none⟩=some (.slice P5 p.clauses.length d5)∧W.cell? ⟨wr.heap.size,1,none⟩=some (.string x.comp)))
         go_wp2
         go_region_held3 (fun W=>Below w3.heap.size w3 W) (first|assumption|(with_reducible exact hS11 _ _ _ _ _)|(repeat (with_reducible first|assumption|exact Below.refl _ _|refine Below.drew ?_|refine below_alloc ?_ _)))
             (first
             | (go_at_call 11;(with_reducible refine (HWH.out _ (Below.refl _ _).drew).mono ?_);rintro e w5 ⟨yT,yD,yC,yI,yL,rfl,hF5,hb5⟩;obtain⟨g1,e1,g2,e2,g3,e3,g4,e4,g5,e5,rfl,rfl,rfl,rfl,rfl⟩:=hF5.view.values;have hB5:Below w3.heap.size w3 w5:=(Below.refl _ w3).drew.trans hb5;have HF5:=Lib.hid hF5;have HB5:=Lib.hid hB5;clear hF5 hb5)
             | (go_at_call 11;(with_reducible refine (HWH.out _ (below1 _ _).drew).mono ?_);rintro e w5 ⟨yT,yD,yC,yI,yL,rfl,hF5,hb5⟩;obtain⟨g1,e1,g2,e2,g3,e3,g4,e4,g5,e5,rfl,rfl,rfl,rfl,rfl⟩:=hF5.view.values;have hB5:Below w3.heap.size w3 w5:=below_in (below1 w3 _).drew hb5;have hbx5:=Blk.below (Blk.drew (Blk.new w3 _ _)) hb5 (Blk.drew (Blk.new w3 _ _)).lt;have qb5:=five_cells hbx5;have qf5:=five_frozen hbx5;have lb5:=hbx5.lt;have hS11:∀ a b c d e:Value,Below w3.heap.size w3 (five w5 w3.heap.size a b c d e):=(fun _ _ _ _ _=>CmpWhole.five_below hB5 (Nat.le_refl _));have HBX5:=Lib.hid hbx5;have HF5:=Lib.hid hF5;have HB5:=Lib.hid hB5;clear hF5 hb5 hbx5))
         have HALL:Hid (w3.heap.size≤w5.heap.size∧Blk (w5.alloc (.cells #[.slice g1 q.types.length e1,.slice g2 q.decls.length e2,.slice g3 q.comps.length e3,.slice g4 q.inits.length e4,.slice g5 q.clauses.length e5] 28)) w5.heap.size 28 #[.slice g1 q.types.length e1,.slice g2 q.decls.length e2,.slice g3 q.comps.length e3,.slice g4 q.inits.length e4,.slice g5 q.clauses.length e5]∧Below w3.heap.size w3 (w5.alloc (.cells #[.slice g1 q.types.length e1,.slice g2 q.decls.length e2,.slice g3 q.comps.length e3,.slice g4 q.inits.length e4,.slice g5 q.clauses.length e5] 28))∧FRows w0 (w5.alloc (.cells #[.slice g1 q.types.length e1,.slice g2 q.decls.length e2,.slice g3 q.comps.length e3,.slice g4 q.inits.length e4,.slice g5 q.clauses.length e5] 28)) w3.heap.size (.slice g1 q.types.length e1) (.slice g2 q.decls.length e2) (.slice g3 q.comps.length e3) (.slice g4 q.inits.length e4) (.slice g5 q.clauses.length e5) q):=Lib.hid ⟨HB5.out.size,Blk.new _ _ _,HB5.out.alloc HB5.out.size _,HF5.out.kp ((Kp.refl (fun _=>False) _).alloc _) (fun _ _ _ h=>h)⟩
         clear HF5 HB5 hB5
         repeat (rename Below w3.heap.size w3 _=>hHeld;clear hHeld)
         generalize (w5.alloc (.cells #[.slice g1 q.types.length e1,.slice g2 q.decls.length e2,.slice g3 q.comps.length e3,.slice g4 q.inits.length e4,.slice g5 q.clauses.length e5] 28))=W6 at *
         generalize w5.heap.size=X at *
         clear w5
         revert HALL
         revert W6
         revert X
         revert g1 e1 g2 e2 g3 e3 g4 e4 g5 e5
         refine ?rest13
         rotate_left
         obtain⟨X,hX⟩:∃ X,w3.heap.size=X:=⟨_,rfl⟩
         have HALL:Hid (w3.heap.size≤X∧Blk (((((w5.setCell ⟨X,0,none⟩ (.slice g1 q.types.length e1)).setCell ⟨X,1,none⟩ (.slice g2 q.decls.length e2)).setCell ⟨X,2,none⟩ (.slice g3 q.comps.length e3)).setCell ⟨X,3,none⟩ (.slice g4 q.inits.length e4)).setCell ⟨X,4,none⟩ (.slice g5 q.clauses.length e5)) X 28 #[.slice g1 q.types.length e1,.slice g2 q.decls.length e2,.slice g3 q.comps.length e3,.slice g4 q.inits.length e4,.slice g5 q.clauses.length e5]∧Below w3.heap.size w3 (((((w5.setCell ⟨X,0,none⟩ (.slice g1 q.types.length e1)).setCell ⟨X,1,none⟩ (.slice g2 q.decls.length e2)).setCell ⟨X,2,none⟩ (.slice g3 q.comps.length e3)).setCell ⟨X,3,none⟩ (.slice g4 q.inits.length e4)).setCell ⟨X,4,none⟩ (.slice g5 q.clauses.length e5))∧FRows w0 (((((w5.setCell ⟨X,0,none⟩ (.slice g1 q.types.length e1)).setCell ⟨X,1,none⟩ (.slice g2 q.decls.length e2)).setCell ⟨X,2,none⟩ (.slice g3 q.comps.length e3)).setCell ⟨X,3,none⟩ (.slice g4 q.inits.length e4)).setCell ⟨X,4,none⟩ (.slice g5 q.clauses.length e5)) w3.heap.size (.slice g1 q.types.length e1) (.slice g2 q.decls.length e2) (.slice g3 q.comps.length e3) (.slice g4 q.inits.length e4) (.slice g5 q.clauses.length e5) q):=Lib.hid ⟨Nat.le_of_eq hX,by rw[← hX];exact five_blk HBX5.out,CmpWhole.five_below HB5.out (Nat.le_of_eq hX),(HF5.out.kp (CmpWhole.kp_five (Kp.refl (fun k=>k=X) _) (fun _=>rfl)) (fun k hk _ h=>by have hz:(w3.alloc (.cells #[.slice none 0 0,.slice none 0 0,.slice none 0 0,.slice none 0 0,.slice none 0 0] 28)).heap.size≤k:=hk;rw[size1] at hz;omega)).lower (below1 w3 _).size⟩
         clear HF5 HB5 hB5 HBX5 qb5 qf5 lb5 hS11
         repeat (rename Below w3.heap.size w3 _=>hHeld;clear hHeld)
         rw[hX]
         clear hX
         generalize (((((w5.setCell ⟨X,0,none⟩ (.slice g1 q.types.length e1)).setCell ⟨X,1,none⟩ (.slice g2 q.decls.length e2)).setCell ⟨X,2,none⟩ (.slice g3 q.comps.length e3)).setCell ⟨X,3,none⟩ (.slice g4 q.inits.length e4)).setCell ⟨X,4,none⟩ (.slice g5 q.clauses.length e5))=W6 at *
         clear w5
         revert HALL
         revert W6
         revert X
         revert g1 e1 g2 e2 g3 e3 g4 e4 g5 e5
         refine ?rest13
         intro g1 e1 g2 e2 g3 e3 g4 e4 g5 e5 X W6 HALL
         have HF6:Hid (FlS w0 W6 (.slice P1 p.types.length d1) (.slice P2 p.decls.length d2) (.slice P3 p.comps.length d3) (.slice P4 p.inits.length d4) (.slice P5 p.clauses.length d5) p g n0 oT uD uL tl oo):=Lib.hid (HF3.out.up HALL.out.2.2.1)
         have hx6:=HX3.out.below HALL.out.2.2.1 HX3.out.lt
         have HX6:=Lib.hid hx6
         have y0:=hx6.cell 0
         have y1:=hx6.cell 1
         have y2:=hx6.cell 2
         have ly:=hx6.lt
         simp only[List.getElem?_toArray,List.getElem?_cons_zero,List.getElem?_cons_succ] at y0 y1 y2
         have HKW6:Hid (Kp (Ch g oD oL) w W6):=Lib.hid (HKW3.out.then_below HALL.out.2.2.1)
         have HCT:=Lib.hid (contains_any W6 AW cW way x.comp (HW.out.1 W6 HKW6.out) (fun ad h=>HW.out.2 _ _ _ ad rfl h) (by have:=HK.out;omega))
         clear hx6 f0 f1 f2 f3 f4 x3 x32 x30 lx3 lg3 hrl hput hlk k0 k1 k2
         by_cases hz:z=0
         rotate_left
         · have hr:=HZ1.out hz
           subst hr
           have hzz:(z != 0)=true:=by simpa using hz
           have HFA:=Lib.hid (fun W (hb:Below W6.heap.size W6 W)=>fail_any W g _ _ _ _ _ _ _ _ _ _ _ _ _ z x.at_ (Fl.below HF6.out.fl hb))
           clear hz
           go_wp2_with (first|(go_at_call 55;(with_reducible refine (HFA.out _ (Below.refl _ _)).mono ?_);rintro e w7 ⟨rfl,hk,h10,h11⟩;have HK7:=Lib.hid hk;have H10:=Lib.hid h10;have H11:=Lib.hid h11;clear hk h10 h11))
           go_ret
           exact FailPost.all ⟨rfl,HK7.out,H10.out,H11.out⟩ HKW6.out (fun k _ q=>.inl q)
         · subst hz
           have HFA:=Lib.hid (fun W (hb:Below W6.heap.size W6 W)=>fail_any W g _ _ _ _ _ _ _ _ _ _ _ _ _ 12 x.at_ (Fl.below HF6.out.fl hb))
           cases hc:hasS way x.comp with
           | true=>
             have hr:=HZ2.out (by simp) hc
             subst hr
             rw[hc] at HCT
             clear hc
             go_wp2_with (first
              | (go_at_call 56;(with_reducible refine (HCT.out).mono ?_);rintro e w7 ⟨rfl,rfl⟩)
              | (go_at_call 55;(with_reducible refine (HFA.out _ (Below.refl _ _)).mono ?_);rintro e w7 ⟨rfl,hk,h10,h11⟩;have HK7:=Lib.hid hk;have H10:=Lib.hid h10;have H11:=Lib.hid h11;clear hk h10 h11))
             go_ret
             exact FailPost.all ⟨rfl,HK7.out,H10.out,H11.out⟩ HKW6.out (fun k _ q=>.inl q)
           | false=>
             obtain⟨t,ht,hte,hto⟩:=HZ3.out (by simp) hc
             rw[hc] at HCT
             have HT:=Lib.hid ht
             have HTE:=Lib.hid hte
             have HTO:=Lib.hid hto
             clear hc ht hte hto
             go_wp2_with (first
              | (go_at_call 56;(with_reducible refine (HCT.out).mono ?_);rintro e w7 ⟨rfl,rfl⟩))
             have hxX:¬Ch g uD uL X:=fun h=>by have:=(HF3.out.old _ h).2;have:=HALL.out.1;omega
             have hxB:¬Ch g uD uL wr.heap.size:=fun h=>by have:=(HJ.out.fs.old _ h).2;omega
             have hbX:=HALL.out.2.1.lt
             obtain⟨b0,b1,b2,b3,b4⟩:=five_cells HALL.out.2.1
             have hrl:=(fun W (hk:Kp (Ch g uD uL) w7 W)=>(⟨(kp_cell hk hbX hxX).trans b0,(kp_cell hk hbX hxX).trans b1,(kp_cell hk hbX hxX).trans b2,(kp_cell hk hbX hxX).trans b3,(kp_cell hk hbX hxX).trans b4,(kp_cell hk ly hxB).trans y0,(kp_cell hk ly hxB).trans y1,(kp_cell hk ly hxB).trans y2⟩:W.cell? ⟨X,0,none⟩=some (.slice g1 q.types.length e1)∧W.cell? ⟨X,1,none⟩=some (.slice g2 q.decls.length e2)∧W.cell? ⟨X,2,none⟩=some (.slice g3 q.comps.length e3)∧W.cell? ⟨X,3,none⟩=some (.slice g4 q.inits.length e4)∧W.cell? ⟨X,4,none⟩=some (.slice g5 q.clauses.length e5)∧W.cell? ⟨wr.heap.size,0,none⟩=some (.string x.name)∧W.cell? ⟨wr.heap.size,1,none⟩=some (.string x.comp)∧W.cell? ⟨wr.heap.size,2,none⟩=some (.int .i64 x.at_)))
             have hchw:∀ k,k<w.heap.size→Ch g uD uL k→Ch g oD oL k:=fun k hl hk=>(HJ.out.new k hk).elim id (fun h=>by omega)
             have HCHW:=Lib.hid hchw
             have hwl:way.length≤2097152:=by have:=HK.out;omega
             have HCLN:=Lib.hid (fun V (hS:Kp (Ch g uD uL) w7 V)=>CmpClone.texts_any V (.slice AW way.length cW) way (HW.out.1 V (HKW6.out.trans hS hchw)) hwl)
             have HWL:=Lib.hid hwl
             have hpz:pre.size+x.name.size+1≤9223372036854775807:=by have:=HPRE.out;have:=HXN.out;omega
             have hmx1:¬9223372036854775807<pre.size+x.name.size:=by omega
             have hmx2:¬9223372036854775807<pre.size+x.name.size+1:=by omega
             have HOKQ:=Lib.hid (wholeOf_small HP.out HWQ.out)
             have HIN:=Lib.hid (fun wd vd (hbd:Below w7.heap.size w7 wd) hr=>ins_ready (q1:=.slice g1 q.types.length e1) (q2:=.slice g2 q.decls.length e2) (q3:=.slice g3 q.comps.length e3) (q4:=.slice g4 q.inits.length e4) (q5:=.slice g5 q.clauses.length e5) (vd:=vd) HIH.out HF6.out hbd HALL.out.2.2.2 (fun k hk=>(HF3.out.old k hk).2) HOKQ.out.1 hr HPRE.out HXN.out HXC.out HWAY.out HK.out HT.out)
             clear hpz hwl hchw b0 b1 b2 b3 b4
             cases t with
             | error z=>
               have hr:=HTE.out z rfl
               subst hr
               go_wp2
               go_region_held3 (fun W=>Kp (Ch g uD uL) w7 W) (first|assumption|(repeat (with_reducible first|assumption|exact Kp.refl _ _|refine Kp.drew ?_|refine Kp.alloc ?_ _)))
                (first
                | (go_at_call 58;(with_reducible refine (HCLN.out _ (Kp.refl _ _).drew).mono ?_);rintro e wc ⟨vc,rfl,hrc,hbc⟩;obtain⟨ac,dc,ec⟩:=Kd.R_slice hrc;subst ec;have hSc:Kp (Ch g uD uL) w7 wc:=(Kp.refl _ _).drew.then_below hbc;have hbc2:Below w7.heap.size w7 wc:=(Below.refl _ w7).drew.trans hbc;have HBC:=Lib.hid hbc2;have HRC:Hid (Kd.string.R 9 wc w7.heap.size (fun b=>w7.heap.size≤b) (.slice ac way.length dc) way):=Lib.hid hrc;clear hrc hbc hbc2)
                | (go_at_call 58;(with_reducible refine (HCLN.out _ ((Kp.refl _ _).alloc _).drew).mono ?_);rintro e wc ⟨vc,rfl,hrc,hbc⟩;obtain⟨ac,dc,ec⟩:=Kd.R_slice hrc;subst ec;have hSc:Kp (Ch g uD uL) w7 wc:=((Kp.refl _ _).alloc _).drew.then_below hbc;have hbc2:Below w7.heap.size w7 wc:=below_in (below1 w7 _).drew hbc;have HSL:=Lib.hid (Blk.below (Blk.drew (Blk.new w7 _ _)) hbc (Blk.drew (Blk.new w7 _ _)).lt);have HBC:=Lib.hid hbc2;have HRC:Hid (Kd.string.R 9 wc w7.heap.size (fun b=>w7.heap.size≤b) (.slice ac way.length dc) way):=Lib.hid (Kd.R_mono (Kd.R_lower hrc (below1 w7 _).size) (fun k hk=>Nat.le_trans (below1 w7 _).size hk));clear hrc hbc hbc2)
                | (refine Kd.R_append_rows_step Kd.string (Rr:=fun y cs=>cs=[Value.string y]) w7.heap.size (by rfl) (.tmp 83) (.tmp 86) 40 9 (.string ⟨#[]⟩) 16 rfl Try.underlying40 infoStr rfl (by decide) (by decide) (.slice ac way.length dc) way [x.comp] (some ⟨wc.heap.size,0,none⟩) 1 1 (fun b=>w7.heap.size≤b) (fun _=>False) ?a1 ?a2 (Kd.R_below HRC.out (below1 _ _)) (one_row (Blk.new _ _ _)) (fun _ _ h=>h) (fun _ h=>h.elim) (fun k hk=>Nat.le_trans (Nat.le_trans HBC.out.size (below1 wc _).size) hk) (Below.refl _ _) (Nat.le_trans HBC.out.size (below1 wc _).size) ?aL ?_
                   (try (case a1=>rfl))
                   (try (case a2=>rfl))
                   (case aL=>have:=HWL.out;omega)
                   intro vd wd hrd hbl hgd hatd
                   have hbd:Below w7.heap.size w7 wd:=(HBC.out.alloc HBC.out.size _).grown hgd (Nat.le_trans HBC.out.size (below1 wc _).size) (fun k e=>Kd.R_base HRC.out k e)
                   have HI8:=Lib.hid (HIN.out wd vd hbd hrd)
                   have hSd:Kp (Ch g uD uL) w7 wd:=Kp.of_below _ hbd
                   have HBD:=Lib.hid hbd
                   clear hrd hbl hgd hatd hbd)
                | (refine Kd.R_append_rows_step Kd.string (Rr:=fun y cs=>cs=[Value.string y]) w7.heap.size (by rfl) (.tmp 83) (.tmp 86) 40 9 (.string ⟨#[]⟩) 16 rfl Try.underlying40 infoStr rfl (by decide) (by decide) (.slice ac way.length dc) way [x.comp] (some ⟨w7.heap.size,0,none⟩) 1 1 (fun b=>w7.heap.size≤b) (fun _=>False) ?a1 ?a2 HRC.out (one_row HSL.out) (fun _ _ h=>h) (fun _ h=>h.elim) (fun k hk=>Nat.le_trans HBC.out.size hk) (Below.refl _ _) HBC.out.size ?aL ?_
                   (try (case a1=>rfl))
                   (try (case a2=>rfl))
                   (case aL=>have:=HWL.out;omega)
                   intro vd wd hrd hbl hgd hatd
                   have hbd:Below w7.heap.size w7 wd:=HBC.out.grown hgd HBC.out.size (fun k e=>Kd.R_base HRC.out k e)
                   have HI8:=Lib.hid (HIN.out wd vd hbd hrd)
                   have hSd:Kp (Ch g uD uL) w7 wd:=Kp.of_below _ hbd
                   have HBD:=Lib.hid hbd
                   clear hrd hbl hgd hatd hbd)
                | (go_at_call 57;(with_reducible refine (HI8.out).mono ?_);rintro e w8 ⟨rfl,hk,h10,h11⟩;have hS8:Kp (Ch g uD uL) w7 w8:=hSd.trans hk (fun _ _ q=>q);have HK8:=Lib.hid hS8;have H10:=Lib.hid h10;have H11:=Lib.hid h11;clear hk h10 h11))
               all_goals go_wp2
               all_goals go_ret
               all_goals exact FailPost.all ⟨rfl,Kp.refl (fun _=>False) _,H10.out,H11.out⟩ (HKW6.out.trans HK8.out HCHW.out) (fun _ _ q=>q.elim)
             | ok o2=>
               go_wp2
               go_region_held3 (fun W=>Kp (Ch g uD uL) w7 W) (first|assumption|(repeat (with_reducible first|assumption|exact Kp.refl _ _|refine Kp.drew ?_|refine Kp.alloc ?_ _)))
                (first
                | (go_at_call 58;(with_reducible refine (HCLN.out _ (Kp.refl _ _).drew).mono ?_);rintro e wc ⟨vc,rfl,hrc,hbc⟩;obtain⟨ac,dc,ec⟩:=Kd.R_slice hrc;subst ec;have hSc:Kp (Ch g uD uL) w7 wc:=(Kp.refl _ _).drew.then_below hbc;have hbc2:Below w7.heap.size w7 wc:=(Below.refl _ w7).drew.trans hbc;have HBC:=Lib.hid hbc2;have HRC:Hid (Kd.string.R 9 wc w7.heap.size (fun b=>w7.heap.size≤b) (.slice ac way.length dc) way):=Lib.hid hrc;clear hrc hbc hbc2)
                | (go_at_call 58;(with_reducible refine (HCLN.out _ ((Kp.refl _ _).alloc _).drew).mono ?_);rintro e wc ⟨vc,rfl,hrc,hbc⟩;obtain⟨ac,dc,ec⟩:=Kd.R_slice hrc;subst ec;have hSc:Kp (Ch g uD uL) w7 wc:=((Kp.refl _ _).alloc _).drew.then_below hbc;have hbc2:Below w7.heap.size w7 wc:=below_in (below1 w7 _).drew hbc;have HSL:=Lib.hid (Blk.below (Blk.drew (Blk.new w7 _ _)) hbc (Blk.drew (Blk.new w7 _ _)).lt);have HBC:=Lib.hid hbc2;have HRC:Hid (Kd.string.R 9 wc w7.heap.size (fun b=>w7.heap.size≤b) (.slice ac way.length dc) way):=Lib.hid (Kd.R_mono (Kd.R_lower hrc (below1 w7 _).size) (fun k hk=>Nat.le_trans (below1 w7 _).size hk));clear hrc hbc hbc2)
                | (refine Kd.R_append_rows_step Kd.string (Rr:=fun y cs=>cs=[Value.string y]) w7.heap.size (by rfl) (.tmp 83) (.tmp 86) 40 9 (.string ⟨#[]⟩) 16 rfl Try.underlying40 infoStr rfl (by decide) (by decide) (.slice ac way.length dc) way [x.comp] (some ⟨wc.heap.size,0,none⟩) 1 1 (fun b=>w7.heap.size≤b) (fun _=>False) ?a1 ?a2 (Kd.R_below HRC.out (below1 _ _)) (one_row (Blk.new _ _ _)) (fun _ _ h=>h) (fun _ h=>h.elim) (fun k hk=>Nat.le_trans (Nat.le_trans HBC.out.size (below1 wc _).size) hk) (Below.refl _ _) (Nat.le_trans HBC.out.size (below1 wc _).size) ?aL ?_
                   (try (case a1=>rfl))
                   (try (case a2=>rfl))
                   (case aL=>have:=HWL.out;omega)
                   intro vd wd hrd hbl hgd hatd
                   have hbd:Below w7.heap.size w7 wd:=(HBC.out.alloc HBC.out.size _).grown hgd (Nat.le_trans HBC.out.size (below1 wc _).size) (fun k e=>Kd.R_base HRC.out k e)
                   have HI8:=Lib.hid (HIN.out wd vd hbd hrd)
                   have hSd:Kp (Ch g uD uL) w7 wd:=Kp.of_below _ hbd
                   have HBD:=Lib.hid hbd
                   clear hrd hbl hgd hatd hbd)
                | (refine Kd.R_append_rows_step Kd.string (Rr:=fun y cs=>cs=[Value.string y]) w7.heap.size (by rfl) (.tmp 83) (.tmp 86) 40 9 (.string ⟨#[]⟩) 16 rfl Try.underlying40 infoStr rfl (by decide) (by decide) (.slice ac way.length dc) way [x.comp] (some ⟨w7.heap.size,0,none⟩) 1 1 (fun b=>w7.heap.size≤b) (fun _=>False) ?a1 ?a2 HRC.out (one_row HSL.out) (fun _ _ h=>h) (fun _ h=>h.elim) (fun k hk=>Nat.le_trans HBC.out.size hk) (Below.refl _ _) HBC.out.size ?aL ?_
                   (try (case a1=>rfl))
                   (try (case a2=>rfl))
                   (case aL=>have:=HWL.out;omega)
                   intro vd wd hrd hbl hgd hatd
                   have hbd:Below w7.heap.size w7 wd:=HBC.out.grown hgd HBC.out.size (fun k e=>Kd.R_base HRC.out k e)
                   have HI8:=Lib.hid (HIN.out wd vd hbd hrd)
                   have hSd:Kp (Ch g uD uL) w7 wd:=Kp.of_below _ hbd
                   have HBD:=Lib.hid hbd
                   clear hrd hbl hgd hatd hbd)
                | (go_at_call 57;(with_reducible refine (HI8.out).mono ?_);rintro e w8 ⟨rfl,vD8,vL8,hf8,hk,hn8⟩;have hS8:Kp (Ch g uD uL) w7 w8:=hSd.trans hk (fun _ _ q=>q);have HK8:=Lib.hid hS8;have HF8:=Lib.hid hf8;have HN8:Hid (∀ k,Ch g vD8 vL8 k→Ch g uD uL k∨w7.heap.size≤k):=Lib.hid (fun k h=>(hn8 k h).imp id (fun h=>Nat.le_trans HBD.out.size h));clear hk hf8 hn8))
               all_goals go_wp2
               all_goals (
                have hsz:w.heap.size+2≤w7.heap.size:=by
                 have h1:=HJ.out.kp.size
                 have h2:=(below1 wr (.cells #[.string x.name,.string x.comp,.int .i64 x.at_] 48)).size
                 have h3:=HG3.out.size
                 have h4:=HALL.out.2.2.1.size
                 have h5:=HS0.out
                 omega
                have hnew:∀ k,Ch g uD uL k→Ch g oD oL k∨w.heap.size+2≤k:=HJ.out.new
                have hmbn:¬Ch g uD uL (w.heap.size+1):=fun h=>(hnew _ h).elim (fun h=>by have:=(H.out.old _ h).2;omega) (fun h=>by omega)
                have hmet:CmpMap.Met w8 (w.heap.size+1) (nd+(j+1)) ((inames (b.inits.take (j+1))).reverse++(names b.decls).reverse):=by
                 rw[HX.out]
                 exact HK8.out.met ((Kp.of_below (fun _=>False) HALL.out.2.2.1).met HM3.out (fun q=>q)) hmbn
                have hkp:Kp (fun k=>Ch g oD oL k∨k=w.heap.size+1) W0 w8:=
                 (((HJ.out.kp.alloc _).then_grown HG3.out (fun k e _=>by injection e with e;exact .inr e.symm)).then_below HALL.out.2.2.1).trans HK8.out (fun k hk h=>(hnew k h).elim (fun q=>.inl q) (fun q=>by have:=HS0.out;omega))
                have hrun:initsS (wholeOf p.comps) (instS (wholeOf p.comps) K) pre way (b.inits.drop (j+1)) ((inames (b.inits.take (j+1))).reverse++(names b.decls).reverse) o2=some r:=by
                 rw[HX.out]
                 exact HTO.out o2 rfl
                have HNX:=Lib.hid (⟨hmet,hkp,hrun,fun k h=>(HN8.out k h).elim (fun q=>hnew k q) (fun q=>.inr (by omega))⟩:_∧_∧_∧∀ k,Ch g vD8 vL8 k→Ch g oD oL k∨w.heap.size+2≤k)
                clear hsz hnew hmbn hmet hkp hrun
                go_roundg (ni - j))
               all_goals first
                | (have:=HJ.out.le.2;omega)
                | exact⟨j+1,by rw[wrap_up j (by have:=HN2.out;omega)],o2,vD8,vL8,Lib.hid ⟨⟨hj,by omega⟩,HNX.out.2.2.1,HNX.out.1,HF8.out,HNX.out.2.1,HNX.out.2.2.2⟩⟩
     · have hib2:decide (j<ni)=false:=decide_eq_false hj
       have hr:r=.ok oo:=by
        have:=HJ.out.run
        rw[List.drop_eq_nil_of_le (by have:=HNI.out;omega)] at this
        injection this with this
        exact this.symm
       subst hr
       go_wp2
       go_ret
       exact⟨rfl,uD,uL,HJ.out.fs,HKW.out,fun k hk=>(HJ.out.new k hk).imp id (fun h=>by omega)⟩
end Go.Proofs.Ytddmceldglelkaa.CmpInits
namespace Go.Proofs.Ytddmceldglelkaa.CmpInsMem
open Go Go.RowKit CmpContains CmpInits RefPure RefKinds RefMem RefSameP CmpPure CmpMem CmpKinds CmpFind CmpName CmpCopied CmpClone CmpClause CmpRule CmpWholeOf CmpInst RefExpr RefCells YtddmceldglelkaaW.PrintWords
section
variable {w0 w w1:World} {vT vD vC vI vL:Value} {p:ProgT} {g n0:Nat} {oT oD oL v1:Value} {tl:List TDecl} {o:Out}
theorem FlS.made (h:FlS w0 w vT vD vC vI vL p g n0 oT oD oL tl o) {n1:Nat} (hn:n1≤96):FlS w0 (w.setCell ⟨g,12,none⟩ (.int .i64 (n1:Int))) vT vD vC vI vL p g n0 oT oD oL tl ⟨n1,o.decls,o.clauses⟩:=by
 have hk:Kp (fun k=>k=g) w (w.setCell ⟨g,12,none⟩ (.int .i64 (n1:Int))):=(Kp.refl (fun k=>k=g) w).set (fun _=>rfl) _ _
 exact⟨h.bs.trans (hk.below (fun k hl hs=>by have:=h.lo.2.2;omega) h.size),h.pv,Blk.set_ h.fl 12 _,hk.R h.t (fun k hk _ e=>hk.2 e),hk.R h.d (fun k hk _ e=>hk.2 e),hk.R h.l (fun k hk _ e=>hk.2 e),⟨h.lo.1,Nat.le_trans h.lo.2.1 hk.size,h.lo.2.2⟩,⟨h.len.1,h.len.2.1,hn⟩⟩
theorem off_next2 {α:Type} {d:Kd α} {e n0:Nat} {W w1:World} {os os':List Value} {v v1 vl:Value} {l:List α} {g:Nat} (h:d.R e W n0 (fun b=>Off n0 os b∧b≠g) vl l) (hv:v∈os) (hgr:W.grownBy w1 v.ownBlock)
    (hat:v1.ownBlock=v.ownBlock∨∃ b,v1.ownBlock=some b∧W.heap.size≤b) (hos:∀ o∈os',o∈os∨o=v1):d.R e w1 n0 (fun b=>Off n0 os' b∧b≠g) vl l:=by
 have h1:=Kd.R_mono (ok':=fun b=>(Off n0 os b∧b≠g)∧b<W.heap.size) (Kd.R_bound h) (fun b hb=>⟨hb.1,hb.2.2.1⟩)
 have h2:=Kd.R_grown h1 hgr (fun b hb e=>hb.1.1.2 v hv e.symm)
 refine Kd.R_mono h2 (fun b hb=>⟨⟨hb.1.1.1,fun o ho=>?_⟩,hb.1.2⟩)
 rcases hos o ho with q|q
 · exact hb.1.1.2 o q
 · subst q
   rcases hat with q|⟨c,q,hc⟩
   · rw[q];exact hb.1.1.2 v hv
   · rw[q]
     intro e2
     injection e2 with e2
     have:=hb.2
     omega
theorem FlS.pushD (h:FlS w0 w vT vD vC vI vL p g n0 oT oD oL tl o) {ds:List DeclT} (h1:(Kd.fixed kDecl w0).R 46 w1 n0 (fun b=>Off n0 [oT,oL] b∧b≠g) v1 (o.decls++ds)) (hg:w.grownBy w1 oD.ownBlock) (ha:v1.ownBlock=oD.ownBlock∨∃ b,v1.ownBlock=some b∧w.heap.size≤b) (hl:(o.decls++ds).length≤1048576) :
    FlS w0 (w1.setCell ⟨g,6,none⟩ v1) vT vD vC vI vL p g n0 oT v1 oL tl ⟨o.made,o.decls++ds,o.clauses⟩:=by
 have hk:Kp (fun k=>k=g) w1 (w1.setCell ⟨g,6,none⟩ v1):=(Kp.refl (fun k=>k=g) w1).set (fun _=>rfl) _ _
 have hgd:some g≠oD.ownBlock:=fun e=>(h.d.1 g e.symm).2 rfl
 have hbs:Below w0.heap.size w0 w1:=h.bs.grown hg h.size (fun k e=>Nat.le_trans h.lo.1 (Kd.R_base h.d k e))
 exact⟨hbs.trans (hk.below (fun k hl hs=>by have:=h.lo.2.2;omega) (Nat.le_trans h.size hg.size)),h.pv,(Blk.grown h.fl hg hgd).set_ 6 v1,hk.R (off_next2 h.t (v:=oD) (by simp) hg ha (by simp)) (fun k hk _ e=>hk.2 e),hk.R h1 (fun k hk _ e=>hk.2 e),hk.R (off_next2 h.l (v:=oD) (by simp) hg ha (by simp)) (fun k hk _ e=>hk.2 e),
  ⟨h.lo.1,Nat.le_trans h.lo.2.1 (Nat.le_trans hg.size hk.size),h.lo.2.2⟩,⟨hl,h.len.2⟩⟩
theorem FlS.pushL (h:FlS w0 w vT vD vC vI vL p g n0 oT oD oL tl o) {ls:List ClauseT} (h1:(mL w0).R 54 w1 n0 (fun b=>Off n0 [oT,oD] b∧b≠g) v1 (o.clauses++ls)) (hg:w.grownBy w1 oL.ownBlock) (ha:v1.ownBlock=oL.ownBlock∨∃ b,v1.ownBlock=some b∧w.heap.size≤b) (hl:(o.clauses++ls).length≤1048576) :
    FlS w0 (w1.setCell ⟨g,9,none⟩ v1) vT vD vC vI vL p g n0 oT oD v1 tl ⟨o.made,o.decls,o.clauses++ls⟩:=by
 have hk:Kp (fun k=>k=g) w1 (w1.setCell ⟨g,9,none⟩ v1):=(Kp.refl (fun k=>k=g) w1).set (fun _=>rfl) _ _
 have hgd:some g≠oL.ownBlock:=fun e=>(h.l.1 g e.symm).2 rfl
 have hbs:Below w0.heap.size w0 w1:=h.bs.grown hg h.size (fun k e=>Nat.le_trans h.lo.1 (Kd.R_base h.l k e))
 exact⟨hbs.trans (hk.below (fun k hl hs=>by have:=h.lo.2.2;omega) (Nat.le_trans h.size hg.size)),h.pv,(Blk.grown h.fl hg hgd).set_ 9 v1,hk.R (off_next2 h.t (v:=oL) (by simp) hg ha (by simp)) (fun k hk _ e=>hk.2 e),hk.R (off_next2 h.d (v:=oL) (by simp) hg ha (by simp)) (fun k hk _ e=>hk.2 e),hk.R h1 (fun k hk _ e=>hk.2 e),
  ⟨h.lo.1,Nat.le_trans h.lo.2.1 (Nat.le_trans hg.size hk.size),h.lo.2.2⟩,⟨h.len.1,hl,h.len.2.2⟩⟩
theorem FlS.freshD (h:FlS w0 w vT vD vC vI vL p g n0 oT oD oL tl o) (k:Nat) (hk:w.heap.size≤k):Off n0 [oT,oL] k∧k≠g:=by
 refine⟨⟨Nat.le_trans h.lo.2.1 hk,fun v hv e=>?_⟩,fun e=>by have:=Blk.lt h.fl;omega⟩
 simp only[List.mem_cons,List.not_mem_nil,or_false] at hv
 rcases hv with rfl|rfl
 · have:=Kd.R_lt h.t k e;omega
 · have:=Kd.R_lt h.l k e;omega
theorem FlS.freshL (h:FlS w0 w vT vD vC vI vL p g n0 oT oD oL tl o) (k:Nat) (hk:w.heap.size≤k):Off n0 [oT,oD] k∧k≠g:=by
 refine⟨⟨Nat.le_trans h.lo.2.1 hk,fun v hv e=>?_⟩,fun e=>by have:=Blk.lt h.fl;omega⟩
 simp only[List.mem_cons,List.not_mem_nil,or_false] at hv
 rcases hv with rfl|rfl
 · have:=Kd.R_lt h.t k e;omega
 · have:=Kd.R_lt h.d k e;omega
theorem FlS.midL (h:FlS w0 w vT vD vC vI vL p g n0 oT oD oL tl o) {s:Nat} (hs:w.heap.size≤s) (k:Nat) (hk:s≤k):(Off n0 [oT] k∧k≠g)∧some k≠oL.ownBlock∧some k≠oD.ownBlock:=by
 refine⟨⟨⟨Nat.le_trans (Nat.le_trans h.lo.2.1 hs) hk,fun v hv e=>?_⟩,fun e=>by have:=Blk.lt h.fl;omega⟩,fun e=>by have:=Kd.R_lt h.l k e.symm;omega,fun e=>by have:=Kd.R_lt h.d k e.symm;omega⟩
 rw[List.mem_singleton] at hv
 subst hv
 have:=Kd.R_lt h.t k e;omega
theorem FlS.okL (h:FlS w0 w vT vD vC vI vL p g n0 oT oD oL tl o) {s N:Nat} (hs:w.heap.size≤s) (ha:v1.ownBlock=oD.ownBlock∨∃ b,v1.ownBlock=some b∧N≤b) (k:Nat) (hk:s≤k∧k<N):(Off n0 [oT,v1] k∧k≠g)∧some k≠oL.ownBlock:=by
 obtain⟨⟨h1,h2⟩,h3,h4⟩:=FlS.midL h hs k hk.1
 refine⟨⟨⟨h1.1,fun v hv=>?_⟩,h2⟩,h3⟩
 simp only[List.mem_cons,List.not_mem_nil,or_false] at hv
 rcases hv with rfl|rfl
 · exact h1.2 v (by simp)
 · rcases ha with q|⟨c,q,hc⟩
   · rw[q];exact fun e=>h4 e.symm
   · rw[q];intro e;injection e with e;omega
theorem ch_new {o1 o2:Value} {oD' oL':Value} {N1 N2:Nat} (h1:o1.ownBlock=oD'.ownBlock∨∃ b,o1.ownBlock=some b∧N1≤b) (h2:o2.ownBlock=oL'.ownBlock∨∃ b,o2.ownBlock=some b∧N2≤b) {n:Nat} (hn1:n≤N1) (hn2:n≤N2) (k:Nat) (hk:Ch g o1 o2 k):Ch g oD' oL' k∨n≤k:=by
 rcases hk with rfl|hk|hk
 · exact .inl (.inl rfl)
 · rcases h1 with q|⟨c,q,hc⟩
   · exact .inl (.inr (.inl (q▸hk)))
   · rw[q] at hk;injection hk with hk;exact .inr (by omega)
 · rcases h2 with q|⟨c,q,hc⟩
   · exact .inl (.inr (.inr (q▸hk)))
   · rw[q] at hk;injection hk with hk;exact .inr (by omega)
theorem IPost.ret {r:Except (Int×Int) Out} {e:Ending} {w':World} (h:IPost w0 w vT vD vC vI vL p g n0 oT oD oL tl r e w'):∃ q,e=.returned (.bool q):=by
 cases r with
 | error z=>exact⟨_,h.1⟩
 | ok o2=>exact⟨_,h.1⟩
theorem IPost.from {oD' oL':Value} {r:Except (Int×Int) Out} {e:Ending} {w':World} (h:IPost w0 w1 vT vD vC vI vL p g n0 oT oD' oL' tl r e w') (hk:Kp (Ch g oD oL) w w1) (hn:∀ k,Ch g oD' oL' k→Ch g oD oL k∨w.heap.size≤k):IPost w0 w vT vD vC vI vL p g n0 oT oD oL tl r e w':=by
 have hS:∀ k,k<w.heap.size→Ch g oD' oL' k→Ch g oD oL k:=fun k hl h=>(hn k h).elim id (fun h=>by omega)
 cases r with
 | error z=>exact FailPost.all h hk hS
 | ok o2=>
   obtain⟨he,oD2,oL2,hf,hkp,hnew⟩:=h
   exact⟨he,oD2,oL2,hf,hk.trans hkp hS,fun k h=>(hnew k h).elim (hn k) (fun q=>.inr (Nat.le_trans hk.size q))⟩
end
theorem three (A:World) (n:Nat) (h:A.heap.size=n) (cs cs2:Array Value) (t t2:TypeId):Blk (((A.alloc (.cells cs t)).alloc (.map #[] 0)).alloc (.cells cs2 t2)) n t cs∧CmpMap.Met (((A.alloc (.cells cs t)).alloc (.map #[] 0)).alloc (.cells cs2 t2)) (n+1) 0 []∧Blk (((A.alloc (.cells cs t)).alloc (.map #[] 0)).alloc (.cells cs2 t2)) (n+1+1) t2 cs2∧(((A.alloc (.cells cs t)).alloc (.map #[] 0)).alloc (.cells cs2 t2)).heap.size=n+3∧Kp (fun k=>n≤k) A (((A.alloc (.cells cs t)).alloc (.map #[] 0)).alloc (.cells cs2 t2)):=by
 subst h
 refine⟨((Blk.new A t cs).alloc _).alloc _,?_,blk_new2 A _ _ t2 cs2,by rw[size1,size1,size1],(((Kp.refl _ A).alloc _).alloc _).alloc _⟩
 have:=CmpMap.Met.made (A.alloc (.cells cs t))
 rw[size1] at this
 exact this.alloc _
theorem made_row {α:Type} {d:Kd α} {e base:Nat} {ok:Nat→Prop} {w:World} {A:Option Addr} {n c:Nat} {xs:List α} (h:d.R e w base ok (.slice A n c) xs):ReadsRow (fun x cs=>d.M w base ok x cs) d.sz w A n xs:=by
 obtain⟨e1,e2,e3⟩:=Kd.R_reads' h
 refine⟨e1.symm,by rw[e1];exact e3.2.1,fun hn=>?_⟩
 obtain⟨g,rfl,_⟩:=row_at h (by omega)
 refine⟨_,rfl,fun j y hj=>?_⟩
 obtain⟨cs,hM,hl,hc⟩:=made_at h j y hj
 refine⟨cs,hl,d.M_mono (fun k hk=>hk.1) hM,fun i u hu=>?_⟩
 have e:(⟨g,0,none⟩:Addr).add (j*d.sz+i)=⟨g,j*d.sz+i,none⟩:=by
  unfold Addr.add
  split
  · next h0=>rw[h0]
  · simp
 rw[e]
 exact hc i u hu
theorem decl_row {w0 wr W w6:World} {N n c base k:Nat} {ok:Nat→Prop} {l:List DeclT} {y:DeclT} {n1:ByteArray} {cur:Array Value} {cs:List Value} (hr:(Kd.fixed kDecl w0).R 46 wr base ok (.slice (some ⟨N,0,none⟩) n c) l) (hx:l[k]?=some y) (hb:Below wr.heap.size wr W) (hN:Nm W N (k*5) n1 w6) (hB:Blk wr N 46 cur)
    (hcs:kDecl.K w0 y cs) (hcell:∀ j u,cs[j]?=some u→wr.cell? ⟨N,k*(Kd.fixed kDecl w0).sz+j,none⟩=some u) :
    (Kd.fixed kDecl w0).R 46 w6 base ok (.slice (some ⟨N,0,none⟩) n c) (l.set k { y with name:=n1 }):=by
 have hBW:=hB.below hb hB.lt
 obtain⟨A,ca,rfl,h1,h2⟩:=kDecl_open hcs
 exact put_back (okp:=fun _=>False) (Kd.R_below hr hb) hN.kp hBW k 0 (.string n1) (Nm.blk hN hBW) (List.getElem?_eq_some_iff.1 hx).1 _ rfl (fun j v hj=>(hb.cell (p:=⟨N,k*(Kd.fixed kDecl w0).sz+j,none⟩) hB.lt).trans (hcell j v hj)) (show 0<5 by decide) _ (kDecl_mk w0 { y with name:=n1 } h1 h2) (fun _ q=>q.elim)
theorem CSt.drew {w0 w:World} {g G n c base:Nat} {ok:Nat→Prop} {l:List (ClauseT×Bool)} {i:Nat} {x:ClauseT} {vT vD vC vI vL oT oD oC oI oL:Value} {why at_ made:Int} {mb m:Nat} {own:List ByteArray} {pre:ByteArray} (h:CSt w0 w g G n c base ok l i x vT vD vC vI vL oT oD oC oI oL why at_ made mb m own pre):CSt w0 w.drew g G n c base ok l i x vT vD vC vI vL oT oD oC oI oL why at_ made mb m own pre:=
 ⟨h.bs.drew,h.fl,h.met,h.row,h.at_i,h.ne,h.gold,h.blk,h.fresh,h.old,h.pre_,h.small⟩
theorem sum4 {n1 n2 n3 n4:Nat} (h:n1+n2+n3+n4≤4611686018427387904):wrap64 (wrap64 (wrap64 (↑n1+↑n2)+↑n3)+↑n4)=((n1+n2+n3+n4:Nat):Int):=by
 have e1:wrap64 ((n1:Int)+n2)=(n1:Int)+n2:=NumPure.wrap_in (by unfold NumPure.In;omega)
 have e2:wrap64 ((n1:Int)+n2+n3)=(n1:Int)+n2+n3:=NumPure.wrap_in (by unfold NumPure.In;omega)
 have e3:wrap64 ((n1:Int)+n2+n3+n4)=(n1:Int)+n2+n3+n4:=NumPure.wrap_in (by unfold NumPure.In;omega)
 rw[e1,e2,e3]
 omega
theorem inst_decl {f:ByteArray→Option (Int×ProgT)} {K:Nat} {b:ProgT} {pre:ByteArray} {at_:Int} {way:List ByteArray} {o:Out} {r:Except (Int×Int) Out} {z:Int×Int} (hr:instS f (K+1) b pre at_ way o=some r) (hm:¬96<o.made+1) (hz:allS (declS pre (ownS b)) b.decls=.error z):r=.error z:=by
 rw[instS,if_neg hm,hz] at hr
 injection hr with hr
 exact hr.symm
theorem inst_clause {f:ByteArray→Option (Int×ProgT)} {K:Nat} {b:ProgT} {pre:ByteArray} {at_:Int} {way:List ByteArray} {o:Out} {r:Except (Int×Int) Out} {z:Int×Int} {ds:List DeclT} (hr:instS f (K+1) b pre at_ way o=some r) (hm:¬96<o.made+1) (hd:allS (declS pre (ownS b)) b.decls=.ok ds) (hz:allS (clauseS pre (ownS b)) b.clauses=.error z):r=.error z:=by
 rw[instS,if_neg hm,hd] at hr
 simp only[hz] at hr
 injection hr with hr
 exact hr.symm
theorem inst_many {f:ByteArray→Option (Int×ProgT)} {K:Nat} {b:ProgT} {pre:ByteArray} {at_:Int} {way:List ByteArray} {o:Out} {r:Except (Int×Int) Out} {ds:List DeclT} {ls:List ClauseT} (hr:instS f (K+1) b pre at_ way o=some r) (hm:¬96<o.made+1) (hd:allS (declS pre (ownS b)) b.decls=.ok ds) (hl:allS (clauseS pre (ownS b)) b.clauses=.ok ls) (h:96<o.decls.length+o.clauses.length+ds.length+ls.length):r=.error (3,at_):=by
 rw[instS,if_neg hm,hd] at hr
 simp only[hl,if_pos h] at hr
 injection hr with hr
 exact hr.symm
theorem inst_inits {f:ByteArray→Option (Int×ProgT)} {K:Nat} {b:ProgT} {pre:ByteArray} {at_:Int} {way:List ByteArray} {o:Out} {r:Except (Int×Int) Out} {ds:List DeclT} {ls:List ClauseT} (hr:instS f (K+1) b pre at_ way o=some r) (hm:¬96<o.made+1) (hd:allS (declS pre (ownS b)) b.decls=.ok ds) (hl:allS (clauseS pre (ownS b)) b.clauses=.ok ls) (h:¬96<o.decls.length+o.clauses.length+ds.length+ls.length):initsS f (instS f K) pre way b.inits (names b.decls).reverse ⟨o.made+1,o.decls++ds,o.clauses++ls⟩=some r:=by
 rw[instS,if_neg hm,hd] at hr
 simp only[hl,if_neg h] at hr
 exact hr
end Go.Proofs.Ytddmceldglelkaa.CmpInsMem
