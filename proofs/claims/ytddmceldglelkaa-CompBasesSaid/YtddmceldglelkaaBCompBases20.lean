/- A claim's texts, in the order of what they need: RefLitC2. -/
import Derived.Test.YtddmceldglelkaaBCompBases17
set_option maxRecDepth 100000
set_option maxHeartbeats 8000000
set_option linter.unusedVariables false
set_option linter.unusedSimpArgs false
set_option linter.unusedSectionVars false
namespace Go.Proofs.Ytddmceldglelkaa
namespace RefLitC2
open Go Go.RowKit RefPure RefKinds RefMem RefTake RefSmall RefFields RefExprs RefExpr RefOne RefCells YtddmceldglelkaaW.PrintWords
open LexPure (T lex)
attribute [local go_sem] fld0 fld1 fld2 fld3
open RefLit RefLitS
section
variable (ts:List T)
theorem lit_cmp2 (k:Nat) (hk:k≤549755813888) (w:World) (g:Nat) (v:Value) (st:St) (r:LitT×St) (h:RS w g v ts st) (hF:lit ts k st=some r) (hy:(may ts [33] st).1=false) (h1:(cur ts st).kind=1) (h4:(nextT ts st).kind=4) (ht:¬(nextT ts st).text=[40]):Calls Try.prog 75 #[.pointer (some ⟨g,0,none⟩)] w (LitPost w g v ts r):=by
 have H0:=Za h;have G0:=Za (ZL w g);have hg:=h.blk.lt;have HX:=Za (fun X (hX:w.heap.size≤X)=>h.elder hX);have HE:=Za (RefAll.exprs_all ts k k (Zc _) hk).1;unfold PExpr at HE;unfold lit at hF;rw[if_neg (by simp[hy]),if_neg (by simp[h1,h4,ht])] at hF;obtain⟨x,hx,hF⟩:=Zp hF;obtain⟨y,hyy,hr0⟩:=Zp hF;injection hr0 with hr0
 subst hr0;have HX1:=Za hx;have HX2:=Za hyy;have hm:(may ts (ByteArray.mk #[33]).data.toList st).1=false:=hy;have h1b:((cur ts st).kind==1)=true:=beq_iff_eq.mpr h1;have h4b:((nextT ts st).kind==4)=true:=beq_iff_eq.mpr h4;have htb:((str (nextT ts st).text).toList==ByteArray.toList ⟨#[40]⟩)=false:=(by rw[str_eq];exact Zm ht);have htc:((str (nextT ts st).text).toList==[40])=false:=(by rw[Lib.toList_data];simpa [str] using ht);clear h hF hx hyy hk hy h1 h4 ht;go_enter Try.func75,Try.ntmps75
 go_wp2_with (first
       | (go_at_call 15;(with_reducible refine (ZK _ _ _ _ _ (H0.out.alloc _)).mono ?_);rintro e w1 ⟨rfl,hl⟩
          have hb:=Zr hl g;have hr:=(H0.out.alloc (.cells #[.int .i64 0,.string ⟨#[]⟩,.slice none 0 0,.int .i64 0,.string ⟨#[]⟩,.int .i64 0,.int .i64 0,.string ⟨#[]⟩,.slice none 0 0,.int .i64 0,.int .i64 0,.int .i64 0,.string ⟨#[]⟩,.slice none 0 0,.int .i64 0,.int .i64 0] 58)).below hl;obtain⟨H1,G1,hrl_1⟩:=st_goA (.cells #[.int .i64 1,.string ⟨#[]⟩,.slice none 0 0,.int .i64 0,.string ⟨#[]⟩,.int .i64 0,.int .i64 0,.string ⟨#[]⟩,.slice none 0 0,.int .i64 0,.int .i64 0,.int .i64 0,.string ⟨#[]⟩,.slice none 0 0,.int .i64 0,.int .i64 ((cur ts st).at_:Int)] 58) hr (ZD G0.out _) hb;obtain⟨HBx_1,qcx,qfx,hltx_1⟩:=s16_goA (.cells #[.int .i64 1,.string ⟨#[]⟩,.slice none 0 0,.int .i64 0,.string ⟨#[]⟩,.int .i64 0,.int .i64 0,.string ⟨#[]⟩,.slice none 0 0,.int .i64 0,.int .i64 0,.int .i64 0,.string ⟨#[]⟩,.slice none 0 0,.int .i64 0,.int .i64 ((cur ts st).at_:Int)] 58) (Za (Blk.new w 58 #[.int .i64 0,.string ⟨#[]⟩,.slice none 0 0,.int .i64 0,.string ⟨#[]⟩,.int .i64 0,.int .i64 0,.string ⟨#[]⟩,.slice none 0 0,.int .i64 0,.int .i64 0,.int .i64 0,.string ⟨#[]⟩,.slice none 0 0,.int .i64 0,.int .i64 0])) hb (by omega);have HBy_1:=Za (Blk.new w1 58 #[.int .i64 1,.string ⟨#[]⟩,.slice none 0 0,.int .i64 0,.string ⟨#[]⟩,.int .i64 0,.int .i64 0,.string ⟨#[]⟩,.slice none 0 0,.int .i64 0,.int .i64 0,.int .i64 0,.string ⟨#[]⟩,.slice none 0 0,.int .i64 0,.int .i64 ((cur ts st).at_:Int)]);clear hr hb hl H0 G0 )
       | (go_at_call 43;(with_reducible refine (ZQ _ _ _ _ _ _ H1.out).mono ?_);rintro e w2 ⟨rfl,hr,hb⟩
          rw[Z1 hm] at hr;obtain⟨H2,G2,hrl_2⟩:=ZE hr G1.out hb;obtain⟨HBx_2,qcx,qfx,hltx_2⟩:=ZF HBx_1 hb (by omega);obtain⟨HBy_2,qcy,qfy,hlty_2⟩:=ZF HBy_1 hb (by omega);clear hr hb H1 G1 HBx_1 HBy_1)
       | (go_at_call 15;(with_reducible refine (ZK _ _ _ _ _ H2.out).mono ?_);rintro e w3 ⟨rfl,hl⟩
          have hb:=Zr hl g;have hr:=(H2.out).below hl;obtain⟨H3,G3,hrl_3⟩:=ZE hr G2.out hb;obtain⟨HBx_3,qcx,qfx,hltx_3⟩:=ZF HBx_2 hb (by omega);obtain⟨HBy_3,qcy,qfy,hlty_3⟩:=ZF HBy_2 hb (by omega);clear hr hb hl H2 G2 HBx_2 HBy_2)
       | (go_at_call 72;(with_reducible refine (ahead_any _ _ _ _ _ H3.out).mono ?_);rintro e w4 ⟨rfl,hl⟩
          have hb:=Zr hl g;have hr:=(H3.out).below hl;obtain⟨H4,G4,hrl_4⟩:=ZE hr G3.out hb;obtain⟨HBx_4,qcx,qfx,hltx_4⟩:=ZF HBx_3 hb (by omega);obtain⟨HBy_4,qcy,qfy,hlty_4⟩:=ZF HBy_3 hb (by omega);clear hr hb hl H3 G3 HBx_3 HBy_3)
       | (go_at_call 72;(with_reducible refine (ahead_any _ _ _ _ _ H4.out).mono ?_);rintro e w5 ⟨rfl,hl⟩
          have hb:=Zr hl g;have hr:=(H4.out).below hl;obtain⟨H5,G5,hrl_5⟩:=ZE hr G4.out hb;obtain⟨HBx_5,qcx,qfx,hltx_5⟩:=ZF HBx_4 hb (by omega);obtain⟨HBy_5,qcy,qfy,hlty_5⟩:=ZF HBy_4 hb (by omega);clear hr hb hl H4 G4 HBx_4 HBy_4)
       | (go_at_call 84;(with_reducible refine (HE.out _ _ _ _ _ (RS.other H5.out (HX.out _ (Zd hltx_1)) 0 (.int .i64 3)) HX1.out).mono ?_);rintro e w6 ⟨vk,rfl,hk,hr,hb⟩
          obtain⟨pk,ck,rfl⟩:=Kd.R_slice hk;have HKA:Hid (kEx.R 56 w6 w5.heap.size (fun b=>w5.heap.size≤b) (.slice pk x.1.kids.length ck) x.1.kids):=Za (by simpa using hk);have hyw:w1.heap.size<w5.heap.size:=hlty_5;clear hk;obtain⟨H6,G6,hrl_6⟩:=ZE hr (Zx G5.out (Zd hltx_1) 0 (.int .i64 3)) hb;obtain⟨HBx_6,qcx,qfx,hltx_6⟩:=ZF (Za (HBx_5.out.far (p:=⟨w1.heap.size,0,none⟩) (Zf hltx_1) (.int .i64 3))) hb (by omega);obtain⟨HBy_6,qcy,qfy,hlty_6⟩:=ZF (Za (show Blk _ (w1.heap.size) 58 #[.int .i64 3,.string ⟨#[]⟩,.slice none 0 0,.int .i64 0,.string ⟨#[]⟩,.int .i64 0,.int .i64 0,.string ⟨#[]⟩,.slice none 0 0,.int .i64 0,.int .i64 0,.int .i64 0,.string ⟨#[]⟩,.slice none 0 0,.int .i64 0,.int .i64 ((cur ts st).at_:Int)] from HBy_5.out.set_ 0 (.int .i64 3))) hb (by omega);clear hr hb H5 G5 HBx_5 HBy_5))
 have hxy:w.heap.size<w1.heap.size:=hltx_1;have hX2:Hid (expr ts k (take ts (if cmpOf ts x.2=[] then fails ts 10 x.2 else x.2)).2=some y):=HX2;go_loopg [43] 6 (fun kq2 v43 wi=>∃ i:Nat,v43=.int .i64 (i:Int)∧Hid (LRel w g v ts w1.heap.size w5.heap.size w6.heap.size x.2 x.1 pk ck ((cur ts st).at_:Int) i kq2 wi))
 case atStart=>exact⟨0,rfl,Za ⟨rfl,RS.alloc (RS.other (RS.other (RS.other (RS.other (RS.other H6.out (HX.out _ (Zd hxy)) 5 _) (HX.out _ (Zd hxy)) 6 _) (HX.out _ (Zd hxy)) 7 _) (HX.out _ (Zd hxy)) 8 _) (HX.out _ (Zd hxy)) 9 _) _,ZD (Zx (Zx (Zx (Zx (Zx G6.out (Zd hxy) 5 _) (Zd hxy) 6 _) (Zd hxy) 7 _) (Zd hxy) 8 _) (Zd hxy) 9 _) _,Blk.alloc (((((HBx_6.out.far (p:=⟨w1.heap.size,5,none⟩) (Zf hxy) _).far (p:=⟨w1.heap.size,6,none⟩) (Zf hxy) _).far (p:=⟨w1.heap.size,7,none⟩) (Zf hxy) _).far (p:=⟨w1.heap.size,8,none⟩) (Zf hxy) _).far (p:=⟨w1.heap.size,9,none⟩) (Zf hxy) _) _,Blk.alloc (show Blk ((((((w6.setCell ⟨w1.heap.size,5,none⟩ (.int .i64 x.1.kind)).setCell ⟨w1.heap.size,6,none⟩ (.int .i64 x.1.n)).setCell ⟨w1.heap.size,7,none⟩ (.string x.1.s)).setCell ⟨w1.heap.size,8,none⟩ (.slice pk x.1.kids.length ck)).setCell ⟨w1.heap.size,9,none⟩ (.int .i64 x.1.at_))) w1.heap.size 58 #[.int .i64 3,.string ⟨#[]⟩,.slice none 0 0,.int .i64 0,.string ⟨#[]⟩,.int .i64 x.1.kind,.int .i64 x.1.n,.string x.1.s,.slice pk x.1.kids.length ck,.int .i64 x.1.at_,.int .i64 0,.int .i64 0,.string ⟨#[]⟩,.slice none 0 0,.int .i64 0,.int .i64 ((cur ts st).at_:Int)] from (((((HBy_6.out.set_ 5 _).set_ 6 _).set_ 7 _).set_ 8 _).set_ 9 _)) _,(by have:=Blk.new (((((w6.setCell ⟨w1.heap.size,5,none⟩ (.int .i64 x.1.kind)).setCell ⟨w1.heap.size,6,none⟩ (.int .i64 x.1.n)).setCell ⟨w1.heap.size,7,none⟩ (.string x.1.s)).setCell ⟨w1.heap.size,8,none⟩ (.slice pk x.1.kids.length ck)).setCell ⟨w1.heap.size,9,none⟩ (.int .i64 x.1.at_)) 9 #[.string (ByteArray.mk #[61]),.string (ByteArray.mk #[33,61]),.string (ByteArray.mk #[60]),.string (ByteArray.mk #[60,61]),.string (ByteArray.mk #[62]),.string (ByteArray.mk #[62,61])];simpa using this),Kd.R_alloc (Kd.R_mono (Kd.R_bound (Kd.R_far (Kd.R_far (Kd.R_far (Kd.R_far (Kd.R_far HKA.out (p:=⟨w1.heap.size,5,none⟩) (fun b hb e=>by have e2:b=w1.heap.size:=e;omega) _) (p:=⟨w1.heap.size,6,none⟩) (fun b hb e=>by have e2:b=w1.heap.size:=e;omega) _) (p:=⟨w1.heap.size,7,none⟩) (fun b hb e=>by have e2:b=w1.heap.size:=e;omega) _) (p:=⟨w1.heap.size,8,none⟩) (fun b hb e=>by have e2:b=w1.heap.size:=e;omega) _) (p:=⟨w1.heap.size,9,none⟩) (fun b hb e=>by have e2:b=w1.heap.size:=e;omega) _)) (fun b hb=>hb.1)) _⟩⟩
 case round=>
  clear H6 G6 HBx_6 HBy_6 HKA;obtain⟨i,rfl,HI⟩:=hrel;obtain⟨hi,hS,hG,hA,hB,hQ,hK⟩:=HI.out;have H20:=Za hS;have G20:=Za hG;have HBx_20:=Za hA;have HBy_20:=Za hB;have HQ_20:=Za hQ;have HK20:=Za hK;have hltx_20:w.heap.size<wr.heap.size:=hA.lt;have hlty_20:w1.heap.size<wr.heap.size:=hB.lt;have hltq_20:w6.heap.size<wr.heap.size:=hQ.lt;have hg0:=hS.blk.lt;have qcx:=ZH hA;have qfx:=ZW hA;have q0:wr.cell? ⟨w6.heap.size,0,none⟩=some (.string (ByteArray.mk #[61])):=hQ.cell 0;have q1:wr.cell? ⟨w6.heap.size,1,none⟩=some (.string (ByteArray.mk #[33,61])):=hQ.cell 1;have q2:wr.cell? ⟨w6.heap.size,2,none⟩=some (.string (ByteArray.mk #[60])):=hQ.cell 2;have q3:wr.cell? ⟨w6.heap.size,3,none⟩=some (.string (ByteArray.mk #[60,61])):=hQ.cell 3;have q4:wr.cell? ⟨w6.heap.size,4,none⟩=some (.string (ByteArray.mk #[62])):=hQ.cell 4;have q5:wr.cell? ⟨w6.heap.size,5,none⟩=some (.string (ByteArray.mk #[62,61])):=hQ.cell 5;clear HI hS hG hA hQ hK;rcases (by omega:i=0∨i=1∨i=2∨i=3∨i=4∨i=5∨i=6) with rfl|rfl|rfl|rfl|rfl|rfl|rfl
  · have qcy:=ZH hB;have qfy:=ZW hB;clear hB;by_cases hs:sign ts [61] x.2=true
    · have hs2:sign ts (ByteArray.mk #[61]).data.toList x.2=true:=hs;have he:cmpTo ts 1 x.2=[61]:=if_pos hs;have HEQ:=Za he;clear he hs
      go_wp2_with (first
            | (go_at_call 42;(with_reducible refine (ZJ _ _ _ _ _ _ H20.out).mono ?_);rintro e w21 ⟨rfl,hl⟩
               have hb:=Zr hl g;have hr:=(H20.out).below hl;obtain⟨H21,G21,hrl_21⟩:=ZE hr G20.out hb;obtain⟨HBx_21,qcx,qfx,hltx_21⟩:=ZF HBx_20 hb (by omega);obtain⟨HBy_21,qcy,qfy,hlty_21⟩:=ZF HBy_20 hb (by omega);have HQ_21:=Za (HQ_20.out.grown hb (fun e=>by have:=Zb e;omega));have HK21:=Za (Kd.R_grown HK20.out hb (fun b hb e=>by injection e with e;omega));clear hr hb hl H20 G20 HBx_20 HBy_20))
      go_roundg 5
      case measure=>omega
      case rel=>exact⟨1,rfl,Za ⟨by omega,(RS.other H21.out (HX.out _ (Zd hxy)) 4 _),(Zx G21.out (Zd hxy) 4 _),(HBx_21.out.far (p:=⟨w1.heap.size,4,none⟩) (Zf hxy) _),by rw[HEQ.out];exact HBy_21.out.set_ 4 _,HQ_21.out.far (p:=⟨w1.heap.size,4,none⟩) (show w6.heap.size≠w1.heap.size by omega) _,(Kd.R_far HK21.out (p:=⟨w1.heap.size,4,none⟩) (fun b hb e=>by have e2:b=w1.heap.size:=e;omega) _)⟩⟩
    · have hs2:sign ts (ByteArray.mk #[61]).data.toList x.2=false:=(by simpa using hs);have he:cmpTo ts 1 x.2=cmpTo ts 0 x.2:=if_neg hs;have HEQ:=Za he;clear he hs
      go_wp2_with (first
            | (go_at_call 42;(with_reducible refine (ZJ _ _ _ _ _ _ H20.out).mono ?_);rintro e w21 ⟨rfl,hl⟩
               have hb:=Zr hl g;have hr:=(H20.out).below hl;obtain⟨H21,G21,hrl_21⟩:=ZE hr G20.out hb;obtain⟨HBx_21,qcx,qfx,hltx_21⟩:=ZF HBx_20 hb (by omega);obtain⟨HBy_21,qcy,qfy,hlty_21⟩:=ZF HBy_20 hb (by omega);have HQ_21:=Za (HQ_20.out.grown hb (fun e=>by have:=Zb e;omega));have HK21:=Za (Kd.R_grown HK20.out hb (fun b hb e=>by injection e with e;omega));clear hr hb hl H20 G20 HBx_20 HBy_20))
      go_roundg 5
      case measure=>omega
      case rel=>exact⟨1,rfl,Za ⟨by omega,H21.out,G21.out,HBx_21.out,by rw[HEQ.out];exact HBy_21.out,HQ_21.out,HK21.out⟩⟩
  · have qcy:=ZH hB;have qfy:=ZW hB;clear hB;by_cases hs:sign ts [33,61] x.2=true
    · have hs2:sign ts (ByteArray.mk #[33,61]).data.toList x.2=true:=hs;have he:cmpTo ts 2 x.2=[33,61]:=if_pos hs;have HEQ:=Za he;clear he hs
      go_wp2_with (first
            | (go_at_call 42;(with_reducible refine (ZJ _ _ _ _ _ _ H20.out).mono ?_);rintro e w21 ⟨rfl,hl⟩
               have hb:=Zr hl g;have hr:=(H20.out).below hl;obtain⟨H21,G21,hrl_21⟩:=ZE hr G20.out hb;obtain⟨HBx_21,qcx,qfx,hltx_21⟩:=ZF HBx_20 hb (by omega);obtain⟨HBy_21,qcy,qfy,hlty_21⟩:=ZF HBy_20 hb (by omega);have HQ_21:=Za (HQ_20.out.grown hb (fun e=>by have:=Zb e;omega));have HK21:=Za (Kd.R_grown HK20.out hb (fun b hb e=>by injection e with e;omega));clear hr hb hl H20 G20 HBx_20 HBy_20))
      go_roundg 4
      case measure=>omega
      case rel=>exact⟨2,rfl,Za ⟨by omega,(RS.other H21.out (HX.out _ (Zd hxy)) 4 _),(Zx G21.out (Zd hxy) 4 _),(HBx_21.out.far (p:=⟨w1.heap.size,4,none⟩) (Zf hxy) _),by rw[HEQ.out];exact HBy_21.out.set_ 4 _,HQ_21.out.far (p:=⟨w1.heap.size,4,none⟩) (show w6.heap.size≠w1.heap.size by omega) _,(Kd.R_far HK21.out (p:=⟨w1.heap.size,4,none⟩) (fun b hb e=>by have e2:b=w1.heap.size:=e;omega) _)⟩⟩
    · have hs2:sign ts (ByteArray.mk #[33,61]).data.toList x.2=false:=(by simpa using hs);have he:cmpTo ts 2 x.2=cmpTo ts 1 x.2:=if_neg hs;have HEQ:=Za he;clear he hs
      go_wp2_with (first
            | (go_at_call 42;(with_reducible refine (ZJ _ _ _ _ _ _ H20.out).mono ?_);rintro e w21 ⟨rfl,hl⟩
               have hb:=Zr hl g;have hr:=(H20.out).below hl;obtain⟨H21,G21,hrl_21⟩:=ZE hr G20.out hb;obtain⟨HBx_21,qcx,qfx,hltx_21⟩:=ZF HBx_20 hb (by omega);obtain⟨HBy_21,qcy,qfy,hlty_21⟩:=ZF HBy_20 hb (by omega);have HQ_21:=Za (HQ_20.out.grown hb (fun e=>by have:=Zb e;omega));have HK21:=Za (Kd.R_grown HK20.out hb (fun b hb e=>by injection e with e;omega));clear hr hb hl H20 G20 HBx_20 HBy_20))
      go_roundg 4
      case measure=>omega
      case rel=>exact⟨2,rfl,Za ⟨by omega,H21.out,G21.out,HBx_21.out,by rw[HEQ.out];exact HBy_21.out,HQ_21.out,HK21.out⟩⟩
  · have qcy:=ZH hB;have qfy:=ZW hB;clear hB;by_cases hs:sign ts [60] x.2=true
    · have hs2:sign ts (ByteArray.mk #[60]).data.toList x.2=true:=hs;have he:cmpTo ts 3 x.2=[60]:=if_pos hs;have HEQ:=Za he;clear he hs
      go_wp2_with (first
            | (go_at_call 42;(with_reducible refine (ZJ _ _ _ _ _ _ H20.out).mono ?_);rintro e w21 ⟨rfl,hl⟩
               have hb:=Zr hl g;have hr:=(H20.out).below hl;obtain⟨H21,G21,hrl_21⟩:=ZE hr G20.out hb;obtain⟨HBx_21,qcx,qfx,hltx_21⟩:=ZF HBx_20 hb (by omega);obtain⟨HBy_21,qcy,qfy,hlty_21⟩:=ZF HBy_20 hb (by omega);have HQ_21:=Za (HQ_20.out.grown hb (fun e=>by have:=Zb e;omega));have HK21:=Za (Kd.R_grown HK20.out hb (fun b hb e=>by injection e with e;omega));clear hr hb hl H20 G20 HBx_20 HBy_20))
      go_roundg 3
      case measure=>omega
      case rel=>exact⟨3,rfl,Za ⟨by omega,(RS.other H21.out (HX.out _ (Zd hxy)) 4 _),(Zx G21.out (Zd hxy) 4 _),(HBx_21.out.far (p:=⟨w1.heap.size,4,none⟩) (Zf hxy) _),by rw[HEQ.out];exact HBy_21.out.set_ 4 _,HQ_21.out.far (p:=⟨w1.heap.size,4,none⟩) (show w6.heap.size≠w1.heap.size by omega) _,(Kd.R_far HK21.out (p:=⟨w1.heap.size,4,none⟩) (fun b hb e=>by have e2:b=w1.heap.size:=e;omega) _)⟩⟩
    · have hs2:sign ts (ByteArray.mk #[60]).data.toList x.2=false:=(by simpa using hs);have he:cmpTo ts 3 x.2=cmpTo ts 2 x.2:=if_neg hs;have HEQ:=Za he;clear he hs
      go_wp2_with (first
            | (go_at_call 42;(with_reducible refine (ZJ _ _ _ _ _ _ H20.out).mono ?_);rintro e w21 ⟨rfl,hl⟩
               have hb:=Zr hl g;have hr:=(H20.out).below hl;obtain⟨H21,G21,hrl_21⟩:=ZE hr G20.out hb;obtain⟨HBx_21,qcx,qfx,hltx_21⟩:=ZF HBx_20 hb (by omega);obtain⟨HBy_21,qcy,qfy,hlty_21⟩:=ZF HBy_20 hb (by omega);have HQ_21:=Za (HQ_20.out.grown hb (fun e=>by have:=Zb e;omega));have HK21:=Za (Kd.R_grown HK20.out hb (fun b hb e=>by injection e with e;omega));clear hr hb hl H20 G20 HBx_20 HBy_20))
      go_roundg 3
      case measure=>omega
      case rel=>exact⟨3,rfl,Za ⟨by omega,H21.out,G21.out,HBx_21.out,by rw[HEQ.out];exact HBy_21.out,HQ_21.out,HK21.out⟩⟩
  · have qcy:=ZH hB;have qfy:=ZW hB;clear hB;by_cases hs:sign ts [60,61] x.2=true
    · have hs2:sign ts (ByteArray.mk #[60,61]).data.toList x.2=true:=hs;have he:cmpTo ts 4 x.2=[60,61]:=if_pos hs;have HEQ:=Za he;clear he hs
      go_wp2_with (first
            | (go_at_call 42;(with_reducible refine (ZJ _ _ _ _ _ _ H20.out).mono ?_);rintro e w21 ⟨rfl,hl⟩
               have hb:=Zr hl g;have hr:=(H20.out).below hl;obtain⟨H21,G21,hrl_21⟩:=ZE hr G20.out hb;obtain⟨HBx_21,qcx,qfx,hltx_21⟩:=ZF HBx_20 hb (by omega);obtain⟨HBy_21,qcy,qfy,hlty_21⟩:=ZF HBy_20 hb (by omega);have HQ_21:=Za (HQ_20.out.grown hb (fun e=>by have:=Zb e;omega));have HK21:=Za (Kd.R_grown HK20.out hb (fun b hb e=>by injection e with e;omega));clear hr hb hl H20 G20 HBx_20 HBy_20))
      go_roundg 2
      case measure=>omega
      case rel=>exact⟨4,rfl,Za ⟨by omega,(RS.other H21.out (HX.out _ (Zd hxy)) 4 _),(Zx G21.out (Zd hxy) 4 _),(HBx_21.out.far (p:=⟨w1.heap.size,4,none⟩) (Zf hxy) _),by rw[HEQ.out];exact HBy_21.out.set_ 4 _,HQ_21.out.far (p:=⟨w1.heap.size,4,none⟩) (show w6.heap.size≠w1.heap.size by omega) _,(Kd.R_far HK21.out (p:=⟨w1.heap.size,4,none⟩) (fun b hb e=>by have e2:b=w1.heap.size:=e;omega) _)⟩⟩
    · have hs2:sign ts (ByteArray.mk #[60,61]).data.toList x.2=false:=(by simpa using hs);have he:cmpTo ts 4 x.2=cmpTo ts 3 x.2:=if_neg hs;have HEQ:=Za he;clear he hs
      go_wp2_with (first
            | (go_at_call 42;(with_reducible refine (ZJ _ _ _ _ _ _ H20.out).mono ?_);rintro e w21 ⟨rfl,hl⟩
               have hb:=Zr hl g;have hr:=(H20.out).below hl;obtain⟨H21,G21,hrl_21⟩:=ZE hr G20.out hb;obtain⟨HBx_21,qcx,qfx,hltx_21⟩:=ZF HBx_20 hb (by omega);obtain⟨HBy_21,qcy,qfy,hlty_21⟩:=ZF HBy_20 hb (by omega);have HQ_21:=Za (HQ_20.out.grown hb (fun e=>by have:=Zb e;omega));have HK21:=Za (Kd.R_grown HK20.out hb (fun b hb e=>by injection e with e;omega));clear hr hb hl H20 G20 HBx_20 HBy_20))
      go_roundg 2
      case measure=>omega
      case rel=>exact⟨4,rfl,Za ⟨by omega,H21.out,G21.out,HBx_21.out,by rw[HEQ.out];exact HBy_21.out,HQ_21.out,HK21.out⟩⟩
  · have qcy:=ZH hB;have qfy:=ZW hB;clear hB;by_cases hs:sign ts [62] x.2=true
    · have hs2:sign ts (ByteArray.mk #[62]).data.toList x.2=true:=hs;have he:cmpTo ts 5 x.2=[62]:=if_pos hs;have HEQ:=Za he;clear he hs
      go_wp2_with (first
            | (go_at_call 42;(with_reducible refine (ZJ _ _ _ _ _ _ H20.out).mono ?_);rintro e w21 ⟨rfl,hl⟩
               have hb:=Zr hl g;have hr:=(H20.out).below hl;obtain⟨H21,G21,hrl_21⟩:=ZE hr G20.out hb;obtain⟨HBx_21,qcx,qfx,hltx_21⟩:=ZF HBx_20 hb (by omega);obtain⟨HBy_21,qcy,qfy,hlty_21⟩:=ZF HBy_20 hb (by omega);have HQ_21:=Za (HQ_20.out.grown hb (fun e=>by have:=Zb e;omega));have HK21:=Za (Kd.R_grown HK20.out hb (fun b hb e=>by injection e with e;omega));clear hr hb hl H20 G20 HBx_20 HBy_20))
      go_roundg 1
      case measure=>omega
      case rel=>exact⟨5,rfl,Za ⟨by omega,(RS.other H21.out (HX.out _ (Zd hxy)) 4 _),(Zx G21.out (Zd hxy) 4 _),(HBx_21.out.far (p:=⟨w1.heap.size,4,none⟩) (Zf hxy) _),by rw[HEQ.out];exact HBy_21.out.set_ 4 _,HQ_21.out.far (p:=⟨w1.heap.size,4,none⟩) (show w6.heap.size≠w1.heap.size by omega) _,(Kd.R_far HK21.out (p:=⟨w1.heap.size,4,none⟩) (fun b hb e=>by have e2:b=w1.heap.size:=e;omega) _)⟩⟩
    · have hs2:sign ts (ByteArray.mk #[62]).data.toList x.2=false:=(by simpa using hs);have he:cmpTo ts 5 x.2=cmpTo ts 4 x.2:=if_neg hs;have HEQ:=Za he;clear he hs
      go_wp2_with (first
            | (go_at_call 42;(with_reducible refine (ZJ _ _ _ _ _ _ H20.out).mono ?_);rintro e w21 ⟨rfl,hl⟩
               have hb:=Zr hl g;have hr:=(H20.out).below hl;obtain⟨H21,G21,hrl_21⟩:=ZE hr G20.out hb;obtain⟨HBx_21,qcx,qfx,hltx_21⟩:=ZF HBx_20 hb (by omega);obtain⟨HBy_21,qcy,qfy,hlty_21⟩:=ZF HBy_20 hb (by omega);have HQ_21:=Za (HQ_20.out.grown hb (fun e=>by have:=Zb e;omega));have HK21:=Za (Kd.R_grown HK20.out hb (fun b hb e=>by injection e with e;omega));clear hr hb hl H20 G20 HBx_20 HBy_20))
      go_roundg 1
      case measure=>omega
      case rel=>exact⟨5,rfl,Za ⟨by omega,H21.out,G21.out,HBx_21.out,by rw[HEQ.out];exact HBy_21.out,HQ_21.out,HK21.out⟩⟩
  · have qcy:=ZH hB;have qfy:=ZW hB;clear hB;by_cases hs:sign ts [62,61] x.2=true
    · have hs2:sign ts (ByteArray.mk #[62,61]).data.toList x.2=true:=hs;have he:cmpTo ts 6 x.2=[62,61]:=if_pos hs;have HEQ:=Za he;clear he hs
      go_wp2_with (first
            | (go_at_call 42;(with_reducible refine (ZJ _ _ _ _ _ _ H20.out).mono ?_);rintro e w21 ⟨rfl,hl⟩
               have hb:=Zr hl g;have hr:=(H20.out).below hl;obtain⟨H21,G21,hrl_21⟩:=ZE hr G20.out hb;obtain⟨HBx_21,qcx,qfx,hltx_21⟩:=ZF HBx_20 hb (by omega);obtain⟨HBy_21,qcy,qfy,hlty_21⟩:=ZF HBy_20 hb (by omega);have HQ_21:=Za (HQ_20.out.grown hb (fun e=>by have:=Zb e;omega));have HK21:=Za (Kd.R_grown HK20.out hb (fun b hb e=>by injection e with e;omega));clear hr hb hl H20 G20 HBx_20 HBy_20))
      go_roundg 0
      case measure=>omega
      case rel=>exact⟨6,rfl,Za ⟨by omega,(RS.other H21.out (HX.out _ (Zd hxy)) 4 _),(Zx G21.out (Zd hxy) 4 _),(HBx_21.out.far (p:=⟨w1.heap.size,4,none⟩) (Zf hxy) _),by rw[HEQ.out];exact HBy_21.out.set_ 4 _,HQ_21.out.far (p:=⟨w1.heap.size,4,none⟩) (show w6.heap.size≠w1.heap.size by omega) _,(Kd.R_far HK21.out (p:=⟨w1.heap.size,4,none⟩) (fun b hb e=>by have e2:b=w1.heap.size:=e;omega) _)⟩⟩
    · have hs2:sign ts (ByteArray.mk #[62,61]).data.toList x.2=false:=(by simpa using hs);have he:cmpTo ts 6 x.2=cmpTo ts 5 x.2:=if_neg hs;have HEQ:=Za he;clear he hs
      go_wp2_with (first
            | (go_at_call 42;(with_reducible refine (ZJ _ _ _ _ _ _ H20.out).mono ?_);rintro e w21 ⟨rfl,hl⟩
               have hb:=Zr hl g;have hr:=(H20.out).below hl;obtain⟨H21,G21,hrl_21⟩:=ZE hr G20.out hb;obtain⟨HBx_21,qcx,qfx,hltx_21⟩:=ZF HBx_20 hb (by omega);obtain⟨HBy_21,qcy,qfy,hlty_21⟩:=ZF HBy_20 hb (by omega);have HQ_21:=Za (HQ_20.out.grown hb (fun e=>by have:=Zb e;omega));have HK21:=Za (Kd.R_grown HK20.out hb (fun b hb e=>by injection e with e;omega));clear hr hb hl H20 G20 HBx_20 HBy_20))
      go_roundg 0
      case measure=>omega
      case rel=>exact⟨6,rfl,Za ⟨by omega,H21.out,G21.out,HBx_21.out,by rw[HEQ.out];exact HBy_21.out,HQ_21.out,HK21.out⟩⟩
  · rw[cmpTo_six] at hB HBy_20;have qcy:=ZH hB;have qfy:=ZW hB;clear hB HQ_20;by_cases hop:cmpOf ts x.2=[]
    · have hub:(str (cmpOf ts x.2)).toList.isEmpty=true:=(by rw[Lib.toList_data];simp[str,hop]);have HY:Hid (expr ts k (take ts (fails ts 10 x.2)).2=some y):=Za (by have:=hX2.out;rw[if_pos hop] at this;exact this);clear hop
      go_wp2_with (first
            | (go_at_call 16;(with_reducible refine (Z2 _ _ _ _ _ _ H20.out).mono ?_);rintro e w21 ⟨rfl,hr,hb⟩
               obtain⟨H21,G21,hrl_21⟩:=ZE hr G20.out hb;obtain⟨HBx_21,qcx,qfx,hltx_21⟩:=ZF HBx_20 hb (by omega);obtain⟨HBy_21,qcy,qfy,hlty_21⟩:=ZF HBy_20 hb (by omega);have HK21:=Za (Kd.R_grown HK20.out hb (fun b hb e=>by injection e with e;omega));clear hr hb H20 G20 HBx_20 HBy_20)
            | (go_at_call 47;(with_reducible refine (Z4 _ _ _ _ _ H21.out).mono ?_);rintro e w22 ⟨rfl,hr,hb⟩
               obtain⟨H22,G22,hrl_22⟩:=ZE hr G21.out hb;obtain⟨HBx_22,qcx,qfx,hltx_22⟩:=ZF HBx_21 hb (by omega);obtain⟨HBy_22,qcy,qfy,hlty_22⟩:=ZF HBy_21 hb (by omega);have HK22:=Za (Kd.R_grown HK21.out hb (fun b hb e=>by injection e with e;omega));clear hr hb H21 G21 HBx_21 HBy_21)
            | (go_at_call 84;(with_reducible refine (HE.out _ _ _ _ _ H22.out HY.out).mono ?_);rintro e w23 ⟨vk2,rfl,hk2,hr,hb⟩
               obtain⟨p2,c2,rfl⟩:=Kd.R_slice hk2;have HK2:Hid (kEx.R 56 w23 w22.heap.size (fun b=>w22.heap.size≤b) (.slice p2 y.1.kids.length c2) y.1.kids):=Za hk2;have hyw2:w1.heap.size<w22.heap.size:=hlty_22;clear hk2;obtain⟨H23,G23,hrl_23⟩:=ZE hr G22.out hb;obtain⟨HBx_23,qcx,qfx,hltx_23⟩:=ZF HBx_22 hb (by omega);obtain⟨HBy_23,qcy,qfy,hlty_23⟩:=ZF HBy_22 hb (by omega);have HK23:=Za (Kd.R_grown HK22.out hb (fun b hb e=>by injection e with e;omega));clear hr hb H22 G22 HBx_22 HBy_22))
      refine bodyPost_ret (results_cell_row rfl _ _ w.heap.size 58 #[.int .i64 3,.string ⟨#[]⟩,.slice none 0 0,.int .i64 0,.string (str (cmpOf ts x.2)),.int .i64 x.1.kind,.int .i64 x.1.n,.string x.1.s,.slice pk x.1.kids.length ck,.int .i64 x.1.at_,.int .i64 y.1.kind,.int .i64 y.1.n,.string y.1.s,.slice p2 y.1.kids.length c2,.int .i64 y.1.at_,.int .i64 ((cur ts st).at_:Int)] (0,0) _ rfl ?_ Try.underlying58 rfl (by kernel_rfl)) rfl ?_
      · exact s16_blk (((((HBx_23.out.far (p:=⟨w1.heap.size,10,none⟩) (Zf hxy) _).far (p:=⟨w1.heap.size,11,none⟩) (Zf hxy) _).far (p:=⟨w1.heap.size,12,none⟩) (Zf hxy) _).far (p:=⟨w1.heap.size,13,none⟩) (Zf hxy) _).far (p:=⟨w1.heap.size,14,none⟩) (Zf hxy) _)
      · refine⟨.slice none 0 0,.slice pk x.1.kids.length ck,.slice p2 y.1.kids.length c2,rfl,Kd.R_nil _ _ _ _ _,?_,?_,?_,?_⟩
        · exact Kd.R_mono (Kd.R_lower (s16_R (Kd.R_far (Kd.R_far (Kd.R_far (Kd.R_far (Kd.R_far HK23.out (p:=⟨w1.heap.size,10,none⟩) (fun b hb e=>by have e2:b=w1.heap.size:=e;omega) _) (p:=⟨w1.heap.size,11,none⟩) (fun b hb e=>by have e2:b=w1.heap.size:=e;omega) _) (p:=⟨w1.heap.size,12,none⟩) (fun b hb e=>by have e2:b=w1.heap.size:=e;omega) _) (p:=⟨w1.heap.size,13,none⟩) (fun b hb e=>by have e2:b=w1.heap.size:=e;omega) _) (p:=⟨w1.heap.size,14,none⟩) (fun b hb e=>by have e2:b=w1.heap.size:=e;omega) _) (fun b hb=>by omega)) (by omega)) (fun b hb=>by omega)
        · exact Kd.R_mono (Kd.R_lower (s16_R (Kd.R_far (Kd.R_far (Kd.R_far (Kd.R_far (Kd.R_far HK2.out (p:=⟨w1.heap.size,10,none⟩) (fun b hb e=>by have e2:b=w1.heap.size:=e;omega) _) (p:=⟨w1.heap.size,11,none⟩) (fun b hb e=>by have e2:b=w1.heap.size:=e;omega) _) (p:=⟨w1.heap.size,12,none⟩) (fun b hb e=>by have e2:b=w1.heap.size:=e;omega) _) (p:=⟨w1.heap.size,13,none⟩) (fun b hb e=>by have e2:b=w1.heap.size:=e;omega) _) (p:=⟨w1.heap.size,14,none⟩) (fun b hb e=>by have e2:b=w1.heap.size:=e;omega) _) (fun b hb=>by omega)) (by omega)) (fun b hb=>by omega)
        · exact s16_RS (RS.other (RS.other (RS.other (RS.other (RS.other H23.out (HX.out _ (Zd hxy)) 10 _) (HX.out _ (Zd hxy)) 11 _) (HX.out _ (Zd hxy)) 12 _) (HX.out _ (Zd hxy)) 13 _) (HX.out _ (Zd hxy)) 14 _) (HX.out _ (Zc _))
        · exact s16_gr (Zx (Zx (Zx (Zx (Zx G23.out (Zd hxy) 10 _) (Zd hxy) 11 _) (Zd hxy) 12 _) (Zd hxy) 13 _) (Zd hxy) 14 _) (Zc _)
    · have hub:(str (cmpOf ts x.2)).toList.isEmpty=false:=(by rw[Lib.toList_data];simp[str,hop]);have HY:Hid (expr ts k (take ts x.2).2=some y):=Za (by have:=hX2.out;rw[if_neg hop] at this;exact this);clear hop
      go_wp2_with (first
            | (go_at_call 47;(with_reducible refine (Z4 _ _ _ _ _ H20.out).mono ?_);rintro e w21 ⟨rfl,hr,hb⟩
               obtain⟨H21,G21,hrl_21⟩:=ZE hr G20.out hb;obtain⟨HBx_21,qcx,qfx,hltx_21⟩:=ZF HBx_20 hb (by omega);obtain⟨HBy_21,qcy,qfy,hlty_21⟩:=ZF HBy_20 hb (by omega);have HK21:=Za (Kd.R_grown HK20.out hb (fun b hb e=>by injection e with e;omega));clear hr hb H20 G20 HBx_20 HBy_20)
            | (go_at_call 84;(with_reducible refine (HE.out _ _ _ _ _ H21.out HY.out).mono ?_);rintro e w22 ⟨vk2,rfl,hk2,hr,hb⟩
               obtain⟨p2,c2,rfl⟩:=Kd.R_slice hk2;have HK2:Hid (kEx.R 56 w22 w21.heap.size (fun b=>w21.heap.size≤b) (.slice p2 y.1.kids.length c2) y.1.kids):=Za hk2;have hyw2:w1.heap.size<w21.heap.size:=hlty_21;clear hk2;obtain⟨H22,G22,hrl_22⟩:=ZE hr G21.out hb;obtain⟨HBx_22,qcx,qfx,hltx_22⟩:=ZF HBx_21 hb (by omega);obtain⟨HBy_22,qcy,qfy,hlty_22⟩:=ZF HBy_21 hb (by omega);have HK22:=Za (Kd.R_grown HK21.out hb (fun b hb e=>by injection e with e;omega));clear hr hb H21 G21 HBx_21 HBy_21))
      refine bodyPost_ret (results_cell_row rfl _ _ w.heap.size 58 #[.int .i64 3,.string ⟨#[]⟩,.slice none 0 0,.int .i64 0,.string (str (cmpOf ts x.2)),.int .i64 x.1.kind,.int .i64 x.1.n,.string x.1.s,.slice pk x.1.kids.length ck,.int .i64 x.1.at_,.int .i64 y.1.kind,.int .i64 y.1.n,.string y.1.s,.slice p2 y.1.kids.length c2,.int .i64 y.1.at_,.int .i64 ((cur ts st).at_:Int)] (0,0) _ rfl ?_ Try.underlying58 rfl (by kernel_rfl)) rfl ?_
      · exact s16_blk (((((HBx_22.out.far (p:=⟨w1.heap.size,10,none⟩) (Zf hxy) _).far (p:=⟨w1.heap.size,11,none⟩) (Zf hxy) _).far (p:=⟨w1.heap.size,12,none⟩) (Zf hxy) _).far (p:=⟨w1.heap.size,13,none⟩) (Zf hxy) _).far (p:=⟨w1.heap.size,14,none⟩) (Zf hxy) _)
      · refine⟨.slice none 0 0,.slice pk x.1.kids.length ck,.slice p2 y.1.kids.length c2,rfl,Kd.R_nil _ _ _ _ _,?_,?_,?_,?_⟩
        · exact Kd.R_mono (Kd.R_lower (s16_R (Kd.R_far (Kd.R_far (Kd.R_far (Kd.R_far (Kd.R_far HK22.out (p:=⟨w1.heap.size,10,none⟩) (fun b hb e=>by have e2:b=w1.heap.size:=e;omega) _) (p:=⟨w1.heap.size,11,none⟩) (fun b hb e=>by have e2:b=w1.heap.size:=e;omega) _) (p:=⟨w1.heap.size,12,none⟩) (fun b hb e=>by have e2:b=w1.heap.size:=e;omega) _) (p:=⟨w1.heap.size,13,none⟩) (fun b hb e=>by have e2:b=w1.heap.size:=e;omega) _) (p:=⟨w1.heap.size,14,none⟩) (fun b hb e=>by have e2:b=w1.heap.size:=e;omega) _) (fun b hb=>by omega)) (by omega)) (fun b hb=>by omega)
        · exact Kd.R_mono (Kd.R_lower (s16_R (Kd.R_far (Kd.R_far (Kd.R_far (Kd.R_far (Kd.R_far HK2.out (p:=⟨w1.heap.size,10,none⟩) (fun b hb e=>by have e2:b=w1.heap.size:=e;omega) _) (p:=⟨w1.heap.size,11,none⟩) (fun b hb e=>by have e2:b=w1.heap.size:=e;omega) _) (p:=⟨w1.heap.size,12,none⟩) (fun b hb e=>by have e2:b=w1.heap.size:=e;omega) _) (p:=⟨w1.heap.size,13,none⟩) (fun b hb e=>by have e2:b=w1.heap.size:=e;omega) _) (p:=⟨w1.heap.size,14,none⟩) (fun b hb e=>by have e2:b=w1.heap.size:=e;omega) _) (fun b hb=>by omega)) (by omega)) (fun b hb=>by omega)
        · exact s16_RS (RS.other (RS.other (RS.other (RS.other (RS.other H22.out (HX.out _ (Zd hxy)) 10 _) (HX.out _ (Zd hxy)) 11 _) (HX.out _ (Zd hxy)) 12 _) (HX.out _ (Zd hxy)) 13 _) (HX.out _ (Zd hxy)) 14 _) (HX.out _ (Zc _))
        · exact s16_gr (Zx (Zx (Zx (Zx (Zx G22.out (Zd hxy) 10 _) (Zd hxy) 11 _) (Zd hxy) 12 _) (Zd hxy) 13 _) (Zd hxy) 14 _) (Zc _)
end
end RefLitC2
end Go.Proofs.Ytddmceldglelkaa
