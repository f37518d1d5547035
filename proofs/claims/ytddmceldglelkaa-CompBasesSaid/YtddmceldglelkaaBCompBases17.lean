/- A claim's texts, in the order of what they need: RefLit, RefLitS. -/
import Derived.Test.YtddmceldglelkaaBCompBases16
import Derived.Deep.LoopGhost
set_option maxRecDepth 100000
set_option maxHeartbeats 8000000
set_option linter.unusedVariables false
set_option linter.unusedSimpArgs false
set_option linter.unusedSectionVars false
namespace Go.Proofs.Ytddmceldglelkaa
namespace RefLit
open Go Go.RowKit RefPure RefKinds RefMem RefTake RefSmall RefFields RefExprs RefExpr RefOne RefCells YtddmceldglelkaaW.PrintWords
open LexPure (T lex)
attribute [local go_sem] fld0 fld1 fld2 fld3
open RefAtom
def LitPost (w:World) (g:Nat) (v:Value) (ts:List T) (r:LitT×St) (e:Ending) (w':World):Prop:=
 ∃ va vl vr,e=.returned (.agg #[.int .i64 r.1.kind,.string r.1.atom.rel,va,.int .i64 r.1.atom.at_,.string r.1.op,.int .i64 r.1.l.kind,.int .i64 r.1.l.n,.string r.1.l.s,vl,.int .i64 r.1.l.at_,.int .i64 r.1.r.kind,.int .i64 r.1.r.n,.string r.1.r.s,vr,.int .i64 r.1.r.at_,.int .i64 r.1.at_])∧kEx.R 56 w' w.heap.size (fun b=>w.heap.size≤b) va r.1.atom.args∧kEx.R 56 w' w.heap.size (fun b=>w.heap.size≤b) vl r.1.l.kids∧kEx.R 56 w' w.heap.size (fun b=>w.heap.size≤b) vr r.1.r.kids∧RS w' g v ts r.2∧w.grownBy w' (some g)
section
variable (ts:List T)
theorem lit_not (k:Nat) (hk:k≤549755813888) (w:World) (g:Nat) (v:Value) (st:St) (r:LitT×St) (h:RS w g v ts st) (hF:lit ts k st=some r) (hy:(may ts [33] st).1=true):Calls Try.prog 75 #[.pointer (some ⟨g,0,none⟩)] w (LitPost w g v ts r):=by
 have H0:=Za h;have G0:=Za (ZL w g);have hg:=h.blk.lt;have HX:=Za (fun X (hX:w.heap.size≤X)=>h.elder hX);have HE:=Za (atom_any ts k hk);unfold lit at hF;rw[if_pos hy] at hF;obtain⟨x,hx,hr0⟩:=Zp hF;injection hr0 with hr0
 subst hr0;have HX1:Hid (atom ts k (may ts (ByteArray.mk #[33]).data.toList st).2=some x):=Za hx;have hm:(may ts (ByteArray.mk #[33]).data.toList st).1=true:=hy;clear h hF hx hk hy;go_enter Try.func75,Try.ntmps75
 go_wp2_with (first
       | (go_at_call 15;(with_reducible refine (ZK _ _ _ _ _ (H0.out.alloc _)).mono ?_);rintro e w1 ⟨rfl,hl⟩
          have hb:=Zr hl g;have hr:=(H0.out.alloc (.cells #[.int .i64 0,.string ⟨#[]⟩,.slice none 0 0,.int .i64 0,.string ⟨#[]⟩,.int .i64 0,.int .i64 0,.string ⟨#[]⟩,.slice none 0 0,.int .i64 0,.int .i64 0,.int .i64 0,.string ⟨#[]⟩,.slice none 0 0,.int .i64 0,.int .i64 0] 58)).below hl;obtain⟨H1,G1,hrl_1⟩:=st_goA (.cells #[.int .i64 1,.string ⟨#[]⟩,.slice none 0 0,.int .i64 0,.string ⟨#[]⟩,.int .i64 0,.int .i64 0,.string ⟨#[]⟩,.slice none 0 0,.int .i64 0,.int .i64 0,.int .i64 0,.string ⟨#[]⟩,.slice none 0 0,.int .i64 0,.int .i64 ((cur ts st).at_:Int)] 58) hr (ZD G0.out _) hb;obtain⟨HBx_1,qcx,qfx,hltx_1⟩:=s16_goA (.cells #[.int .i64 1,.string ⟨#[]⟩,.slice none 0 0,.int .i64 0,.string ⟨#[]⟩,.int .i64 0,.int .i64 0,.string ⟨#[]⟩,.slice none 0 0,.int .i64 0,.int .i64 0,.int .i64 0,.string ⟨#[]⟩,.slice none 0 0,.int .i64 0,.int .i64 ((cur ts st).at_:Int)] 58) (Za (Blk.new w 58 #[.int .i64 0,.string ⟨#[]⟩,.slice none 0 0,.int .i64 0,.string ⟨#[]⟩,.int .i64 0,.int .i64 0,.string ⟨#[]⟩,.slice none 0 0,.int .i64 0,.int .i64 0,.int .i64 0,.string ⟨#[]⟩,.slice none 0 0,.int .i64 0,.int .i64 0])) hb (by omega);have HBy_1:=Za (Blk.new w1 58 #[.int .i64 1,.string ⟨#[]⟩,.slice none 0 0,.int .i64 0,.string ⟨#[]⟩,.int .i64 0,.int .i64 0,.string ⟨#[]⟩,.slice none 0 0,.int .i64 0,.int .i64 0,.int .i64 0,.string ⟨#[]⟩,.slice none 0 0,.int .i64 0,.int .i64 ((cur ts st).at_:Int)]);clear hr hb hl H0 G0 )
       | (go_at_call 43;(with_reducible refine (ZQ _ _ _ _ _ _ H1.out).mono ?_);rintro e w2 ⟨rfl,hr,hb⟩
          obtain⟨H2,G2,hrl_2⟩:=ZE hr G1.out hb;obtain⟨HBx_2,qcx,qfx,hltx_2⟩:=ZF HBx_1 hb (by omega);obtain⟨HBy_2,qcy,qfy,hlty_2⟩:=ZF HBy_1 hb (by omega);clear hr hb H1 G1 HBx_1 HBy_1)
       | (go_at_call 74;(with_reducible refine (HE.out _ _ _ _ _ (RS.other H2.out (HX.out _ (Zd hltx_1)) 0 (.int .i64 2)) HX1.out).mono ?_);rintro e w3 ⟨vk,rfl,hk,hr,hb⟩
          obtain⟨pk,ck,rfl⟩:=Kd.R_slice hk;have HKA:Hid (kEx.R 56 w3 w2.heap.size (fun b=>w2.heap.size≤b) (.slice pk x.1.args.length ck) x.1.args):=Za (by simpa using hk);have hyw:w1.heap.size<w2.heap.size:=hlty_2;clear hk;obtain⟨H3,G3,hrl_3⟩:=ZE hr (Zx G2.out (Zd hltx_1) 0 (.int .i64 2)) hb;obtain⟨HBx_3,qcx,qfx,hltx_3⟩:=ZF (Za (HBx_2.out.far (p:=⟨w1.heap.size,0,none⟩) (Zf hltx_1) (.int .i64 2))) hb (by omega);obtain⟨HBy_3,qcy,qfy,hlty_3⟩:=ZF (Za (show Blk _ (w1.heap.size) 58 #[.int .i64 2,.string ⟨#[]⟩,.slice none 0 0,.int .i64 0,.string ⟨#[]⟩,.int .i64 0,.int .i64 0,.string ⟨#[]⟩,.slice none 0 0,.int .i64 0,.int .i64 0,.int .i64 0,.string ⟨#[]⟩,.slice none 0 0,.int .i64 0,.int .i64 ((cur ts st).at_:Int)] from HBy_2.out.set_ 0 (.int .i64 2))) hb (by omega);clear hr hb H2 G2 HBx_2 HBy_2))
 have hne:w.heap.size≠w1.heap.size:=(by omega);have hle:w.heap.size≤w1.heap.size:=(by omega);refine bodyPost_ret (results_cell_row rfl _ _ w.heap.size 58 #[.int .i64 2,.string x.1.rel,.slice pk x.1.args.length ck,.int .i64 x.1.at_,.string ⟨#[]⟩,.int .i64 0,.int .i64 0,.string ⟨#[]⟩,.slice none 0 0,.int .i64 0,.int .i64 0,.int .i64 0,.string ⟨#[]⟩,.slice none 0 0,.int .i64 0,.int .i64 ((cur ts st).at_:Int)] (0,0) _ rfl ?_ Try.underlying58 rfl (by kernel_rfl)) rfl ?_
 · exact s16_blk (((HBx_3.out.far (p:=⟨w1.heap.size,1,none⟩) hne _).far (p:=⟨w1.heap.size,2,none⟩) hne _).far (p:=⟨w1.heap.size,3,none⟩) hne _)
 · refine⟨.slice pk x.1.args.length ck,.slice none 0 0,.slice none 0 0,rfl,?_,Kd.R_nil _ _ _ _ _,Kd.R_nil _ _ _ _ _,?_,?_⟩
   · exact Kd.R_mono (Kd.R_lower (s16_R (Kd.R_far (Kd.R_far (Kd.R_far HKA.out (p:=⟨w1.heap.size,1,none⟩) (fun b hb e=>by have e2:b=w1.heap.size:=e;omega) _) (p:=⟨w1.heap.size,2,none⟩) (fun b hb e=>by have e2:b=w1.heap.size:=e;omega) _) (p:=⟨w1.heap.size,3,none⟩) (fun b hb e=>by have e2:b=w1.heap.size:=e;omega) _) (fun b hb=>by omega)) (by omega)) (fun b hb=>by omega)
   · exact s16_RS (RS.other (RS.other (RS.other H3.out (HX.out _ hle) 1 _) (HX.out _ hle) 2 _) (HX.out _ hle) 3 _) (HX.out _ (Zc _))
   · exact s16_gr (Zx (Zx (Zx G3.out hle 1 _) hle 2 _) hle 3 _) (Zc _)
theorem lit_atom (k:Nat) (hk:k≤549755813888) (w:World) (g:Nat) (v:Value) (st:St) (r:LitT×St) (h:RS w g v ts st) (hF:lit ts k st=some r) (hy:(may ts [33] st).1=false) (h1:(cur ts st).kind=1) (h4:(nextT ts st).kind=4) (ht:(nextT ts st).text=[40]):Calls Try.prog 75 #[.pointer (some ⟨g,0,none⟩)] w (LitPost w g v ts r):=by
 have H0:=Za h;have G0:=Za (ZL w g);have hg:=h.blk.lt;have HX:=Za (fun X (hX:w.heap.size≤X)=>h.elder hX);have HE:=Za (atom_any ts k hk);unfold lit at hF;rw[if_neg (by simp[hy]),if_pos ⟨h1,h4,ht⟩] at hF;obtain⟨x,hx,hr0⟩:=Zp hF;injection hr0 with hr0
 subst hr0;have HX1:=Za hx;have hm:(may ts (ByteArray.mk #[33]).data.toList st).1=false:=hy;have h1b:((cur ts st).kind==1)=true:=beq_iff_eq.mpr h1;have h4b:((nextT ts st).kind==4)=true:=beq_iff_eq.mpr h4;have htb:((str (nextT ts st).text).toList==ByteArray.toList ⟨#[40]⟩)=true:=(by rw[str_eq];exact Zl ht);have htc:((str (nextT ts st).text).toList==[40])=true:=(by rw[Lib.toList_data];simpa [str] using ht);clear h hF hx hk hy h1 h4 ht;go_enter Try.func75,Try.ntmps75
 go_wp2_with (first
       | (go_at_call 15;(with_reducible refine (ZK _ _ _ _ _ (H0.out.alloc _)).mono ?_);rintro e w1 ⟨rfl,hl⟩
          have hb:=Zr hl g;have hr:=(H0.out.alloc (.cells #[.int .i64 0,.string ⟨#[]⟩,.slice none 0 0,.int .i64 0,.string ⟨#[]⟩,.int .i64 0,.int .i64 0,.string ⟨#[]⟩,.slice none 0 0,.int .i64 0,.int .i64 0,.int .i64 0,.string ⟨#[]⟩,.slice none 0 0,.int .i64 0,.int .i64 0] 58)).below hl;obtain⟨H1,G1,hrl_1⟩:=st_goA (.cells #[.int .i64 1,.string ⟨#[]⟩,.slice none 0 0,.int .i64 0,.string ⟨#[]⟩,.int .i64 0,.int .i64 0,.string ⟨#[]⟩,.slice none 0 0,.int .i64 0,.int .i64 0,.int .i64 0,.string ⟨#[]⟩,.slice none 0 0,.int .i64 0,.int .i64 ((cur ts st).at_:Int)] 58) hr (ZD G0.out _) hb;obtain⟨HBx_1,qcx,qfx,hltx_1⟩:=s16_goA (.cells #[.int .i64 1,.string ⟨#[]⟩,.slice none 0 0,.int .i64 0,.string ⟨#[]⟩,.int .i64 0,.int .i64 0,.string ⟨#[]⟩,.slice none 0 0,.int .i64 0,.int .i64 0,.int .i64 0,.string ⟨#[]⟩,.slice none 0 0,.int .i64 0,.int .i64 ((cur ts st).at_:Int)] 58) (Za (Blk.new w 58 #[.int .i64 0,.string ⟨#[]⟩,.slice none 0 0,.int .i64 0,.string ⟨#[]⟩,.int .i64 0,.int .i64 0,.string ⟨#[]⟩,.slice none 0 0,.int .i64 0,.int .i64 0,.int .i64 0,.string ⟨#[]⟩,.slice none 0 0,.int .i64 0,.int .i64 0])) hb (by omega);have HBy_1:=Za (Blk.new w1 58 #[.int .i64 1,.string ⟨#[]⟩,.slice none 0 0,.int .i64 0,.string ⟨#[]⟩,.int .i64 0,.int .i64 0,.string ⟨#[]⟩,.slice none 0 0,.int .i64 0,.int .i64 0,.int .i64 0,.string ⟨#[]⟩,.slice none 0 0,.int .i64 0,.int .i64 ((cur ts st).at_:Int)]);clear hr hb hl H0 G0 )
       | (go_at_call 43;(with_reducible refine (ZQ _ _ _ _ _ _ H1.out).mono ?_);rintro e w2 ⟨rfl,hr,hb⟩
          rw[Z1 hm] at hr;obtain⟨H2,G2,hrl_2⟩:=ZE hr G1.out hb;obtain⟨HBx_2,qcx,qfx,hltx_2⟩:=ZF HBx_1 hb (by omega);obtain⟨HBy_2,qcy,qfy,hlty_2⟩:=ZF HBy_1 hb (by omega);clear hr hb H1 G1 HBx_1 HBy_1)
       | (go_at_call 15;(with_reducible refine (ZK _ _ _ _ _ H2.out).mono ?_);rintro e w3 ⟨rfl,hl⟩
          have hb:=Zr hl g;have hr:=(H2.out).below hl;obtain⟨H3,G3,hrl_3⟩:=ZE hr G2.out hb;obtain⟨HBx_3,qcx,qfx,hltx_3⟩:=ZF HBx_2 hb (by omega);obtain⟨HBy_3,qcy,qfy,hlty_3⟩:=ZF HBy_2 hb (by omega);clear hr hb hl H2 G2 HBx_2 HBy_2)
       | (go_at_call 72;(with_reducible refine (ahead_any _ _ _ _ _ H3.out).mono ?_);rintro e w4 ⟨rfl,hl⟩
          have hb:=Zr hl g;have hr:=(H3.out).below hl;obtain⟨H4,G4,hrl_4⟩:=ZE hr G3.out hb;obtain⟨HBx_4,qcx,qfx,hltx_4⟩:=ZF HBx_3 hb (by omega);obtain⟨HBy_4,qcy,qfy,hlty_4⟩:=ZF HBy_3 hb (by omega);clear hr hb hl H3 G3 HBx_3 HBy_3)
       | (go_at_call 72;(with_reducible refine (ahead_any _ _ _ _ _ H4.out).mono ?_);rintro e w5 ⟨rfl,hl⟩
          have hb:=Zr hl g;have hr:=(H4.out).below hl;obtain⟨H5,G5,hrl_5⟩:=ZE hr G4.out hb;obtain⟨HBx_5,qcx,qfx,hltx_5⟩:=ZF HBx_4 hb (by omega);obtain⟨HBy_5,qcy,qfy,hlty_5⟩:=ZF HBy_4 hb (by omega);clear hr hb hl H4 G4 HBx_4 HBy_4)
       | (go_at_call 74;(with_reducible refine (HE.out _ _ _ _ _ H5.out HX1.out).mono ?_);rintro e w6 ⟨vk,rfl,hk,hr,hb⟩
          obtain⟨pk,ck,rfl⟩:=Kd.R_slice hk;have HKA:Hid (kEx.R 56 w6 w5.heap.size (fun b=>w5.heap.size≤b) (.slice pk x.1.args.length ck) x.1.args):=Za (by simpa using hk);have hyw:w1.heap.size<w5.heap.size:=hlty_5;clear hk;obtain⟨H6,G6,hrl_6⟩:=ZE hr G5.out hb;obtain⟨HBx_6,qcx,qfx,hltx_6⟩:=ZF HBx_5 hb (by omega);obtain⟨HBy_6,qcy,qfy,hlty_6⟩:=ZF HBy_5 hb (by omega);clear hr hb H5 G5 HBx_5 HBy_5))
 have hne:w.heap.size≠w1.heap.size:=(by omega);have hle:w.heap.size≤w1.heap.size:=(by omega);refine bodyPost_ret (results_cell_row rfl _ _ w.heap.size 58 #[.int .i64 1,.string x.1.rel,.slice pk x.1.args.length ck,.int .i64 x.1.at_,.string ⟨#[]⟩,.int .i64 0,.int .i64 0,.string ⟨#[]⟩,.slice none 0 0,.int .i64 0,.int .i64 0,.int .i64 0,.string ⟨#[]⟩,.slice none 0 0,.int .i64 0,.int .i64 ((cur ts st).at_:Int)] (0,0) _ rfl ?_ Try.underlying58 rfl (by kernel_rfl)) rfl ?_
 · exact s16_blk (((HBx_6.out.far (p:=⟨w1.heap.size,1,none⟩) hne _).far (p:=⟨w1.heap.size,2,none⟩) hne _).far (p:=⟨w1.heap.size,3,none⟩) hne _)
 · refine⟨.slice pk x.1.args.length ck,.slice none 0 0,.slice none 0 0,rfl,?_,Kd.R_nil _ _ _ _ _,Kd.R_nil _ _ _ _ _,?_,?_⟩
   · exact Kd.R_mono (Kd.R_lower (s16_R (Kd.R_far (Kd.R_far (Kd.R_far HKA.out (p:=⟨w1.heap.size,1,none⟩) (fun b hb e=>by have e2:b=w1.heap.size:=e;omega) _) (p:=⟨w1.heap.size,2,none⟩) (fun b hb e=>by have e2:b=w1.heap.size:=e;omega) _) (p:=⟨w1.heap.size,3,none⟩) (fun b hb e=>by have e2:b=w1.heap.size:=e;omega) _) (fun b hb=>by omega)) (by omega)) (fun b hb=>by omega)
   · exact s16_RS (RS.other (RS.other (RS.other H6.out (HX.out _ hle) 1 _) (HX.out _ hle) 2 _) (HX.out _ hle) 3 _) (HX.out _ (Zc _))
   · exact s16_gr (Zx (Zx (Zx G6.out hle 1 _) hle 2 _) hle 3 _) (Zc _)
end
end RefLit
namespace RefLitS
open Go Go.RowKit RefPure RefKinds RefMem RefTake RefSmall RefFields RefExprs RefExpr RefOne RefCells YtddmceldglelkaaW.PrintWords
open LexPure (T lex)
attribute [local go_sem] fld0 fld1 fld2 fld3
open RefLit
section
variable (ts:List T)
def cmps:List (List UInt8):=[[61],[33,61],[60],[60,61],[62],[62,61]]
def cmpTo:Nat→St→List UInt8
 | 0,_=>[]
 | i+1,s=>if sign ts (cmps.getD i []) s=true then cmps.getD i [] else cmpTo i s
theorem cmpTo_six (s:St):cmpTo ts 6 s=cmpOf ts s:=rfl
def LRel (w:World) (g:Nat) (v:Value) (ts:List T) (X n0 S:Nat) (s:St) (e:Ex) (p:Option Addr) (c:Nat) (at_:Int) (i kq:Nat) (wi:World):Prop:=
 i+kq=6∧RS wi g v ts s∧w.grownBy wi (some g)∧Blk wi w.heap.size 58 #[.int .i64 0,.string ⟨#[]⟩,.slice none 0 0,.int .i64 0,.string ⟨#[]⟩,.int .i64 0,.int .i64 0,.string ⟨#[]⟩,.slice none 0 0,.int .i64 0,.int .i64 0,.int .i64 0,.string ⟨#[]⟩,.slice none 0 0,.int .i64 0,.int .i64 0]∧Blk wi X 58 #[.int .i64 3,.string ⟨#[]⟩,.slice none 0 0,.int .i64 0,.string (str (cmpTo ts i s)),.int .i64 e.kind,.int .i64 e.n,.string e.s,.slice p e.kids.length c,.int .i64 e.at_,.int .i64 0,.int .i64 0,.string ⟨#[]⟩,.slice none 0 0,.int .i64 0,.int .i64 at_]∧Blk wi S 9 #[.string (ByteArray.mk #[61]),.string (ByteArray.mk #[33,61]),.string (ByteArray.mk #[60]),.string (ByteArray.mk #[60,61]),.string (ByteArray.mk #[62]),.string (ByteArray.mk #[62,61])]∧kEx.R 56 wi n0 (fun b=>n0≤b) (.slice p e.kids.length c) e.kids
end
end RefLitS
end Go.Proofs.Ytddmceldglelkaa
