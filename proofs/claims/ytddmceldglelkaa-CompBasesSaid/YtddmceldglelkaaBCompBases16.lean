/- A claim's texts, in the order of what they need: RefKind, RefKindL, RefDecl, RefAtom. -/
import Derived.Test.YtddmceldglelkaaBCompBases15
import Derived.Deep.LoopGhost
set_option maxRecDepth 100000
set_option maxHeartbeats 8000000
set_option linter.unusedVariables false
set_option linter.unusedSimpArgs false
set_option linter.unusedSectionVars false
namespace Go.Proofs.Ytddmceldglelkaa
namespace RefKind
open Go Go.RowKit RefPure RefKinds RefMem RefTake RefSmall RefFields RefExprs RefExpr RefOne RefCells YtddmceldglelkaaW.PrintWords
open LexPure (T lex)
attribute [local go_sem] fld0 fld1 fld2 fld3
theorem goesOn_not {ts:List T} {first:Bool} {b:List UInt8} {s:St} (hw:well s=false):goesOn ts first b s=(false,s):=by unfold goesOn;rw[if_neg (by simp[hw])]
theorem goesOn_first {ts:List T} {b:List UInt8} {s:St} (hw:well s=true):goesOn ts true b s=(true,s):=by unfold goesOn;rw[if_pos hw,if_pos rfl]
theorem goesOn_next {ts:List T} {b:List UInt8} {s:St} (hw:well s=true):goesOn ts false b s=may ts b s:=by unfold goesOn;rw[if_pos hw,if_neg (by simp)]
section
variable (ts:List T)
theorem ctorsL_stop {k:Nat} {first:Bool} {l:List CtorT} {s:St} {b:Bool×St} (e:goesOn ts first [124] s=b) (h:b.1=false):ctorsL ts (k+1) first l s=some (l,b.2):=by rw[ctorsL,e,if_neg (by simp[h])]
theorem ctorsL_go {k:Nat} {first:Bool} {l:List CtorT} {s:St} {b:Bool×St} (e:goesOn ts first [124] s=b) (h:b.1=true):ctorsL ts (k+1) first l s =
    ((fields ts k [123] [125] (word ts b.2).2).bind fun r=>ctorsL ts k false (l++[⟨(word ts b.2).1,r.1⟩]) r.2):=by
 rw[ctorsL,e,if_pos h]
def KindPost (w:World) (g:Nat) (v:Value) (ts:List T) (r:TDecl×St) (e:Ending) (w':World):Prop:=
 ∃ vk,e=.returned (.agg #[.string r.1.name,.string r.1.sub,vk,.int .i64 r.1.at_])∧kCtor.R 114 w' w.heap.size (fun b=>w.heap.size≤b) vk r.1.ctors∧RS w' g v ts r.2∧w.grownBy w' (some g)
theorem kind_sub (k:Nat) (at_:Int) (w:World) (g:Nat) (v:Value) (st:St) (r:TDecl×St) (h:RS w g v ts st) (hF:kind ts k at_ st=some r) (hy:(may ts [60,58] (word ts st).2).1=true):Calls Try.prog 44 #[.pointer (some ⟨g,0,none⟩),.int .i64 at_] w (KindPost w g v ts r):=by
 have H0:=Za h;have G0:=Za (ZL w g);have hg:=h.blk.lt;have HX:=Za (fun X (hX:w.heap.size≤X)=>h.elder hX);unfold kind at hF;rw[if_pos hy] at hF;injection hF with hF
 subst hF;have hy2:(may ts (ByteArray.mk #[60,58]).data.toList (word ts st).2).1=true:=hy;clear h hy;go_enter Try.func44,Try.ntmps44
 go_wp2_with (first
       | (go_at_call 49;(with_reducible refine (word_any _ _ _ _ _ (H0.out.alloc _)).mono ?_);rintro e w1 ⟨rfl,hr,hb⟩
          obtain⟨H1,G1,hrl_1⟩:=st_goA (.cells #[.string (word ts st).1,.string ⟨#[]⟩,.slice none 0 0,.int .i64 at_] 73) hr (ZD G0.out _) hb;obtain⟨HBx_1,qcx,qfx,hltx_1⟩:=s4_goA (.cells #[.string (word ts st).1,.string ⟨#[]⟩,.slice none 0 0,.int .i64 at_] 73) (Za (Blk.new w 73 #[.string ⟨#[]⟩,.string ⟨#[]⟩,.slice none 0 0,.int .i64 0])) hb (by omega);have HBy_1:=Za (Blk.new w1 73 #[.string (word ts st).1,.string ⟨#[]⟩,.slice none 0 0,.int .i64 at_]);clear hr hb H0 G0 )
       | (go_at_call 43;(with_reducible refine (ZQ _ _ _ _ _ _ H1.out).mono ?_);rintro e w2 ⟨rfl,hr,hb⟩
          obtain⟨H2,G2,hrl_2⟩:=ZE hr G1.out hb;obtain⟨HBx_2,qcx,qfx,hltx_2⟩:=s4_go HBx_1 hb (by omega);obtain⟨HBy_2,qcy,qfy,hlty_2⟩:=s4_go HBy_1 hb (by omega);clear hr hb H1 G1 HBx_1 HBy_1)
       | (go_at_call 51;(with_reducible refine (name_any _ _ _ _ _ H2.out).mono ?_);rintro e w3 ⟨rfl,hr,hb⟩
          obtain⟨H3,G3,hrl_3⟩:=ZE hr G2.out hb;obtain⟨HBx_3,qcx,qfx,hltx_3⟩:=s4_go HBx_2 hb (by omega);obtain⟨HBy_3,qcy,qfy,hlty_3⟩:=s4_go HBy_2 hb (by omega);clear hr hb H2 G2 HBx_2 HBy_2))
 have hne:w.heap.size≠w1.heap.size:=(by omega);have hle:w.heap.size≤w1.heap.size:=(by omega);refine bodyPost_ret (results_cell_row rfl _ _ w.heap.size 73 #[.string (word ts st).1,.string (name ts (may ts [60,58] (word ts st).2).2).1,.slice none 0 0,.int .i64 at_] (0,0) _ rfl ?_ Try.underlying73 rfl (by kernel_rfl)) rfl ?_
 · exact s4_blk (HBx_3.out.far (p:=⟨w1.heap.size,1,none⟩) hne _)
 · refine⟨.slice none 0 0,rfl,Kd.R_nil _ _ _ _ _,?_,?_⟩
   · exact s4_RS (RS.other H3.out (HX.out _ hle) 1 _) (HX.out _ (Zc _))
   · exact s4_gr (Zx G3.out hle 1 _) (Zc _)
end
end RefKind
namespace RefKindL
open Go Go.RowKit RefPure RefKinds RefMem RefTake RefSmall RefFields RefExprs RefExpr RefOne RefCells YtddmceldglelkaaW.PrintWords
open LexPure (T lex)
attribute [local go_sem] fld0 fld1 fld2 fld3
open RefKind
theorem infoCtor:(Try.prog.info? 114).map (fun i=>(i.zero,i.size,i.bytes))=some (some (.agg #[.string ⟨#[]⟩,.slice none 0 0]),2,40):=by kernel_rfl
section
variable (ts:List T)
def CRel (w:World) (g:Nat) (v:Value) (ts:List T) (X n0 k:Nat) (r:List CtorT×St) (nm:ByteArray) (at_:Int) (kq:Nat) (first:Bool) (wr:World):Prop:=
 ∃ l s p c,ctorsL ts kq first l s=some r∧kCtor.R 114 wr n0 (fun b=>n0≤b) (.slice p l.length c) l∧RS wr g v ts s∧w.grownBy wr (some g)∧Blk wr w.heap.size 73 #[.string ⟨#[]⟩,.string ⟨#[]⟩,.slice none 0 0,.int .i64 0]∧Blk wr X 73 #[.string nm,.string ⟨#[]⟩,.slice p l.length c,.int .i64 at_]∧n0≤wr.heap.size∧l.length+kq≤k
theorem R_later {α:Type} {d:Kd α} {e n0:Nat} {wr W:World} {g:Nat} {vl:Value} {l:List α} (hO:d.R e wr n0 (fun b=>n0≤b) vl l) (hg:g<n0) (hG:wr.grownBy W (some g)):d.R e W n0 (fun b=>n0≤b) vl l:=
 Kd.R_grown hO hG (fun b hb e=>by injection e with e;omega)
theorem kind_ctors (k:Nat) (hk:k≤549755813888) (at_:Int) (w:World) (g:Nat) (v:Value) (st:St) (r:TDecl×St) (h:RS w g v ts st) (hF:kind ts k at_ st=some r) (hy:(may ts [60,58] (word ts st).2).1=false):Calls Try.prog 44 #[.pointer (some ⟨g,0,none⟩),.int .i64 at_] w (KindPost w g v ts r):=by
 have H0:=Za h;have G0:=Za (ZL w g);have hg:=h.blk.lt;have HX:=Za (fun X (hX:w.heap.size≤X)=>h.elder hX);unfold kind at hF;rw[if_neg (by simp[hy])] at hF;obtain⟨r0,hL,hr0⟩:=Zp hF;injection hr0 with hr0
 subst hr0;have HL0:=Za hL;have HK:=Za hk;have hy2:(may ts (ByteArray.mk #[60,58]).data.toList (word ts st).2).1=false:=hy;clear h hy hL hF hk;go_enter Try.func44,Try.ntmps44
 go_wp2_with (first
       | (go_at_call 49;(with_reducible refine (word_any _ _ _ _ _ (H0.out.alloc _)).mono ?_);rintro e w1 ⟨rfl,hr,hb⟩
          obtain⟨H1,G1,hrl_1⟩:=st_goA (.cells #[.string (word ts st).1,.string ⟨#[]⟩,.slice none 0 0,.int .i64 at_] 73) hr (ZD G0.out _) hb;obtain⟨HBx_1,qcx,qfx,hltx_1⟩:=s4_goA (.cells #[.string (word ts st).1,.string ⟨#[]⟩,.slice none 0 0,.int .i64 at_] 73) (Za (Blk.new w 73 #[.string ⟨#[]⟩,.string ⟨#[]⟩,.slice none 0 0,.int .i64 0])) hb (by omega);have HBy_1:=Za (Blk.new w1 73 #[.string (word ts st).1,.string ⟨#[]⟩,.slice none 0 0,.int .i64 at_]);clear hr hb H0 G0 )
       | (go_at_call 43;(with_reducible refine (ZQ _ _ _ _ _ _ H1.out).mono ?_);rintro e w2 ⟨rfl,hr,hb⟩
          obtain⟨H2,G2,hrl_2⟩:=ZE hr G1.out hb;obtain⟨HBx_2,qcx,qfx,hltx_2⟩:=s4_go HBx_1 hb (by omega);obtain⟨HBy_2,qcy,qfy,hlty_2⟩:=s4_go HBy_1 hb (by omega);clear hr hb H1 G1 HBx_1 HBy_1)
       | (go_at_call 50;(with_reducible refine (must_any _ _ _ _ _ _ H2.out).mono ?_);rintro e w3 ⟨rfl,hr,hb⟩
          obtain⟨H3,G3,hrl_3⟩:=ZE hr G2.out hb;obtain⟨HBx_3,qcx,qfx,hltx_3⟩:=s4_go HBx_2 hb (by omega);obtain⟨HBy_3,qcy,qfy,hlty_3⟩:=s4_go HBy_2 hb (by omega);clear hr hb H2 G2 HBx_2 HBy_2))
 go_loopg [6] k (fun kq v8 wr=>∃ first:Bool,v8=.bool first∧Hid (CRel w g v ts w1.heap.size (w1.heap.size+1) k r0 (word ts st).1 at_ kq first wr))
 case atStart=>exact⟨true,rfl,Za ⟨[],_,none,0,HL0.out,Kd.R_nil _ _ _ _ _,H3.out,G3.out,HBx_3.out,HBy_3.out,hlty_3,by simp⟩⟩
 case round=>
  have hxy:w.heap.size<w1.heap.size:=hltx_1;clear H3 G3 HBx_3 HBy_3;obtain⟨first,rfl,HR⟩:=hrel;obtain⟨l,s,p7,c7,hL,hO,hS,hG,hA,hB,hn0,hlk⟩:=HR.out;cases gk with
  | zero=>exact absurd hL (by simp[ctorsL])
  | succ k1=>
  have H10:=Za hS;have HG:=Za hG;have G10:=Za (ZL wr g);have HO:=Za hO;have HOW:Hid (∀ X,(Value.slice p7 l.length c7).ownBlock=some X→w1.heap.size+1≤X):=Za (fun X hX=>hO.1 X hX);have HLK:=Za hlk;have hg0:=hS.blk.lt;have HN0:=Za hn0;have hgN:g<w1.heap.size+1:=(by omega);have HBx_10:=Za hA;have HBy_10:=Za hB;have hltx_10:w.heap.size<wr.heap.size:=hA.lt;have hlty_10:w1.heap.size<wr.heap.size:=hB.lt;have qcx:=s4_cells hA;have qfx:=s4_frozen hA;have qcy:=s4_cells hB;have qfy:=s4_frozen hB;clear HR hO hS hG hA hB hlk;by_cases hw:well s=true
  · cases first with
    | true=>
      rw[ctorsL_go ts (goesOn_first hw) rfl] at hL;simp only[] at hL;obtain⟨y,hy,hL⟩:=Zp hL;obtain⟨cn,hcn⟩:∃ x,(word ts s).1=x:=⟨_,rfl⟩;rw[hcn] at hL;have HL1:=Za hL;have HY:Hid (fields ts k1 (ByteArray.mk #[123]).data.toList (ByteArray.mk #[125]).data.toList (word ts s).2=some y):=Za hy;have HCN:=Za hcn;clear hL hy hcn
      go_wp2_with (first
            | (go_at_call 17;(with_reducible refine (ZP _ _ _ _ _ true hw H10.out).mono ?_);rintro e w' ⟨rfl,rfl⟩)
            | (go_at_call 49;(with_reducible refine (word_any _ _ _ _ _ H10.out).mono ?_);rintro e w11 ⟨rfl,hr,hb⟩
               rw[HCN.out];obtain⟨H11,G11,hrl_11⟩:=st_goA (.cells #[.string cn,.slice none 0 0] 114) hr G10.out hb;obtain⟨HBx_11,qcx,qfx,hltx_11⟩:=s4_goA (.cells #[.string cn,.slice none 0 0] 114) HBx_10 hb (by omega);obtain⟨HBy_11,qcy,qfy,hlty_11⟩:=s4_goA (.cells #[.string cn,.slice none 0 0] 114) HBy_10 hb (by omega);have HBz_11:=Za (Blk.new w11 114 #[.string cn,.slice none 0 0]);have GXC:Hid (wr.heap.size≤w11.heap.size):=Za (Zs G10.out hb).size;clear hr hb H10 G10 HBx_10 HBy_10)
            | (go_at_call 71;(with_reducible refine (fields_any _ _ _ _ _ k1 _ _ y (by have:=HLK.out;have:=HK.out;omega) H11.out HY.out).mono ?_);rintro e w12 ⟨vy,rfl,hk,hr,hb⟩
               obtain⟨py,cy,rfl⟩:=Kd.R_slice hk;have HKY:=Za hk;clear hk;obtain⟨H12,G12,hrl_12⟩:=ZE hr G11.out hb;obtain⟨HBx_12,qcx,qfx,hltx_12⟩:=s4_go HBx_11 hb (by omega);obtain⟨HBy_12,qcy,qfy,hlty_12⟩:=s4_go HBy_11 hb (by omega);obtain⟨HBz_12,qcz,qfz,hltz_12⟩:=s2_go HBz_11 hb (by omega);clear hr hb H11 G11 HBx_11 HBy_11 HBz_11)
            | ((with_reducible refine ZR (b:=.append) (xs:=#[.tmp 36,.tmp 38]) rfl ?_);at_builtin
               have hxw:wr.heap.size≤w11.heap.size:=GXC.out;have HKY2:kField.R 139 w12 (w11.heap.size+1) (fun b=>w11.heap.size+1≤b) (.slice py y.1.length cy) y.1:=(by have:=HKY.out;simpa using this);have HKY3:=Kd.R_lower (Kd.R_far HKY2 (p:=⟨w11.heap.size,1,none⟩) (fun b hb e=>by have e2:b=w11.heap.size:=e;omega) (.slice py y.1.length cy)) (base':=(w1.heap.size+1)) (by omega);refine Kd.R_append kCtor (w1.heap.size+1) rfl (.tmp 36) (.tmp 38) 71 114 (.agg #[.string ⟨#[]⟩,.slice none 0 0]) 40 rfl Try.underlying71 infoCtor rfl (by decide) (by decide) (.slice p7 l.length c7) l ⟨cn,y.1⟩ [.string cn,.slice py y.1.length cy] (fun b=>(w1.heap.size+1)≤b) (fun b=>w11.heap.size+1≤b) ?a1 ?a2 (kCtor_mkM _ _ _ ⟨cn,y.1⟩ HKY3) (row_new HO.out HN0.out (by omega)) ?aF ?aO (Below.refl _ _) ?aS ?aL ?_;(try (case a1=>rfl));(try (case a2=>first|rfl|(rw[set_size];rfl)));(case aF=>exact fun X hX=>by rw[set_size] at hX;have:=HN0.out;omega)
               (case aO=>exact R_ready HO.out hgN G12.out hxw 1 _)
               (case aS=>rw[set_size];have:=HN0.out;omega)
               (case aL=>have:=HLK.out;have:=HK.out;omega)
               intro v1 wn ho hb hgr hat;obtain⟨p9,c9,rfl⟩:=Kd.R_slice ho;have HO2:=Za ho;have hBx:=(HBx_12.out.far (p:=⟨w11.heap.size,1,none⟩) (show w.heap.size≠w11.heap.size by omega) (.slice py y.1.length cy)).grown hgr (fun e=>by have:=HOW.out _ e.symm;omega);have hBy:=(HBy_12.out.far (p:=⟨w11.heap.size,1,none⟩) (show w1.heap.size≠w11.heap.size by omega) (.slice py y.1.length cy)).grown hgr (fun e=>by have:=HOW.out _ e.symm;omega);have HBx_n:=Za hBx;have HBy_n:=Za hBy;have HS2:=Za (RS.row_ (RS.other H12.out (HX.out _ (by omega)) 1 (.slice py y.1.length cy)) hgr (fun X hX=>HX.out X (by have:=HOW.out X hX;omega)));have HG2:=Za (ZX (Zx (Zs HG.out G12.out) (show w.heap.size≤w11.heap.size by omega) 1 (.slice py y.1.length cy)) hgr (fun X hX=>by have:=HOW.out X hX;omega));have qcx:=s4_cells hBx;have qfx:=s4_frozen hBx;have qcy:=s4_cells hBy;have qfy:=s4_frozen hBy;have hltx_n:w.heap.size<wn.heap.size:=hBx.lt;have hlty_n:w1.heap.size<wn.heap.size:=hBy.lt;clear ho hb hgr hat hBx hBy HO HG G12 H12 HBx_12 HBy_12))
      go_roundg k1
      case measure=>omega
      case rel=>exact⟨false,rfl,Za ⟨_,_,p9,c9,HL1.out,Kd.R_far HO2.out (p:=⟨w1.heap.size,2,none⟩) (fun b hb e=>by have e2:b=w1.heap.size:=e;omega) _,RS.other HS2.out (HX.out _ (Zd hxy)) 2 _,Zx HG2.out (Zd hxy) 2 _,HBx_n.out.far (p:=⟨w1.heap.size,2,none⟩) (Zf hxy) _,by rw[Zi];exact HBy_n.out.set_ 2 _,by rw[set_size];exact hlty_n,by have:=HLK.out;rw[Zi];simp only[Zj,Zk];omega⟩⟩
    | false=>
      by_cases hs:(may ts [124] s).1=true
      · have hs3:(may ts (ByteArray.mk #[124]).data.toList s).1=true:=hs;rw[ctorsL_go ts (goesOn_next hw) hs] at hL;obtain⟨y,hy,hL⟩:=Zp hL;obtain⟨cn,hcn⟩:∃ x,(word ts (may ts [124] s).2).1=x:=⟨_,rfl⟩;rw[hcn] at hL;have HL1:=Za hL;have HY:Hid (fields ts k1 (ByteArray.mk #[123]).data.toList (ByteArray.mk #[125]).data.toList (word ts (may ts [124] s).2).2=some y):=Za hy;have HCN:=Za hcn;clear hL hy hcn
        go_wp2_with (first
              | (go_at_call 17;(with_reducible refine (ZP _ _ _ _ _ true hw H10.out).mono ?_);rintro e w' ⟨rfl,rfl⟩)
              | (go_at_call 43;(with_reducible refine (ZQ _ _ _ _ _ _ H10.out).mono ?_);rintro e w11 ⟨rfl,hr,hb⟩
                 obtain⟨H11,G11,hrl_11⟩:=ZE hr G10.out hb;obtain⟨HBx_11,qcx,qfx,hltx_11⟩:=s4_go HBx_10 hb (by omega);obtain⟨HBy_11,qcy,qfy,hlty_11⟩:=s4_go HBy_10 hb (by omega);clear hr hb H10 G10 HBx_10 HBy_10)
              | (go_at_call 49;(with_reducible refine (word_any _ _ _ _ _ H11.out).mono ?_);rintro e w12 ⟨rfl,hr,hb⟩
                 rw[HCN.out];obtain⟨H12,G12,hrl_12⟩:=st_goA (.cells #[.string cn,.slice none 0 0] 114) hr G11.out hb;obtain⟨HBx_12,qcx,qfx,hltx_12⟩:=s4_goA (.cells #[.string cn,.slice none 0 0] 114) HBx_11 hb (by omega);obtain⟨HBy_12,qcy,qfy,hlty_12⟩:=s4_goA (.cells #[.string cn,.slice none 0 0] 114) HBy_11 hb (by omega);have HBz_12:=Za (Blk.new w12 114 #[.string cn,.slice none 0 0]);have GXC:Hid (wr.heap.size≤w12.heap.size):=Za (Zs G11.out hb).size;clear hr hb H11 G11 HBx_11 HBy_11)
              | (go_at_call 71;(with_reducible refine (fields_any _ _ _ _ _ k1 _ _ y (by have:=HLK.out;have:=HK.out;omega) H12.out HY.out).mono ?_);rintro e w13 ⟨vy,rfl,hk,hr,hb⟩
                 obtain⟨py,cy,rfl⟩:=Kd.R_slice hk;have HKY:=Za hk;clear hk;obtain⟨H13,G13,hrl_13⟩:=ZE hr G12.out hb;obtain⟨HBx_13,qcx,qfx,hltx_13⟩:=s4_go HBx_12 hb (by omega);obtain⟨HBy_13,qcy,qfy,hlty_13⟩:=s4_go HBy_12 hb (by omega);obtain⟨HBz_13,qcz,qfz,hltz_13⟩:=s2_go HBz_12 hb (by omega);clear hr hb H12 G12 HBx_12 HBy_12 HBz_12)
              | ((with_reducible refine ZR (b:=.append) (xs:=#[.tmp 36,.tmp 38]) rfl ?_);at_builtin
                 have hxw:wr.heap.size≤w12.heap.size:=GXC.out;have HKY2:kField.R 139 w13 (w12.heap.size+1) (fun b=>w12.heap.size+1≤b) (.slice py y.1.length cy) y.1:=(by have:=HKY.out;simpa using this);have HKY3:=Kd.R_lower (Kd.R_far HKY2 (p:=⟨w12.heap.size,1,none⟩) (fun b hb e=>by have e2:b=w12.heap.size:=e;omega) (.slice py y.1.length cy)) (base':=(w1.heap.size+1)) (by omega);refine Kd.R_append kCtor (w1.heap.size+1) rfl (.tmp 36) (.tmp 38) 71 114 (.agg #[.string ⟨#[]⟩,.slice none 0 0]) 40 rfl Try.underlying71 infoCtor rfl (by decide) (by decide) (.slice p7 l.length c7) l ⟨cn,y.1⟩ [.string cn,.slice py y.1.length cy] (fun b=>(w1.heap.size+1)≤b) (fun b=>w12.heap.size+1≤b) ?a1 ?a2 (kCtor_mkM _ _ _ ⟨cn,y.1⟩ HKY3) (row_new HO.out HN0.out (by omega)) ?aF ?aO (Below.refl _ _) ?aS ?aL ?_;(try (case a1=>rfl));(try (case a2=>first|rfl|(rw[set_size];rfl)));(case aF=>exact fun X hX=>by rw[set_size] at hX;have:=HN0.out;omega)
                 (case aO=>exact R_ready HO.out hgN G13.out hxw 1 _)
                 (case aS=>rw[set_size];have:=HN0.out;omega)
                 (case aL=>have:=HLK.out;have:=HK.out;omega)
                 intro v1 wn ho hb hgr hat;obtain⟨p9,c9,rfl⟩:=Kd.R_slice ho;have HO2:=Za ho;have hBx:=(HBx_13.out.far (p:=⟨w12.heap.size,1,none⟩) (show w.heap.size≠w12.heap.size by omega) (.slice py y.1.length cy)).grown hgr (fun e=>by have:=HOW.out _ e.symm;omega);have hBy:=(HBy_13.out.far (p:=⟨w12.heap.size,1,none⟩) (show w1.heap.size≠w12.heap.size by omega) (.slice py y.1.length cy)).grown hgr (fun e=>by have:=HOW.out _ e.symm;omega);have HBx_n:=Za hBx;have HBy_n:=Za hBy;have HS2:=Za (RS.row_ (RS.other H13.out (HX.out _ (by omega)) 1 (.slice py y.1.length cy)) hgr (fun X hX=>HX.out X (by have:=HOW.out X hX;omega)));have HG2:=Za (ZX (Zx (Zs HG.out G13.out) (show w.heap.size≤w12.heap.size by omega) 1 (.slice py y.1.length cy)) hgr (fun X hX=>by have:=HOW.out X hX;omega));have qcx:=s4_cells hBx;have qfx:=s4_frozen hBx;have qcy:=s4_cells hBy;have qfy:=s4_frozen hBy;have hltx_n:w.heap.size<wn.heap.size:=hBx.lt;have hlty_n:w1.heap.size<wn.heap.size:=hBy.lt;clear ho hb hgr hat hBx hBy HO HG G13 H13 HBx_13 HBy_13))
        go_roundg k1
        case measure=>omega
        case rel=>exact⟨false,rfl,Za ⟨_,_,p9,c9,HL1.out,Kd.R_far HO2.out (p:=⟨w1.heap.size,2,none⟩) (fun b hb e=>by have e2:b=w1.heap.size:=e;omega) _,RS.other HS2.out (HX.out _ (Zd hxy)) 2 _,Zx HG2.out (Zd hxy) 2 _,HBx_n.out.far (p:=⟨w1.heap.size,2,none⟩) (Zf hxy) _,by rw[Zi];exact HBy_n.out.set_ 2 _,by rw[set_size];exact hlty_n,by have:=HLK.out;rw[Zi];simp only[Zj,Zk];omega⟩⟩
      · have hs2:(may ts [124] s).1=false:=(by simpa using hs);have hs3:(may ts (ByteArray.mk #[124]).data.toList s).1=false:=hs2;rw[ctorsL_stop ts (goesOn_next hw) hs2] at hL;injection hL with hL
        subst hL;clear HLK
        go_wp2_with (first
              | (go_at_call 17;(with_reducible refine (ZP _ _ _ _ _ true hw H10.out).mono ?_);rintro e w' ⟨rfl,rfl⟩)
              | (go_at_call 43;(with_reducible refine (ZQ _ _ _ _ _ _ H10.out).mono ?_);rintro e w11 ⟨rfl,hr,hb⟩
                 obtain⟨H11,G11,hrl_11⟩:=ZE hr G10.out hb;obtain⟨HBx_11,qcx,qfx,hltx_11⟩:=s4_go HBx_10 hb (by omega);obtain⟨HBy_11,qcy,qfy,hlty_11⟩:=s4_go HBy_10 hb (by omega);clear hr hb H10 G10 HBx_10 HBy_10))
        refine bodyPost_ret (results_cell_row rfl _ _ w.heap.size 73 #[.string (word ts st).1,.string ⟨#[]⟩,.slice p7 l.length c7,.int .i64 at_] (0,0) _ rfl ?_ Try.underlying73 rfl (by kernel_rfl)) rfl ?_
        · exact s4_blk HBx_11.out
        · refine⟨_,rfl,?_,?_,?_⟩
          · exact Kd.R_mono (Kd.R_lower (s4_R (R_later HO.out hgN G11.out) (fun b hb=>by omega)) (by omega)) (fun b hb=>by omega)
          · exact s4_RS H11.out (HX.out _ (Zc _))
          · exact s4_gr (Zs HG.out G11.out) (Zc _)
  · have hw2:well s=false:=(by simpa using hw);rw[ctorsL_stop ts (goesOn_not hw2) rfl] at hL;injection hL with hL
    subst hL;clear HLK
    go_wp2_with (first
          | (go_at_call 17;(with_reducible refine (ZP _ _ _ _ _ false hw2 H10.out).mono ?_);rintro e w' ⟨rfl,rfl⟩))
    refine bodyPost_ret (results_cell_row rfl _ _ w.heap.size 73 #[.string (word ts st).1,.string ⟨#[]⟩,.slice p7 l.length c7,.int .i64 at_] (0,0) _ rfl ?_ Try.underlying73 rfl (by kernel_rfl)) rfl ?_
    · exact s4_blk HBx_10.out
    · refine⟨_,rfl,?_,?_,?_⟩
      · exact Kd.R_mono (Kd.R_lower (s4_R (R_later HO.out hgN G10.out) (fun b hb=>by omega)) (by omega)) (fun b hb=>by omega)
      · exact s4_RS H10.out (HX.out _ (Zc _))
      · exact s4_gr (Zs HG.out G10.out) (Zc _)
end
end RefKindL
namespace RefDecl
open Go Go.RowKit RefPure RefKinds RefMem RefTake RefSmall RefFields RefExprs RefExpr RefOne RefCells YtddmceldglelkaaW.PrintWords
open LexPure (T lex)
attribute [local go_sem] fld0 fld1 fld2 fld3
section
variable (ts:List T)
theorem declL_stop {k:Nat} {d:DeclT} {s:St} (h:ioGoes ts s=false):declL ts (k+1) d s=some (d,s):=by rw[declL,if_neg (by simp[h])]
theorem declL_in {k:Nat} {d:DeclT} {s:St} (h:ioGoes ts s=true) (e:(cur ts s).text=inp):declL ts (k+1) d s=declL ts k { d with input:=true } (take ts s).2:=by rw[declL,if_pos h,if_pos (show (take ts s).1.text=inp from e)]
theorem declL_out {k:Nat} {d:DeclT} {s:St} (h:ioGoes ts s=true) (e:¬(cur ts s).text=inp):declL ts (k+1) d s=declL ts k { d with output:=true } (take ts s).2:=by rw[declL,if_pos h,if_neg (show ¬(take ts s).1.text=inp from e)]
def DeclPost (w:World) (g:Nat) (v:Value) (ts:List T) (r:DeclT×St) (e:Ending) (w':World):Prop:=
 ∃ vk,e=.returned (.agg #[.string r.1.name,vk,.bool r.1.input,.bool r.1.output,.int .i64 r.1.at_])∧kField.R 139 w' w.heap.size (fun b=>w.heap.size≤b) vk r.1.cols∧RS w' g v ts r.2∧w.grownBy w' (some g)
def DRel (w:World) (g:Nat) (v:Value) (ts:List T) (X n0 k:Nat) (r:DeclT×St) (p:Option Addr) (c:Nat) (kq:Nat) (wr:World):Prop:=
 ∃ d s,declL ts kq d s=some r∧kField.R 139 wr n0 (fun b=>n0≤b) (.slice p d.cols.length c) d.cols∧RS wr g v ts s∧w.grownBy wr (some g)∧Blk wr w.heap.size 46 #[.string ⟨#[]⟩,.slice none 0 0,.bool false,.bool false,.int .i64 0]∧Blk wr X 46 #[.string d.name,.slice p d.cols.length c,.bool d.input,.bool d.output,.int .i64 d.at_]∧n0≤wr.heap.size∧kq≤k
theorem decl_any (k:Nat) (hk:k≤549755813888) (at_:Int) (w:World) (g:Nat) (v:Value) (st:St) (r:DeclT×St) (h:RS w g v ts st) (hF:decl ts k at_ st=some r):Calls Try.prog 45 #[.pointer (some ⟨g,0,none⟩),.int .i64 at_] w (DeclPost w g v ts r):=by
 have H0:=Za h;have G0:=Za (ZL w g);have hg:=h.blk.lt;have HX:=Za (fun X (hX:w.heap.size≤X)=>h.elder hX);unfold decl at hF;obtain⟨y,hy,hL⟩:=Zp hF;have HL0:=Za hL;have HK:=Za hk;have HY:Hid (fields ts k (ByteArray.mk #[40]).data.toList (ByteArray.mk #[41]).data.toList (word ts st).2=some y):=Za hy;clear h hy hL hF hk;go_enter Try.func45,Try.ntmps45
 go_wp2_with (first
       | (go_at_call 49;(with_reducible refine (word_any _ _ _ _ _ (H0.out.alloc _)).mono ?_);rintro e w1 ⟨rfl,hr,hb⟩
          obtain⟨H1,G1,hrl_1⟩:=st_goA (.cells #[.string (word ts st).1,.slice none 0 0,.bool false,.bool false,.int .i64 at_] 46) hr (ZD G0.out _) hb;obtain⟨HBx_1,qcx,qfx,hltx_1⟩:=s5_goA (.cells #[.string (word ts st).1,.slice none 0 0,.bool false,.bool false,.int .i64 at_] 46) (Za (Blk.new w 46 #[.string ⟨#[]⟩,.slice none 0 0,.bool false,.bool false,.int .i64 0])) hb (by omega);have HBy_1:=Za (Blk.new w1 46 #[.string (word ts st).1,.slice none 0 0,.bool false,.bool false,.int .i64 at_]);clear hr hb H0 G0 )
       | (go_at_call 71;(with_reducible refine (fields_any _ _ _ _ _ k _ _ y HK.out H1.out HY.out).mono ?_);rintro e w2 ⟨vy,rfl,hk,hr,hb⟩
          obtain⟨py,cy,rfl⟩:=Kd.R_slice hk;have HKY:=Za hk;clear hk;obtain⟨H2,G2,hrl_2⟩:=ZE hr G1.out hb;obtain⟨HBx_2,qcx,qfx,hltx_2⟩:=ZB HBx_1 hb (by omega);obtain⟨HBy_2,qcy,qfy,hlty_2⟩:=ZB HBy_1 hb (by omega);clear hr hb H1 G1 HBx_1 HBy_1))
 have hxy:w.heap.size<w1.heap.size:=hltx_1;have HKY2:Hid (kField.R 139 w2 (w1.heap.size+1) (fun b=>w1.heap.size+1≤b) (.slice py y.1.length cy) y.1):=Za (by have:=HKY.out;simpa using this);go_loopg [] k (fun kq wr=>Hid (DRel w g v ts w1.heap.size (w1.heap.size+1) k r py cy kq wr))
 case atStart=>exact Za ⟨⟨(word ts st).1,y.1,false,false,at_⟩,y.2,HL0.out,Kd.R_far HKY2.out (p:=⟨w1.heap.size,1,none⟩) (fun b hb e=>by have e2:b=w1.heap.size:=e;omega) _,RS.other H2.out (HX.out _ (Zd hxy)) 1 _,Zx G2.out (Zd hxy) 1 _,HBx_2.out.far (p:=⟨w1.heap.size,1,none⟩) (Zf hxy) _,HBy_2.out.set_ 1 _,by rw[set_size];exact hlty_2,Zc _⟩
 case round=>
  clear H2 G2 HBx_2 HBy_2 HKY HKY2;obtain⟨d,s,hL,hO,hS,hG,hA,hB,hn0,hlk⟩:=hrel.out;generalize py=p at *;generalize cy=c at *;cases gk with
  | zero=>exact absurd hL (by simp[declL])
  | succ k1=>
  have H10:=Za hS;have HG:=Za hG;have G10:=Za (ZL wr g);have HO:=Za hO;have HLK:=Za hlk;have hg0:=hS.blk.lt;have HN0:=Za hn0;have hgN:g<w1.heap.size+1:=(by omega);have HBx_10:=Za hA;have HBy_10:=Za hB;have hltx_10:w.heap.size<wr.heap.size:=hA.lt;have hlty_10:w1.heap.size<wr.heap.size:=hB.lt;have qcx:=Zt hA;have qfx:=Zz hA;have qcy:=Zt hB;have qfy:=Zz hB;clear hrel hO hS hG hA hB hlk;by_cases hw:well s=true
  · by_cases hk:(cur ts s).kind=1
    · have hkb:((cur ts s).kind==1)=true:=beq_iff_eq.mpr hk;by_cases hin:(cur ts s).text=inp
      · have hinb:((str ((cur ts s)).text).toList==ByteArray.toList ⟨#[105,110,112,117,116]⟩)=true:=(by rw[str_eq];exact Zl hin);have hinc:((str ((cur ts s)).text).toList==[105,110,112,117,116])=true:=(by rw[Lib.toList_data];simpa [str] using (show ((cur ts s)).text=[105,110,112,117,116] from hin));by_cases hnk:(nextT ts s).kind=4
        · have hnkb:((nextT ts s).kind==4)=true:=beq_iff_eq.mpr hnk;by_cases hnt:(nextT ts s).text=[40]
          · have hio:ioGoes ts s=false:=(by simp[ioGoes,hw,hk,hnk,hnt]);have hntb:((str ((nextT ts s)).text).toList==ByteArray.toList ⟨#[40]⟩)=true:=(by rw[str_eq];exact Zl hnt);have hntc:((str ((nextT ts s)).text).toList==[40])=true:=(by rw[Lib.toList_data];simpa [str] using hnt);clear hin hnk hnt;rw[declL_stop ts hio] at hL;injection hL with hL
            subst hL;clear HLK hio
            go_wp2_with (first
                  | (go_at_call 17;(with_reducible refine (ZP _ _ _ _ _ true hw H10.out).mono ?_);rintro e w' ⟨rfl,rfl⟩)
                  | (go_at_call 15;(with_reducible refine (ZK _ _ _ _ _ H10.out).mono ?_);rintro e w11 ⟨rfl,hl⟩
                     have hb:=Zr hl g;have hr:=(H10.out).below hl;obtain⟨H11,G11,hrl_11⟩:=ZE hr G10.out hb;obtain⟨HBx_11,qcx,qfx,hltx_11⟩:=ZB HBx_10 hb (by omega);obtain⟨HBy_11,qcy,qfy,hlty_11⟩:=ZB HBy_10 hb (by omega);clear hr hb hl H10 G10 HBx_10 HBy_10)
                  | (go_at_call 15;(with_reducible refine (ZK _ _ _ _ _ H11.out).mono ?_);rintro e w12 ⟨rfl,hl⟩
                     have hb:=Zr hl g;have hr:=(H11.out).below hl;obtain⟨H12,G12,hrl_12⟩:=ZE hr G11.out hb;obtain⟨HBx_12,qcx,qfx,hltx_12⟩:=ZB HBx_11 hb (by omega);obtain⟨HBy_12,qcy,qfy,hlty_12⟩:=ZB HBy_11 hb (by omega);clear hr hb hl H11 G11 HBx_11 HBy_11)
                  | (go_at_call 72;(with_reducible refine (ahead_any _ _ _ _ _ H12.out).mono ?_);rintro e w13 ⟨rfl,hl⟩
                     have hb:=Zr hl g;have hr:=(H12.out).below hl;obtain⟨H13,G13,hrl_13⟩:=ZE hr G12.out hb;obtain⟨HBx_13,qcx,qfx,hltx_13⟩:=ZB HBx_12 hb (by omega);obtain⟨HBy_13,qcy,qfy,hlty_13⟩:=ZB HBy_12 hb (by omega);clear hr hb hl H12 G12 HBx_12 HBy_12)
                  | (go_at_call 72;(with_reducible refine (ahead_any _ _ _ _ _ H13.out).mono ?_);rintro e w14 ⟨rfl,hl⟩
                     have hb:=Zr hl g;have hr:=(H13.out).below hl;obtain⟨H14,G14,hrl_14⟩:=ZE hr G13.out hb;obtain⟨HBx_14,qcx,qfx,hltx_14⟩:=ZB HBx_13 hb (by omega);obtain⟨HBy_14,qcy,qfy,hlty_14⟩:=ZB HBy_13 hb (by omega);clear hr hb hl H13 G13 HBx_13 HBy_13))
            refine bodyPost_ret (results_cell_row rfl _ _ w.heap.size 46 #[.string d.name,.slice p d.cols.length c,.bool d.input,.bool d.output,.int .i64 d.at_] (0,0) _ rfl ?_ Try.underlying46 rfl (by kernel_rfl)) rfl ?_
            · exact ZS HBx_14.out
            · refine⟨_,rfl,?_,?_,?_⟩
              · exact Kd.R_mono (Kd.R_lower (five_R (Kd.R_grown HO.out G14.out (fun b hb e=>by injection e with e;omega)) (fun b hb=>by omega)) (by omega)) (fun b hb=>by omega)
              · exact ZZ H14.out (HX.out _ (Zc _))
              · exact ZY (Zs HG.out G14.out) (Zc _)
          · have hio:ioGoes ts s=true:=(by simp[ioGoes,hw,hk,hnt,hin]);have hntb:((str ((nextT ts s)).text).toList==ByteArray.toList ⟨#[40]⟩)=false:=(by rw[str_eq];exact Zm hnt);have hntc:((str ((nextT ts s)).text).toList==[40])=false:=(by rw[Lib.toList_data];simpa [str] using hnt);clear hnk hnt;rw[declL_in ts hio hin] at hL;have HL1:=Za hL;clear hL hio hin
            go_wp2_with (first
                  | (go_at_call 17;(with_reducible refine (ZP _ _ _ _ _ true hw H10.out).mono ?_);rintro e w' ⟨rfl,rfl⟩)
                  | (go_at_call 15;(with_reducible refine (ZK _ _ _ _ _ H10.out).mono ?_);rintro e w11 ⟨rfl,hl⟩
                     have hb:=Zr hl g;have hr:=(H10.out).below hl;obtain⟨H11,G11,hrl_11⟩:=ZE hr G10.out hb;obtain⟨HBx_11,qcx,qfx,hltx_11⟩:=ZB HBx_10 hb (by omega);obtain⟨HBy_11,qcy,qfy,hlty_11⟩:=ZB HBy_10 hb (by omega);clear hr hb hl H10 G10 HBx_10 HBy_10)
                  | (go_at_call 15;(with_reducible refine (ZK _ _ _ _ _ H11.out).mono ?_);rintro e w12 ⟨rfl,hl⟩
                     have hb:=Zr hl g;have hr:=(H11.out).below hl;obtain⟨H12,G12,hrl_12⟩:=ZE hr G11.out hb;obtain⟨HBx_12,qcx,qfx,hltx_12⟩:=ZB HBx_11 hb (by omega);obtain⟨HBy_12,qcy,qfy,hlty_12⟩:=ZB HBy_11 hb (by omega);clear hr hb hl H11 G11 HBx_11 HBy_11)
                  | (go_at_call 72;(with_reducible refine (ahead_any _ _ _ _ _ H12.out).mono ?_);rintro e w13 ⟨rfl,hl⟩
                     have hb:=Zr hl g;have hr:=(H12.out).below hl;obtain⟨H13,G13,hrl_13⟩:=ZE hr G12.out hb;obtain⟨HBx_13,qcx,qfx,hltx_13⟩:=ZB HBx_12 hb (by omega);obtain⟨HBy_13,qcy,qfy,hlty_13⟩:=ZB HBy_12 hb (by omega);clear hr hb hl H12 G12 HBx_12 HBy_12)
                  | (go_at_call 72;(with_reducible refine (ahead_any _ _ _ _ _ H13.out).mono ?_);rintro e w14 ⟨rfl,hl⟩
                     have hb:=Zr hl g;have hr:=(H13.out).below hl;obtain⟨H14,G14,hrl_14⟩:=ZE hr G13.out hb;obtain⟨HBx_14,qcx,qfx,hltx_14⟩:=ZB HBx_13 hb (by omega);obtain⟨HBy_14,qcy,qfy,hlty_14⟩:=ZB HBy_13 hb (by omega);clear hr hb hl H13 G13 HBx_13 HBy_13)
                  | (go_at_call 47;(with_reducible refine (Z4 _ _ _ _ _ H14.out).mono ?_);rintro e w15 ⟨rfl,hr,hb⟩
                     obtain⟨H15,G15,hrl_15⟩:=ZE hr G14.out hb;obtain⟨HBx_15,qcx,qfx,hltx_15⟩:=ZB HBx_14 hb (by omega);obtain⟨HBy_15,qcy,qfy,hlty_15⟩:=ZB HBy_14 hb (by omega);clear hr hb H14 G14 HBx_14 HBy_14))
            go_roundg k1
            case measure=>omega
            case rel=>exact Za ⟨_,_,HL1.out,Kd.R_far (Kd.R_grown HO.out G15.out (fun b hb e=>by injection e with e;omega)) (p:=⟨w1.heap.size,2,none⟩) (fun b hb e=>by have e2:b=w1.heap.size:=e;omega) _,RS.other H15.out (HX.out _ (Zd hxy)) 2 _,Zx (Zs HG.out G15.out) (Zd hxy) 2 _,HBx_15.out.far (p:=⟨w1.heap.size,2,none⟩) (Zf hxy) _,HBy_15.out.set_ 2 _,by rw[set_size];exact hlty_15,by have:=HLK.out;omega⟩
        · have hnkb:((nextT ts s).kind==4)=false:=Zo hnk;have hio:ioGoes ts s=true:=(by simp[ioGoes,hw,hk,hnk,hin]);clear hnk;rw[declL_in ts hio hin] at hL;have HL1:=Za hL;clear hL hio hin
          go_wp2_with (first
                | (go_at_call 17;(with_reducible refine (ZP _ _ _ _ _ true hw H10.out).mono ?_);rintro e w' ⟨rfl,rfl⟩)
                | (go_at_call 15;(with_reducible refine (ZK _ _ _ _ _ H10.out).mono ?_);rintro e w11 ⟨rfl,hl⟩
                   have hb:=Zr hl g;have hr:=(H10.out).below hl;obtain⟨H11,G11,hrl_11⟩:=ZE hr G10.out hb;obtain⟨HBx_11,qcx,qfx,hltx_11⟩:=ZB HBx_10 hb (by omega);obtain⟨HBy_11,qcy,qfy,hlty_11⟩:=ZB HBy_10 hb (by omega);clear hr hb hl H10 G10 HBx_10 HBy_10)
                | (go_at_call 15;(with_reducible refine (ZK _ _ _ _ _ H11.out).mono ?_);rintro e w12 ⟨rfl,hl⟩
                   have hb:=Zr hl g;have hr:=(H11.out).below hl;obtain⟨H12,G12,hrl_12⟩:=ZE hr G11.out hb;obtain⟨HBx_12,qcx,qfx,hltx_12⟩:=ZB HBx_11 hb (by omega);obtain⟨HBy_12,qcy,qfy,hlty_12⟩:=ZB HBy_11 hb (by omega);clear hr hb hl H11 G11 HBx_11 HBy_11)
                | (go_at_call 72;(with_reducible refine (ahead_any _ _ _ _ _ H12.out).mono ?_);rintro e w13 ⟨rfl,hl⟩
                   have hb:=Zr hl g;have hr:=(H12.out).below hl;obtain⟨H13,G13,hrl_13⟩:=ZE hr G12.out hb;obtain⟨HBx_13,qcx,qfx,hltx_13⟩:=ZB HBx_12 hb (by omega);obtain⟨HBy_13,qcy,qfy,hlty_13⟩:=ZB HBy_12 hb (by omega);clear hr hb hl H12 G12 HBx_12 HBy_12)
                | (go_at_call 47;(with_reducible refine (Z4 _ _ _ _ _ H13.out).mono ?_);rintro e w14 ⟨rfl,hr,hb⟩
                   obtain⟨H14,G14,hrl_14⟩:=ZE hr G13.out hb;obtain⟨HBx_14,qcx,qfx,hltx_14⟩:=ZB HBx_13 hb (by omega);obtain⟨HBy_14,qcy,qfy,hlty_14⟩:=ZB HBy_13 hb (by omega);clear hr hb H13 G13 HBx_13 HBy_13))
          go_roundg k1
          case measure=>omega
          case rel=>exact Za ⟨_,_,HL1.out,Kd.R_far (Kd.R_grown HO.out G14.out (fun b hb e=>by injection e with e;omega)) (p:=⟨w1.heap.size,2,none⟩) (fun b hb e=>by have e2:b=w1.heap.size:=e;omega) _,RS.other H14.out (HX.out _ (Zd hxy)) 2 _,Zx (Zs HG.out G14.out) (Zd hxy) 2 _,HBx_14.out.far (p:=⟨w1.heap.size,2,none⟩) (Zf hxy) _,HBy_14.out.set_ 2 _,by rw[set_size];exact hlty_14,by have:=HLK.out;omega⟩
      · have hnin:=hin;clear hin;have hninb:((str ((cur ts s)).text).toList==ByteArray.toList ⟨#[105,110,112,117,116]⟩)=false:=(by rw[str_eq];exact Zm hnin);have hninc:((str ((cur ts s)).text).toList==[105,110,112,117,116])=false:=(by rw[Lib.toList_data];simpa [str] using (show ¬((cur ts s)).text=[105,110,112,117,116] from hnin));by_cases hou:(cur ts s).text=outp
        · have houb:((str ((cur ts s)).text).toList==ByteArray.toList ⟨#[111,117,116,112,117,116]⟩)=true:=(by rw[str_eq];exact Zl hou);have houc:((str ((cur ts s)).text).toList==[111,117,116,112,117,116])=true:=(by rw[Lib.toList_data];simpa [str] using (show ((cur ts s)).text=[111,117,116,112,117,116] from hou));by_cases hnk:(nextT ts s).kind=4
          · have hnkb:((nextT ts s).kind==4)=true:=beq_iff_eq.mpr hnk;by_cases hnt:(nextT ts s).text=[40]
            · have hio:ioGoes ts s=false:=(by simp[ioGoes,hw,hk,hnk,hnt]);have hntb:((str ((nextT ts s)).text).toList==ByteArray.toList ⟨#[40]⟩)=true:=(by rw[str_eq];exact Zl hnt);have hntc:((str ((nextT ts s)).text).toList==[40])=true:=(by rw[Lib.toList_data];simpa [str] using hnt);clear hnin hou hnk hnt;rw[declL_stop ts hio] at hL;injection hL with hL
              subst hL;clear HLK hio
              go_wp2_with (first
                    | (go_at_call 17;(with_reducible refine (ZP _ _ _ _ _ true hw H10.out).mono ?_);rintro e w' ⟨rfl,rfl⟩)
                    | (go_at_call 15;(with_reducible refine (ZK _ _ _ _ _ H10.out).mono ?_);rintro e w11 ⟨rfl,hl⟩
                       have hb:=Zr hl g;have hr:=(H10.out).below hl;obtain⟨H11,G11,hrl_11⟩:=ZE hr G10.out hb;obtain⟨HBx_11,qcx,qfx,hltx_11⟩:=ZB HBx_10 hb (by omega);obtain⟨HBy_11,qcy,qfy,hlty_11⟩:=ZB HBy_10 hb (by omega);clear hr hb hl H10 G10 HBx_10 HBy_10)
                    | (go_at_call 15;(with_reducible refine (ZK _ _ _ _ _ H11.out).mono ?_);rintro e w12 ⟨rfl,hl⟩
                       have hb:=Zr hl g;have hr:=(H11.out).below hl;obtain⟨H12,G12,hrl_12⟩:=ZE hr G11.out hb;obtain⟨HBx_12,qcx,qfx,hltx_12⟩:=ZB HBx_11 hb (by omega);obtain⟨HBy_12,qcy,qfy,hlty_12⟩:=ZB HBy_11 hb (by omega);clear hr hb hl H11 G11 HBx_11 HBy_11)
                    | (go_at_call 15;(with_reducible refine (ZK _ _ _ _ _ H12.out).mono ?_);rintro e w13 ⟨rfl,hl⟩
                       have hb:=Zr hl g;have hr:=(H12.out).below hl;obtain⟨H13,G13,hrl_13⟩:=ZE hr G12.out hb;obtain⟨HBx_13,qcx,qfx,hltx_13⟩:=ZB HBx_12 hb (by omega);obtain⟨HBy_13,qcy,qfy,hlty_13⟩:=ZB HBy_12 hb (by omega);clear hr hb hl H12 G12 HBx_12 HBy_12)
                    | (go_at_call 72;(with_reducible refine (ahead_any _ _ _ _ _ H13.out).mono ?_);rintro e w14 ⟨rfl,hl⟩
                       have hb:=Zr hl g;have hr:=(H13.out).below hl;obtain⟨H14,G14,hrl_14⟩:=ZE hr G13.out hb;obtain⟨HBx_14,qcx,qfx,hltx_14⟩:=ZB HBx_13 hb (by omega);obtain⟨HBy_14,qcy,qfy,hlty_14⟩:=ZB HBy_13 hb (by omega);clear hr hb hl H13 G13 HBx_13 HBy_13)
                    | (go_at_call 72;(with_reducible refine (ahead_any _ _ _ _ _ H14.out).mono ?_);rintro e w15 ⟨rfl,hl⟩
                       have hb:=Zr hl g;have hr:=(H14.out).below hl;obtain⟨H15,G15,hrl_15⟩:=ZE hr G14.out hb;obtain⟨HBx_15,qcx,qfx,hltx_15⟩:=ZB HBx_14 hb (by omega);obtain⟨HBy_15,qcy,qfy,hlty_15⟩:=ZB HBy_14 hb (by omega);clear hr hb hl H14 G14 HBx_14 HBy_14))
              refine bodyPost_ret (results_cell_row rfl _ _ w.heap.size 46 #[.string d.name,.slice p d.cols.length c,.bool d.input,.bool d.output,.int .i64 d.at_] (0,0) _ rfl ?_ Try.underlying46 rfl (by kernel_rfl)) rfl ?_
              · exact ZS HBx_15.out
              · refine⟨_,rfl,?_,?_,?_⟩
                · exact Kd.R_mono (Kd.R_lower (five_R (Kd.R_grown HO.out G15.out (fun b hb e=>by injection e with e;omega)) (fun b hb=>by omega)) (by omega)) (fun b hb=>by omega)
                · exact ZZ H15.out (HX.out _ (Zc _))
                · exact ZY (Zs HG.out G15.out) (Zc _)
            · have hio:ioGoes ts s=true:=(by simp[ioGoes,hw,hk,hnt,hou]);have hntb:((str ((nextT ts s)).text).toList==ByteArray.toList ⟨#[40]⟩)=false:=(by rw[str_eq];exact Zm hnt);have hntc:((str ((nextT ts s)).text).toList==[40])=false:=(by rw[Lib.toList_data];simpa [str] using hnt);clear hnk hnt;rw[declL_out ts hio hnin] at hL;have HL1:=Za hL;clear hL hio hnin hou
              go_wp2_with (first
                    | (go_at_call 17;(with_reducible refine (ZP _ _ _ _ _ true hw H10.out).mono ?_);rintro e w' ⟨rfl,rfl⟩)
                    | (go_at_call 15;(with_reducible refine (ZK _ _ _ _ _ H10.out).mono ?_);rintro e w11 ⟨rfl,hl⟩
                       have hb:=Zr hl g;have hr:=(H10.out).below hl;obtain⟨H11,G11,hrl_11⟩:=ZE hr G10.out hb;obtain⟨HBx_11,qcx,qfx,hltx_11⟩:=ZB HBx_10 hb (by omega);obtain⟨HBy_11,qcy,qfy,hlty_11⟩:=ZB HBy_10 hb (by omega);clear hr hb hl H10 G10 HBx_10 HBy_10)
                    | (go_at_call 15;(with_reducible refine (ZK _ _ _ _ _ H11.out).mono ?_);rintro e w12 ⟨rfl,hl⟩
                       have hb:=Zr hl g;have hr:=(H11.out).below hl;obtain⟨H12,G12,hrl_12⟩:=ZE hr G11.out hb;obtain⟨HBx_12,qcx,qfx,hltx_12⟩:=ZB HBx_11 hb (by omega);obtain⟨HBy_12,qcy,qfy,hlty_12⟩:=ZB HBy_11 hb (by omega);clear hr hb hl H11 G11 HBx_11 HBy_11)
                    | (go_at_call 15;(with_reducible refine (ZK _ _ _ _ _ H12.out).mono ?_);rintro e w13 ⟨rfl,hl⟩
                       have hb:=Zr hl g;have hr:=(H12.out).below hl;obtain⟨H13,G13,hrl_13⟩:=ZE hr G12.out hb;obtain⟨HBx_13,qcx,qfx,hltx_13⟩:=ZB HBx_12 hb (by omega);obtain⟨HBy_13,qcy,qfy,hlty_13⟩:=ZB HBy_12 hb (by omega);clear hr hb hl H12 G12 HBx_12 HBy_12)
                    | (go_at_call 72;(with_reducible refine (ahead_any _ _ _ _ _ H13.out).mono ?_);rintro e w14 ⟨rfl,hl⟩
                       have hb:=Zr hl g;have hr:=(H13.out).below hl;obtain⟨H14,G14,hrl_14⟩:=ZE hr G13.out hb;obtain⟨HBx_14,qcx,qfx,hltx_14⟩:=ZB HBx_13 hb (by omega);obtain⟨HBy_14,qcy,qfy,hlty_14⟩:=ZB HBy_13 hb (by omega);clear hr hb hl H13 G13 HBx_13 HBy_13)
                    | (go_at_call 72;(with_reducible refine (ahead_any _ _ _ _ _ H14.out).mono ?_);rintro e w15 ⟨rfl,hl⟩
                       have hb:=Zr hl g;have hr:=(H14.out).below hl;obtain⟨H15,G15,hrl_15⟩:=ZE hr G14.out hb;obtain⟨HBx_15,qcx,qfx,hltx_15⟩:=ZB HBx_14 hb (by omega);obtain⟨HBy_15,qcy,qfy,hlty_15⟩:=ZB HBy_14 hb (by omega);clear hr hb hl H14 G14 HBx_14 HBy_14)
                    | (go_at_call 47;(with_reducible refine (Z4 _ _ _ _ _ H15.out).mono ?_);rintro e w16 ⟨rfl,hr,hb⟩
                       obtain⟨H16,G16,hrl_16⟩:=ZE hr G15.out hb;obtain⟨HBx_16,qcx,qfx,hltx_16⟩:=ZB HBx_15 hb (by omega);obtain⟨HBy_16,qcy,qfy,hlty_16⟩:=ZB HBy_15 hb (by omega);clear hr hb H15 G15 HBx_15 HBy_15))
              go_roundg k1
              case measure=>omega
              case rel=>exact Za ⟨_,_,HL1.out,Kd.R_far (Kd.R_grown HO.out G16.out (fun b hb e=>by injection e with e;omega)) (p:=⟨w1.heap.size,3,none⟩) (fun b hb e=>by have e2:b=w1.heap.size:=e;omega) _,RS.other H16.out (HX.out _ (Zd hxy)) 3 _,Zx (Zs HG.out G16.out) (Zd hxy) 3 _,HBx_16.out.far (p:=⟨w1.heap.size,3,none⟩) (Zf hxy) _,HBy_16.out.set_ 3 _,by rw[set_size];exact hlty_16,by have:=HLK.out;omega⟩
          · have hnkb:((nextT ts s).kind==4)=false:=Zo hnk;have hio:ioGoes ts s=true:=(by simp[ioGoes,hw,hk,hnk,hou]);clear hnk;rw[declL_out ts hio hnin] at hL;have HL1:=Za hL;clear hL hio hnin hou
            go_wp2_with (first
                  | (go_at_call 17;(with_reducible refine (ZP _ _ _ _ _ true hw H10.out).mono ?_);rintro e w' ⟨rfl,rfl⟩)
                  | (go_at_call 15;(with_reducible refine (ZK _ _ _ _ _ H10.out).mono ?_);rintro e w11 ⟨rfl,hl⟩
                     have hb:=Zr hl g;have hr:=(H10.out).below hl;obtain⟨H11,G11,hrl_11⟩:=ZE hr G10.out hb;obtain⟨HBx_11,qcx,qfx,hltx_11⟩:=ZB HBx_10 hb (by omega);obtain⟨HBy_11,qcy,qfy,hlty_11⟩:=ZB HBy_10 hb (by omega);clear hr hb hl H10 G10 HBx_10 HBy_10)
                  | (go_at_call 15;(with_reducible refine (ZK _ _ _ _ _ H11.out).mono ?_);rintro e w12 ⟨rfl,hl⟩
                     have hb:=Zr hl g;have hr:=(H11.out).below hl;obtain⟨H12,G12,hrl_12⟩:=ZE hr G11.out hb;obtain⟨HBx_12,qcx,qfx,hltx_12⟩:=ZB HBx_11 hb (by omega);obtain⟨HBy_12,qcy,qfy,hlty_12⟩:=ZB HBy_11 hb (by omega);clear hr hb hl H11 G11 HBx_11 HBy_11)
                  | (go_at_call 15;(with_reducible refine (ZK _ _ _ _ _ H12.out).mono ?_);rintro e w13 ⟨rfl,hl⟩
                     have hb:=Zr hl g;have hr:=(H12.out).below hl;obtain⟨H13,G13,hrl_13⟩:=ZE hr G12.out hb;obtain⟨HBx_13,qcx,qfx,hltx_13⟩:=ZB HBx_12 hb (by omega);obtain⟨HBy_13,qcy,qfy,hlty_13⟩:=ZB HBy_12 hb (by omega);clear hr hb hl H12 G12 HBx_12 HBy_12)
                  | (go_at_call 72;(with_reducible refine (ahead_any _ _ _ _ _ H13.out).mono ?_);rintro e w14 ⟨rfl,hl⟩
                     have hb:=Zr hl g;have hr:=(H13.out).below hl;obtain⟨H14,G14,hrl_14⟩:=ZE hr G13.out hb;obtain⟨HBx_14,qcx,qfx,hltx_14⟩:=ZB HBx_13 hb (by omega);obtain⟨HBy_14,qcy,qfy,hlty_14⟩:=ZB HBy_13 hb (by omega);clear hr hb hl H13 G13 HBx_13 HBy_13)
                  | (go_at_call 47;(with_reducible refine (Z4 _ _ _ _ _ H14.out).mono ?_);rintro e w15 ⟨rfl,hr,hb⟩
                     obtain⟨H15,G15,hrl_15⟩:=ZE hr G14.out hb;obtain⟨HBx_15,qcx,qfx,hltx_15⟩:=ZB HBx_14 hb (by omega);obtain⟨HBy_15,qcy,qfy,hlty_15⟩:=ZB HBy_14 hb (by omega);clear hr hb H14 G14 HBx_14 HBy_14))
            go_roundg k1
            case measure=>omega
            case rel=>exact Za ⟨_,_,HL1.out,Kd.R_far (Kd.R_grown HO.out G15.out (fun b hb e=>by injection e with e;omega)) (p:=⟨w1.heap.size,3,none⟩) (fun b hb e=>by have e2:b=w1.heap.size:=e;omega) _,RS.other H15.out (HX.out _ (Zd hxy)) 3 _,Zx (Zs HG.out G15.out) (Zd hxy) 3 _,HBx_15.out.far (p:=⟨w1.heap.size,3,none⟩) (Zf hxy) _,HBy_15.out.set_ 3 _,by rw[set_size];exact hlty_15,by have:=HLK.out;omega⟩
        · have hio:ioGoes ts s=false:=(by simp[ioGoes,hnin,hou]);have houb:((str ((cur ts s)).text).toList==ByteArray.toList ⟨#[111,117,116,112,117,116]⟩)=false:=(by rw[str_eq];exact Zm hou);have houc:((str ((cur ts s)).text).toList==[111,117,116,112,117,116])=false:=(by rw[Lib.toList_data];simpa [str] using (show ¬((cur ts s)).text=[111,117,116,112,117,116] from hou));clear hnin hou;rw[declL_stop ts hio] at hL;injection hL with hL
          subst hL;clear HLK hio
          go_wp2_with (first
                | (go_at_call 17;(with_reducible refine (ZP _ _ _ _ _ true hw H10.out).mono ?_);rintro e w' ⟨rfl,rfl⟩)
                | (go_at_call 15;(with_reducible refine (ZK _ _ _ _ _ H10.out).mono ?_);rintro e w11 ⟨rfl,hl⟩
                   have hb:=Zr hl g;have hr:=(H10.out).below hl;obtain⟨H11,G11,hrl_11⟩:=ZE hr G10.out hb;obtain⟨HBx_11,qcx,qfx,hltx_11⟩:=ZB HBx_10 hb (by omega);obtain⟨HBy_11,qcy,qfy,hlty_11⟩:=ZB HBy_10 hb (by omega);clear hr hb hl H10 G10 HBx_10 HBy_10)
                | (go_at_call 15;(with_reducible refine (ZK _ _ _ _ _ H11.out).mono ?_);rintro e w12 ⟨rfl,hl⟩
                   have hb:=Zr hl g;have hr:=(H11.out).below hl;obtain⟨H12,G12,hrl_12⟩:=ZE hr G11.out hb;obtain⟨HBx_12,qcx,qfx,hltx_12⟩:=ZB HBx_11 hb (by omega);obtain⟨HBy_12,qcy,qfy,hlty_12⟩:=ZB HBy_11 hb (by omega);clear hr hb hl H11 G11 HBx_11 HBy_11)
                | (go_at_call 15;(with_reducible refine (ZK _ _ _ _ _ H12.out).mono ?_);rintro e w13 ⟨rfl,hl⟩
                   have hb:=Zr hl g;have hr:=(H12.out).below hl;obtain⟨H13,G13,hrl_13⟩:=ZE hr G12.out hb;obtain⟨HBx_13,qcx,qfx,hltx_13⟩:=ZB HBx_12 hb (by omega);obtain⟨HBy_13,qcy,qfy,hlty_13⟩:=ZB HBy_12 hb (by omega);clear hr hb hl H12 G12 HBx_12 HBy_12))
          refine bodyPost_ret (results_cell_row rfl _ _ w.heap.size 46 #[.string d.name,.slice p d.cols.length c,.bool d.input,.bool d.output,.int .i64 d.at_] (0,0) _ rfl ?_ Try.underlying46 rfl (by kernel_rfl)) rfl ?_
          · exact ZS HBx_13.out
          · refine⟨_,rfl,?_,?_,?_⟩
            · exact Kd.R_mono (Kd.R_lower (five_R (Kd.R_grown HO.out G13.out (fun b hb e=>by injection e with e;omega)) (fun b hb=>by omega)) (by omega)) (fun b hb=>by omega)
            · exact ZZ H13.out (HX.out _ (Zc _))
            · exact ZY (Zs HG.out G13.out) (Zc _)
    · have hkb:((cur ts s).kind==1)=false:=Zo hk;have hio:ioGoes ts s=false:=(by simp[ioGoes,hk]);clear hk;rw[declL_stop ts hio] at hL;injection hL with hL
      subst hL;clear HLK hio
      go_wp2_with (first
            | (go_at_call 17;(with_reducible refine (ZP _ _ _ _ _ true hw H10.out).mono ?_);rintro e w' ⟨rfl,rfl⟩)
            | (go_at_call 15;(with_reducible refine (ZK _ _ _ _ _ H10.out).mono ?_);rintro e w11 ⟨rfl,hl⟩
               have hb:=Zr hl g;have hr:=(H10.out).below hl;obtain⟨H11,G11,hrl_11⟩:=ZE hr G10.out hb;obtain⟨HBx_11,qcx,qfx,hltx_11⟩:=ZB HBx_10 hb (by omega);obtain⟨HBy_11,qcy,qfy,hlty_11⟩:=ZB HBy_10 hb (by omega);clear hr hb hl H10 G10 HBx_10 HBy_10))
      refine bodyPost_ret (results_cell_row rfl _ _ w.heap.size 46 #[.string d.name,.slice p d.cols.length c,.bool d.input,.bool d.output,.int .i64 d.at_] (0,0) _ rfl ?_ Try.underlying46 rfl (by kernel_rfl)) rfl ?_
      · exact ZS HBx_11.out
      · refine⟨_,rfl,?_,?_,?_⟩
        · exact Kd.R_mono (Kd.R_lower (five_R (Kd.R_grown HO.out G11.out (fun b hb e=>by injection e with e;omega)) (fun b hb=>by omega)) (by omega)) (fun b hb=>by omega)
        · exact ZZ H11.out (HX.out _ (Zc _))
        · exact ZY (Zs HG.out G11.out) (Zc _)
  · have hw2:well s=false:=(by simpa using hw);have hio:ioGoes ts s=false:=(by simp[ioGoes,hw2]);rw[declL_stop ts hio] at hL;injection hL with hL
    subst hL;clear HLK hio
    go_wp2_with (first
          | (go_at_call 17;(with_reducible refine (ZP _ _ _ _ _ false hw2 H10.out).mono ?_);rintro e w' ⟨rfl,rfl⟩))
    refine bodyPost_ret (results_cell_row rfl _ _ w.heap.size 46 #[.string d.name,.slice p d.cols.length c,.bool d.input,.bool d.output,.int .i64 d.at_] (0,0) _ rfl ?_ Try.underlying46 rfl (by kernel_rfl)) rfl ?_
    · exact ZS HBx_10.out
    · refine⟨_,rfl,?_,?_,?_⟩
      · exact Kd.R_mono (Kd.R_lower (five_R (Kd.R_grown HO.out G10.out (fun b hb e=>by injection e with e;omega)) (fun b hb=>by omega)) (by omega)) (fun b hb=>by omega)
      · exact ZZ H10.out (HX.out _ (Zc _))
      · exact ZY (Zs HG.out G10.out) (Zc _)
end
end RefDecl
namespace RefAtom
open Go Go.RowKit RefPure RefKinds RefMem RefTake RefSmall RefFields RefExprs RefExpr RefOne RefCells YtddmceldglelkaaW.PrintWords
open LexPure (T lex)
attribute [local go_sem] fld0 fld1 fld2 fld3
section
variable (ts:List T)
def AtomPost (w:World) (g:Nat) (v:Value) (ts:List T) (r:AtomT×St) (e:Ending) (w':World):Prop:=
 ∃ vk,e=.returned (.agg #[.string r.1.rel,vk,.int .i64 r.1.at_])∧kEx.R 56 w' w.heap.size (fun b=>w.heap.size≤b) vk r.1.args∧RS w' g v ts r.2∧w.grownBy w' (some g)
theorem atom_any (k:Nat) (hk:k≤549755813888) (w:World) (g:Nat) (v:Value) (st:St) (r:AtomT×St) (h:RS w g v ts st) (hF:atom ts k st=some r):Calls Try.prog 74 #[.pointer (some ⟨g,0,none⟩)] w (AtomPost w g v ts r):=by
 have H0:=Za h;have G0:=Za (ZL w g);have hg:=h.blk.lt;have HX:=Za (fun X (hX:w.heap.size≤X)=>h.elder hX);have HE:=Za (RefAll.exprs_all ts k k (Zc _) hk).2.2.2.2;unfold PExprs at HE;unfold atom at hF;obtain⟨x,hx,hr0⟩:=Zp hF;injection hr0 with hr0
 subst hr0;have HX1:=Za hx;clear h hF hx hk;go_enter Try.func74,Try.ntmps74
 go_wp2_with (first
       | (go_at_call 15;(with_reducible refine (ZK _ _ _ _ _ (H0.out.alloc _)).mono ?_);rintro e w1 ⟨rfl,hl⟩
          have hb:=Zr hl g;have hr:=(H0.out.alloc (.cells #[.string ⟨#[]⟩,.slice none 0 0,.int .i64 0] 51)).below hl;obtain⟨H1,G1,hrl_1⟩:=ZE hr (ZD G0.out _) hb;obtain⟨HBx_1,qcx,qfx,hltx_1⟩:=s3_go (Za (Blk.new w 51 #[.string ⟨#[]⟩,.slice none 0 0,.int .i64 0])) hb (by omega);clear hr hb hl H0 G0 )
       | (go_at_call 51;(with_reducible refine (name_any _ _ _ _ _ H1.out).mono ?_);rintro e w2 ⟨rfl,hr,hb⟩
          obtain⟨H2,G2,hrl_2⟩:=st_goA (.cells #[.string (name ts st).1,.slice none 0 0,.int .i64 ((cur ts st).at_:Int)] 51) hr G1.out hb;obtain⟨HBx_2,qcx,qfx,hltx_2⟩:=s3_goA (.cells #[.string (name ts st).1,.slice none 0 0,.int .i64 ((cur ts st).at_:Int)] 51) HBx_1 hb (by omega);have HBy_2:=Za (Blk.new w2 51 #[.string (name ts st).1,.slice none 0 0,.int .i64 ((cur ts st).at_:Int)]);clear hr hb H1 G1 HBx_1)
       | (go_at_call 83;(with_reducible refine (HE.out _ _ _ _ _ H2.out HX1.out).mono ?_);rintro e w3 ⟨vk,rfl,hk,hr,hb⟩
          obtain⟨pk,ck,rfl⟩:=Kd.R_slice hk;have HK:=Za hk;clear hk;obtain⟨H3,G3,hrl_3⟩:=ZE hr G2.out hb;obtain⟨HBx_3,qcx,qfx,hltx_3⟩:=s3_go HBx_2 hb (by omega);obtain⟨HBy_3,qcy,qfy,hlty_3⟩:=s3_go HBy_2 hb (by omega);clear hr hb H2 G2 HBx_2 HBy_2))
 have hne:w.heap.size≠w2.heap.size:=(by omega);have hle:w.heap.size≤w2.heap.size:=(by omega);have HK2:Hid (kEx.R 56 w3 (w2.heap.size+1) (fun b=>w2.heap.size+1≤b) (.slice pk x.1.length ck) x.1):=Za (by have:=HK.out;simpa using this);refine bodyPost_ret (results_cell_row rfl _ _ w.heap.size 51 #[.string (name ts st).1,.slice pk x.1.length ck,.int .i64 ((cur ts st).at_:Int)] (0,0) _ rfl ?_ Try.underlying51 rfl (by kernel_rfl)) rfl ?_
 · exact s3_blk (HBx_3.out.far (p:=⟨w2.heap.size,1,none⟩) hne _)
 · refine⟨.slice pk x.1.length ck,rfl,?_,?_,?_⟩
   · exact Kd.R_mono (Kd.R_lower (s3_R (Kd.R_far HK2.out (p:=⟨w2.heap.size,1,none⟩) (fun b hb e=>by have e2:b=w2.heap.size:=e;omega) _) (fun b hb=>by omega)) (by omega)) (fun b hb=>by omega)
   · exact s3_RS (RS.other H3.out (HX.out _ hle) 1 _) (HX.out _ (Zc _))
   · exact s3_gr (Zx G3.out hle 1 _) (Zc _)
end
end RefAtom
end Go.Proofs.Ytddmceldglelkaa
