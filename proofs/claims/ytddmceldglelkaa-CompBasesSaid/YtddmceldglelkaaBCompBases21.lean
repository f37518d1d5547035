/- A claim's texts, in the order of what they need: RefLitAll, RefClause, RefProgS. -/
import Derived.Test.YtddmceldglelkaaBCompBases16
import Derived.Test.YtddmceldglelkaaBCompBases18
import Derived.Test.YtddmceldglelkaaBCompBases19
import Derived.Test.YtddmceldglelkaaBCompBases20
import Derived.Deep.LoopGhost
import Derived.Deep.RegionLaw
set_option maxRecDepth 100000
set_option maxHeartbeats 8000000
set_option linter.unusedVariables false
set_option linter.unusedSimpArgs false
set_option linter.unusedSectionVars false
namespace Go.Proofs.Ytddmceldglelkaa
namespace RefLitAll
open Go Go.RowKit RefPure RefMem RefLit
open LexPure (T lex)
section
variable (ts:List T)
theorem lit_any (k:Nat) (hk:k≤549755813888) (w:World) (g:Nat) (v:Value) (st:St) (r:LitT×St) (h:RS w g v ts st) (hF:lit ts k st=some r):Calls Try.prog 75 #[.pointer (some ⟨g,0,none⟩)] w (LitPost w g v ts r):=by
 by_cases hy:(may ts [33] st).1=true
 · exact lit_not ts k hk w g v st r h hF hy
 have hy:(may ts [33] st).1=false:=(by simpa using hy);by_cases h1:(cur ts st).kind=1
 · by_cases h4:(nextT ts st).kind=4
   · by_cases ht:(nextT ts st).text=[40]
     · exact lit_atom ts k hk w g v st r h hF hy h1 h4 ht
     · exact RefLitC2.lit_cmp2 ts k hk w g v st r h hF hy h1 h4 ht
   · exact RefLitC1.lit_cmp1 ts k hk w g v st r h hF hy h1 h4
 · exact RefLitC0.lit_cmp0 ts k hk w g v st r h hF hy h1
end
end RefLitAll
namespace RefClause
open Go Go.RowKit RefPure RefKinds RefMem RefTake RefSmall RefFields RefExprs RefExpr RefOne RefCells YtddmceldglelkaaW.PrintWords
open LexPure (T lex)
attribute [local go_sem] fld0 fld1 fld2 fld3
open RefAtom RefLit RefLitAll RefKind
theorem infoLit:(Try.prog.info? 58).map (fun i=>(i.zero,i.size,i.bytes))=some (some (.agg #[.int .i64 0,.string ⟨#[]⟩,.slice none 0 0,.int .i64 0,.string ⟨#[]⟩,.int .i64 0,.int .i64 0,.string ⟨#[]⟩,.slice none 0 0,.int .i64 0,.int .i64 0,.int .i64 0,.string ⟨#[]⟩,.slice none 0 0,.int .i64 0,.int .i64 0]),16,208):=by kernel_rfl
def BRel (w:World) (g:Nat) (v:Value) (ts:List T) (lo X k:Nat) (r:List LitT×St) (hd:AtomT) (pa:Option Addr) (ca:Nat) (at_:Int) (kq:Nat) (first:Bool) (wr:World):Prop:=
 ∃ l s p c,bodyL ts kq first l s=some r∧kLit.R 58 wr (X+1) (fun b=>X+1≤b) (.slice p l.length c) l∧kEx.R 56 wr lo (fun b=>lo≤b∧b<X) (.slice pa hd.args.length ca) hd.args∧RS wr g v ts s∧w.grownBy wr (some g)∧Blk wr w.heap.size 54 #[.string ⟨#[]⟩,.slice none 0 0,.int .i64 0,.slice none 0 0,.int .i64 0]∧Blk wr X 54 #[.string hd.rel,.slice pa hd.args.length ca,.int .i64 hd.at_,.slice p l.length c,.int .i64 at_]∧X+1≤wr.heap.size∧l.length+kq≤k
section
variable (ts:List T)
theorem bodyL_stop {k:Nat} {first:Bool} {l:List LitT} {s:St} {b:Bool×St} (e:goesOn ts first [44] s=b) (h:b.1=false):bodyL ts (k+1) first l s=some (l,b.2):=by rw[bodyL,e,if_neg (by simp[h])]
theorem bodyL_go {k:Nat} {first:Bool} {l:List LitT} {s:St} {b:Bool×St} (e:goesOn ts first [44] s=b) (h:b.1=true):bodyL ts (k+1) first l s =
    (lit ts k (many ts l.length 16 b.2)).bind fun r=>bodyL ts k false (l++[r.1]) r.2:=by
 rw[bodyL,e,if_pos h]
def ClausePost (w:World) (g:Nat) (v:Value) (ts:List T) (r:ClauseT×St) (e:Ending) (w':World):Prop:=
 ∃ va vb,e=.returned (.agg #[.string r.1.head.rel,va,.int .i64 r.1.head.at_,vb,.int .i64 r.1.at_])∧kEx.R 56 w' w.heap.size (fun b=>w.heap.size≤b) va r.1.head.args∧kLit.R 58 w' w.heap.size (fun b=>w.heap.size≤b) vb r.1.body∧(∀ b,va.ownBlock=some b→vb.ownBlock≠some b)∧RS w' g v ts r.2∧w.grownBy w' (some g)
theorem clause_fact (k:Nat) (hk:k≤549755813888) (w:World) (g:Nat) (v:Value) (st:St) (r:ClauseT×St) (h:RS w g v ts st) (a:AtomT×St) (ha:atom ts k st=some a) (hy:(may ts [58,45] a.2).1=false) (hr:r=(⟨a.1,[],(cur ts st).at_⟩,must ts [46] (may ts [58,45] a.2).2)):Calls Try.prog 52 #[.pointer (some ⟨g,0,none⟩)] w (ClausePost w g v ts r):=by
 have H0:=Za h;have G0:=Za (ZL w g);have hg:=h.blk.lt;have HX:=Za (fun X (hX:w.heap.size≤X)=>h.elder hX);have HE:=Za (atom_any ts k hk);have HX1:=Za ha;have hm:(may ts (ByteArray.mk #[58,45]).data.toList a.2).1=false:=hy;subst hr;clear h ha hk hy;go_enter Try.func52,Try.ntmps52
 go_wp2_with (first
       | (go_at_call 15;(with_reducible refine (ZK _ _ _ _ _ (H0.out.alloc _)).mono ?_);rintro e w1 ⟨rfl,hl⟩
          have hb:=Zr hl g;have hr:=(H0.out.alloc (.cells #[.string ⟨#[]⟩,.slice none 0 0,.int .i64 0,.slice none 0 0,.int .i64 0] 54)).below hl;obtain⟨H1,G1,hrl_1⟩:=ZE hr (ZD G0.out _) hb;obtain⟨HBx_1,qcx,qfx,hltx_1⟩:=ZB (Za (Blk.new w 54 #[.string ⟨#[]⟩,.slice none 0 0,.int .i64 0,.slice none 0 0,.int .i64 0])) hb (by omega);clear hr hb hl H0 G0 )
       | (go_at_call 74;(with_reducible refine (HE.out _ _ _ _ _ H1.out HX1.out).mono ?_);rintro e w2 ⟨vk,rfl,hk,hr,hb⟩
          obtain⟨pa,ca,rfl⟩:=Kd.R_slice hk;have HKA:Hid (kEx.R 56 w2 w1.heap.size (fun b=>w1.heap.size≤b∧b<w2.heap.size) (.slice pa a.1.args.length ca) a.1.args):=Za (Kd.R_mono (Kd.R_bound hk) (fun b hb=>⟨hb.1,hb.2.2.1⟩));have h12:w1.heap.size≤w2.heap.size:=hb.size;clear hk;obtain⟨H2,G2,hrl_2⟩:=st_goA (.cells #[.string a.1.rel,.slice pa a.1.args.length ca,.int .i64 a.1.at_,.slice none 0 0,.int .i64 ((cur ts st).at_:Int)] 54) hr G1.out hb;obtain⟨HBx_2,qcx,qfx,hltx_2⟩:=s5_goA (.cells #[.string a.1.rel,.slice pa a.1.args.length ca,.int .i64 a.1.at_,.slice none 0 0,.int .i64 ((cur ts st).at_:Int)] 54) HBx_1 hb (by omega);have HBy_2:=Za (Blk.new w2 54 #[.string a.1.rel,.slice pa a.1.args.length ca,.int .i64 a.1.at_,.slice none 0 0,.int .i64 ((cur ts st).at_:Int)]);clear hr hb H1 G1 HBx_1)
       | (go_at_call 43;(with_reducible refine (ZQ _ _ _ _ _ _ H2.out).mono ?_);rintro e w3 ⟨rfl,hr,hb⟩
          obtain⟨H3,G3,hrl_3⟩:=ZE hr G2.out hb;obtain⟨HBx_3,qcx,qfx,hltx_3⟩:=ZB HBx_2 hb (by omega);obtain⟨HBy_3,qcy,qfy,hlty_3⟩:=ZB HBy_2 hb (by omega);have HKA2:=Za (Kd.R_alloc HKA.out (.cells #[.string a.1.rel,.slice pa a.1.args.length ca,.int .i64 a.1.at_,.slice none 0 0,.int .i64 ((cur ts st).at_:Int)] 54));have HKA3:=Za (Kd.R_grown HKA2.out hb (fun b hb e=>by injection e with e;omega));clear hr hb H2 G2 HBx_2 HBy_2)
       | (go_at_call 50;(with_reducible refine (must_any _ _ _ _ _ _ H3.out).mono ?_);rintro e w4 ⟨rfl,hr,hb⟩
          obtain⟨H4,G4,hrl_4⟩:=ZE hr G3.out hb;obtain⟨HBx_4,qcx,qfx,hltx_4⟩:=ZB HBx_3 hb (by omega);obtain⟨HBy_4,qcy,qfy,hlty_4⟩:=ZB HBy_3 hb (by omega);have HKA4:=Za (Kd.R_grown HKA3.out hb (fun b hb e=>by injection e with e;omega));clear hr hb H3 G3 HBx_3 HBy_3))
 refine bodyPost_ret (results_cell_row rfl _ _ w.heap.size 54 #[.string a.1.rel,.slice pa a.1.args.length ca,.int .i64 a.1.at_,.slice none 0 0,.int .i64 ((cur ts st).at_:Int)] (0,0) _ rfl ?_ Try.underlying54 rfl (by kernel_rfl)) rfl ?_
 · exact ZS HBx_4.out
 · refine⟨.slice pa a.1.args.length ca,.slice none 0 0,rfl,?_,Kd.R_nil _ _ _ _ _,fun _ _=>by simp[Value.ownBlock],?_,?_⟩
   · exact Kd.R_mono (Kd.R_lower (five_R HKA4.out (fun b hb=>by omega)) (by omega)) (fun b hb=>by omega)
   · exact ZZ H4.out (HX.out _ (Zc _))
   · exact ZY G4.out (Zc _)
theorem clause_body (k:Nat) (hk:k≤549755813888) (w:World) (g:Nat) (v:Value) (st:St) (r:ClauseT×St) (h:RS w g v ts st) (a:AtomT×St) (ha:atom ts k st=some a) (hy:(may ts [58,45] a.2).1=true) (b:List LitT×St) (hb:bodyL ts k true [] (may ts [58,45] a.2).2=some b) (hr:r=(⟨a.1,b.1,(cur ts st).at_⟩,must ts [46] b.2)):Calls Try.prog 52 #[.pointer (some ⟨g,0,none⟩)] w (ClausePost w g v ts r):=by
 have H0:=Za h;have G0:=Za (ZL w g);have hg:=h.blk.lt;have HX:=Za (fun X (hX:w.heap.size≤X)=>h.elder hX);have HE:=Za (atom_any ts k hk);have HX1:=Za ha;have HK:=Za hk;have HL0:Hid (bodyL ts k true [] (may ts (ByteArray.mk #[58,45]).data.toList a.2).2=some b):=Za hb;have hm:(may ts (ByteArray.mk #[58,45]).data.toList a.2).1=true:=hy;subst hr;clear h ha hk hy hb;go_enter Try.func52,Try.ntmps52
 go_wp2_with (first
       | (go_at_call 15;(with_reducible refine (ZK _ _ _ _ _ (H0.out.alloc _)).mono ?_);rintro e w1 ⟨rfl,hl⟩
          have hb:=Zr hl g;have hr:=(H0.out.alloc (.cells #[.string ⟨#[]⟩,.slice none 0 0,.int .i64 0,.slice none 0 0,.int .i64 0] 54)).below hl;obtain⟨H1,G1,hrl_1⟩:=ZE hr (ZD G0.out _) hb;obtain⟨HBx_1,qcx,qfx,hltx_1⟩:=ZB (Za (Blk.new w 54 #[.string ⟨#[]⟩,.slice none 0 0,.int .i64 0,.slice none 0 0,.int .i64 0])) hb (by omega);clear hr hb hl H0 G0 )
       | (go_at_call 74;(with_reducible refine (HE.out _ _ _ _ _ H1.out HX1.out).mono ?_);rintro e w2 ⟨vk,rfl,hk,hr,hb⟩
          obtain⟨pa,ca,rfl⟩:=Kd.R_slice hk;have HKA:Hid (kEx.R 56 w2 w1.heap.size (fun b=>w1.heap.size≤b∧b<w2.heap.size) (.slice pa a.1.args.length ca) a.1.args):=Za (Kd.R_mono (Kd.R_bound hk) (fun b hb=>⟨hb.1,hb.2.2.1⟩));have h12:w1.heap.size≤w2.heap.size:=hb.size;clear hk;obtain⟨H2,G2,hrl_2⟩:=st_goA (.cells #[.string a.1.rel,.slice pa a.1.args.length ca,.int .i64 a.1.at_,.slice none 0 0,.int .i64 ((cur ts st).at_:Int)] 54) hr G1.out hb;obtain⟨HBx_2,qcx,qfx,hltx_2⟩:=s5_goA (.cells #[.string a.1.rel,.slice pa a.1.args.length ca,.int .i64 a.1.at_,.slice none 0 0,.int .i64 ((cur ts st).at_:Int)] 54) HBx_1 hb (by omega);have HBy_2:=Za (Blk.new w2 54 #[.string a.1.rel,.slice pa a.1.args.length ca,.int .i64 a.1.at_,.slice none 0 0,.int .i64 ((cur ts st).at_:Int)]);clear hr hb H1 G1 HBx_1)
       | (go_at_call 43;(with_reducible refine (ZQ _ _ _ _ _ _ H2.out).mono ?_);rintro e w3 ⟨rfl,hr,hb⟩
          obtain⟨H3,G3,hrl_3⟩:=ZE hr G2.out hb;obtain⟨HBx_3,qcx,qfx,hltx_3⟩:=ZB HBx_2 hb (by omega);obtain⟨HBy_3,qcy,qfy,hlty_3⟩:=ZB HBy_2 hb (by omega);have HKA2:=Za (Kd.R_alloc HKA.out (.cells #[.string a.1.rel,.slice pa a.1.args.length ca,.int .i64 a.1.at_,.slice none 0 0,.int .i64 ((cur ts st).at_:Int)] 54));have HKA3:=Za (Kd.R_grown HKA2.out hb (fun b hb e=>by injection e with e;omega));clear hr hb H2 G2 HBx_2 HBy_2))
 have hxy:w.heap.size<w2.heap.size:=hltx_2;go_loopg [4] k (fun kq v8 wr=>∃ first:Bool,v8=.bool first∧Hid (BRel w g v ts w1.heap.size w2.heap.size k b a.1 pa ca ((cur ts st).at_:Int) kq first wr))
 case atStart=>exact⟨true,rfl,Za ⟨[],_,none,0,HL0.out,Kd.R_nil _ _ _ _ _,HKA3.out,H3.out,G3.out,HBx_3.out,HBy_3.out,hlty_3,by simp⟩⟩
 case round=>
  clear H3 G3 HBx_3 HBy_3 HKA HKA2 HKA3;obtain⟨first,rfl,HR⟩:=hrel;obtain⟨l,s,p7,c7,hL,hO,hKA,hS,hG,hA,hB,hn0,hlk⟩:=HR.out;cases gk with
  | zero=>exact absurd hL (by simp[bodyL])
  | succ k1=>
  have H10:=Za hS;have HG:=Za hG;have G10:=Za (ZL wr g);have HO:=Za hO;have HKA10:=Za hKA;have HOW:Hid (∀ X,(Value.slice p7 l.length c7).ownBlock=some X→w2.heap.size+1≤X):=Za (fun X hX=>hO.1 X hX);have HLK:=Za hlk;have hg0:=hS.blk.lt;have HN0:=Za hn0;have hgN:g<w2.heap.size+1:=(by omega);have HBx_10:=Za hA;have HBy_10:=Za hB;have hltx_10:w.heap.size<wr.heap.size:=hA.lt;have hlty_10:w2.heap.size<wr.heap.size:=hB.lt;have qcx:=Zt hA;have qfx:=Zz hA;have qcy:=Zt hB;have qfy:=Zz hB;clear HR hO hKA hS hG hA hB hlk;by_cases hw:well s=true
  · cases first with
    | true=>
      rw[bodyL_go ts (goesOn_first hw) rfl] at hL;simp only[] at hL;by_cases hlen:16≤l.length
      · have hm:16≤l.length:=hlen;have hmb:decide (16≤l.length)=true:=Zl hm;have hmi:decide (16≤(l.length:Int))=true:=Zl (by omega);have hM:many ts l.length 16 s=fails ts 3 s:=(by unfold many;rw[if_pos hm]);rw[hM] at hL;obtain⟨y,hy,hL⟩:=Zp hL;have HL1:=Za hL;have HY:=Za hy;have HEL:=Za (lit_any ts k1 (by have:=HLK.out;have:=HK.out;omega));clear hL hM hm hy hlen
        go_wp2_with (first
              | (go_at_call 17;(with_reducible refine (ZP _ _ _ _ _ true hw H10.out).mono ?_);rintro e w' ⟨rfl,rfl⟩)
              | (go_at_call 16;(with_reducible refine (Z2 _ _ _ _ _ _ H10.out).mono ?_);rintro e w11 ⟨rfl,hr,hb⟩
                 obtain⟨H11,G11,hrl_11⟩:=ZE hr G10.out hb;obtain⟨HBx_11,qcx,qfx,hltx_11⟩:=ZB HBx_10 hb (by omega);obtain⟨HBy_11,qcy,qfy,hlty_11⟩:=ZB HBy_10 hb (by omega);have HKA11:=Za (Kd.R_grown HKA10.out hb (fun b hb e=>by injection e with e;omega));clear hr hb H10 G10 HBx_10 HBy_10))
        have hd:Below w11.heap.size w11 w11.drew:=(Below.refl _ _).drew;have H12:=Za (H11.out.below hd);have G12:=Za (Zs G11.out (Zr hd g));have HBx_12:=Za HBx_11.out.drew;have HBy_12:=Za HBy_11.out.drew;have HKA12:=Za (Kd.R_below HKA11.out hd);have HWR:Hid (wr.heap.size≤w11.drew.heap.size):=Za G12.out.size;clear hd H11 G11 HBx_11 HBy_11 HKA11
        go_region_law (first
              | (refine Kd.R_append_step kLit (w2.heap.size+1) (by rfl) (.tmp 29) (.tmp 32) 52 58 (.agg #[.int .i64 0,.string ⟨#[]⟩,.slice none 0 0,.int .i64 0,.string ⟨#[]⟩,.int .i64 0,.int .i64 0,.string ⟨#[]⟩,.slice none 0 0,.int .i64 0,.int .i64 0,.int .i64 0,.string ⟨#[]⟩,.slice none 0 0,.int .i64 0,.int .i64 0]) 208 rfl Try.underlying52 infoLit rfl (by decide) (by decide) (.slice p7 l.length c7) l y.1 [.int .i64 y.1.kind,.string y.1.atom.rel,.slice p1 y.1.atom.args.length c1,.int .i64 y.1.atom.at_,.string y.1.op,.int .i64 y.1.l.kind,.int .i64 y.1.l.n,.string y.1.l.s,.slice p2 y.1.l.kids.length c2,.int .i64 y.1.l.at_,.int .i64 y.1.r.kind,.int .i64 y.1.r.n,.string y.1.r.s,.slice p3 y.1.r.kids.length c3,.int .i64 y.1.r.at_,.int .i64 y.1.at_] (fun b=>(w2.heap.size+1)≤b) (fun b=>w11.drew.heap.size≤b) ?a1 ?a2 HM.out (row_new HO.out HN0.out HWR.out) ?aF ?aO (Below.refl _ _) ?aS ?aL ?_
                 (try (case a1=>rfl));(try (case a2=>rfl));(case aF=>exact fun X hX=>by omega)
                 (case aO=>exact R_kept HO.out hgN G13.out)
                 (case aS=>omega)
                 (case aL=>have:=HLK.out;have:=HK.out;omega)
                 intro v1 wn ho hb hgr hat;obtain⟨p9,c9,rfl⟩:=Kd.R_slice ho;have HO2:=Za ho;have hBx:=HBx_13.out.grown hgr (fun e=>by have:=HOW.out _ e.symm;omega);have hBy:=HBy_13.out.grown hgr (fun e=>by have:=HOW.out _ e.symm;omega);have HBx_n:=Za hBx;have HBy_n:=Za hBy;have HKAn:=Za (Kd.R_grown HKA13.out hgr (fun b hb e=>by have:=HOW.out _ e.symm;omega));have HS2:=Za (RS.row_ H13.out hgr (fun X hX=>HX.out X (by have:=HOW.out X hX;omega)));have HG2:=Za (ZX (Zs HG.out G13.out) hgr (fun X hX=>by have:=HOW.out X hX;omega));have qcx:=Zt hBx;have qfx:=Zz hBx;have qcy:=Zt hBy;have qfy:=Zz hBy;have hltx_n:w.heap.size<wn.heap.size:=hBx.lt;have hlty_n:w2.heap.size<wn.heap.size:=hBy.lt;clear ho hb hgr hat hBx hBy G13 H13 HBx_13 HBy_13)
              | (go_simp;go_wp2_with (first
                    | (go_at_call 75;(with_reducible refine (HEL.out _ _ _ _ _ H12.out HY.out).mono ?_);rintro e w13 ⟨va,vl,vr,rfl,hka,hkl,hkr,hr,hb⟩
                       obtain⟨p1,c1,rfl⟩:=Kd.R_slice hka;obtain⟨p2,c2,rfl⟩:=Kd.R_slice hkl;obtain⟨p3,c3,rfl⟩:=Kd.R_slice hkr;have HM:=Za (kLit.M_lower (Ze HN0.out HWR.out) (kLit_mkM _ _ _ y.1 hka hkl hkr));clear hka hkl hkr;obtain⟨H13,G13,hrl_13⟩:=ZE hr G12.out hb;obtain⟨HBx_13,qcx,qfx,hltx_13⟩:=ZB HBx_12 hb (by omega);obtain⟨HBy_13,qcy,qfy,hlty_13⟩:=ZB HBy_12 hb (by omega);have HKA13:=Za (Kd.R_grown HKA12.out hb (fun b hb e=>by injection e with e;omega));clear hr hb H12 G12 HBx_12 HBy_12))))
        (all_goals go_wp2);all_goals go_roundg k1
        all_goals first
         | omega
         | exact⟨false,rfl,Za ⟨_,_,p9,c9,HL1.out,Kd.R_far HO2.out (p:=⟨w2.heap.size,3,none⟩) (fun b hb e=>by have e2:b=w2.heap.size:=e;omega) _,Kd.R_far HKAn.out (p:=⟨w2.heap.size,3,none⟩) (fun b hb e=>by have e2:b=w2.heap.size:=e;omega) _,RS.other HS2.out (HX.out _ (Zd hxy)) 3 _,Zx HG2.out (Zd hxy) 3 _,HBx_n.out.far (p:=⟨w2.heap.size,3,none⟩) (Zf hxy) _,by rw[Zi];exact HBy_n.out.set_ 3 _,by rw[set_size];exact hlty_n,by have:=HLK.out;rw[Zi];simp only[Zj,Zk];omega⟩⟩
      · have hm:¬16≤l.length:=hlen;have hmb:decide (16≤l.length)=false:=Zm hm;have hmi:decide (16≤(l.length:Int))=false:=Zm (by omega);have hM:many ts l.length 16 s=s:=(by unfold many;rw[if_neg hm]);rw[hM] at hL;obtain⟨y,hy,hL⟩:=Zp hL;have HL1:=Za hL;have HY:=Za hy;have HEL:=Za (lit_any ts k1 (by have:=HLK.out;have:=HK.out;omega));clear hL hM hm hy hlen
        go_wp2_with (first
              | (go_at_call 17;(with_reducible refine (ZP _ _ _ _ _ true hw H10.out).mono ?_);rintro e w' ⟨rfl,rfl⟩))
        have hd:Below wr.heap.size wr wr.drew:=(Below.refl _ _).drew;have H11:=Za (H10.out.below hd);have G11:=Za (Zs G10.out (Zr hd g));have HBx_11:=Za HBx_10.out.drew;have HBy_11:=Za HBy_10.out.drew;have HKA11:=Za (Kd.R_below HKA10.out hd);have HWR:Hid (wr.heap.size≤wr.drew.heap.size):=Za G11.out.size;clear hd H10 G10 HBx_10 HBy_10 HKA10
        go_region_law (first
              | (refine Kd.R_append_step kLit (w2.heap.size+1) (by rfl) (.tmp 29) (.tmp 32) 52 58 (.agg #[.int .i64 0,.string ⟨#[]⟩,.slice none 0 0,.int .i64 0,.string ⟨#[]⟩,.int .i64 0,.int .i64 0,.string ⟨#[]⟩,.slice none 0 0,.int .i64 0,.int .i64 0,.int .i64 0,.string ⟨#[]⟩,.slice none 0 0,.int .i64 0,.int .i64 0]) 208 rfl Try.underlying52 infoLit rfl (by decide) (by decide) (.slice p7 l.length c7) l y.1 [.int .i64 y.1.kind,.string y.1.atom.rel,.slice p1 y.1.atom.args.length c1,.int .i64 y.1.atom.at_,.string y.1.op,.int .i64 y.1.l.kind,.int .i64 y.1.l.n,.string y.1.l.s,.slice p2 y.1.l.kids.length c2,.int .i64 y.1.l.at_,.int .i64 y.1.r.kind,.int .i64 y.1.r.n,.string y.1.r.s,.slice p3 y.1.r.kids.length c3,.int .i64 y.1.r.at_,.int .i64 y.1.at_] (fun b=>(w2.heap.size+1)≤b) (fun b=>wr.drew.heap.size≤b) ?a1 ?a2 HM.out (row_new HO.out HN0.out HWR.out) ?aF ?aO (Below.refl _ _) ?aS ?aL ?_
                 (try (case a1=>rfl));(try (case a2=>rfl));(case aF=>exact fun X hX=>by omega)
                 (case aO=>exact R_kept HO.out hgN G12.out)
                 (case aS=>omega)
                 (case aL=>have:=HLK.out;have:=HK.out;omega)
                 intro v1 wn ho hb hgr hat;obtain⟨p9,c9,rfl⟩:=Kd.R_slice ho;have HO2:=Za ho;have hBx:=HBx_12.out.grown hgr (fun e=>by have:=HOW.out _ e.symm;omega);have hBy:=HBy_12.out.grown hgr (fun e=>by have:=HOW.out _ e.symm;omega);have HBx_n:=Za hBx;have HBy_n:=Za hBy;have HKAn:=Za (Kd.R_grown HKA12.out hgr (fun b hb e=>by have:=HOW.out _ e.symm;omega));have HS2:=Za (RS.row_ H12.out hgr (fun X hX=>HX.out X (by have:=HOW.out X hX;omega)));have HG2:=Za (ZX (Zs HG.out G12.out) hgr (fun X hX=>by have:=HOW.out X hX;omega));have qcx:=Zt hBx;have qfx:=Zz hBx;have qcy:=Zt hBy;have qfy:=Zz hBy;have hltx_n:w.heap.size<wn.heap.size:=hBx.lt;have hlty_n:w2.heap.size<wn.heap.size:=hBy.lt;clear ho hb hgr hat hBx hBy G12 H12 HBx_12 HBy_12)
              | (go_simp;go_wp2_with (first
                    | (go_at_call 75;(with_reducible refine (HEL.out _ _ _ _ _ H11.out HY.out).mono ?_);rintro e w12 ⟨va,vl,vr,rfl,hka,hkl,hkr,hr,hb⟩
                       obtain⟨p1,c1,rfl⟩:=Kd.R_slice hka;obtain⟨p2,c2,rfl⟩:=Kd.R_slice hkl;obtain⟨p3,c3,rfl⟩:=Kd.R_slice hkr;have HM:=Za (kLit.M_lower (Ze HN0.out HWR.out) (kLit_mkM _ _ _ y.1 hka hkl hkr));clear hka hkl hkr;obtain⟨H12,G12,hrl_12⟩:=ZE hr G11.out hb;obtain⟨HBx_12,qcx,qfx,hltx_12⟩:=ZB HBx_11 hb (by omega);obtain⟨HBy_12,qcy,qfy,hlty_12⟩:=ZB HBy_11 hb (by omega);have HKA12:=Za (Kd.R_grown HKA11.out hb (fun b hb e=>by injection e with e;omega));clear hr hb H11 G11 HBx_11 HBy_11))))
        (all_goals go_wp2);all_goals go_roundg k1
        all_goals first
         | omega
         | exact⟨false,rfl,Za ⟨_,_,p9,c9,HL1.out,Kd.R_far HO2.out (p:=⟨w2.heap.size,3,none⟩) (fun b hb e=>by have e2:b=w2.heap.size:=e;omega) _,Kd.R_far HKAn.out (p:=⟨w2.heap.size,3,none⟩) (fun b hb e=>by have e2:b=w2.heap.size:=e;omega) _,RS.other HS2.out (HX.out _ (Zd hxy)) 3 _,Zx HG2.out (Zd hxy) 3 _,HBx_n.out.far (p:=⟨w2.heap.size,3,none⟩) (Zf hxy) _,by rw[Zi];exact HBy_n.out.set_ 3 _,by rw[set_size];exact hlty_n,by have:=HLK.out;rw[Zi];simp only[Zj,Zk];omega⟩⟩
    | false=>
      by_cases hs:(may ts [44] s).1=true
      · have hs3:(may ts (ByteArray.mk #[44]).data.toList s).1=true:=hs;rw[bodyL_go ts (goesOn_next hw) hs] at hL;by_cases hlen:16≤l.length
        · have hm:16≤l.length:=hlen;have hmb:decide (16≤l.length)=true:=Zl hm;have hmi:decide (16≤(l.length:Int))=true:=Zl (by omega);have hM:many ts l.length 16 (may ts [44] s).2=fails ts 3 (may ts [44] s).2:=(by unfold many;rw[if_pos hm]);rw[hM] at hL;obtain⟨y,hy,hL⟩:=Zp hL;have HL1:=Za hL;have HY:=Za hy;have HEL:=Za (lit_any ts k1 (by have:=HLK.out;have:=HK.out;omega));clear hL hM hm hy hlen
          go_wp2_with (first
                | (go_at_call 17;(with_reducible refine (ZP _ _ _ _ _ true hw H10.out).mono ?_);rintro e w' ⟨rfl,rfl⟩)
                | (go_at_call 43;(with_reducible refine (ZQ _ _ _ _ _ _ H10.out).mono ?_);rintro e w11 ⟨rfl,hr,hb⟩
                   obtain⟨H11,G11,hrl_11⟩:=ZE hr G10.out hb;obtain⟨HBx_11,qcx,qfx,hltx_11⟩:=ZB HBx_10 hb (by omega);obtain⟨HBy_11,qcy,qfy,hlty_11⟩:=ZB HBy_10 hb (by omega);have HKA11:=Za (Kd.R_grown HKA10.out hb (fun b hb e=>by injection e with e;omega));clear hr hb H10 G10 HBx_10 HBy_10)
                | (go_at_call 16;(with_reducible refine (Z2 _ _ _ _ _ _ H11.out).mono ?_);rintro e w12 ⟨rfl,hr,hb⟩
                   obtain⟨H12,G12,hrl_12⟩:=ZE hr G11.out hb;obtain⟨HBx_12,qcx,qfx,hltx_12⟩:=ZB HBx_11 hb (by omega);obtain⟨HBy_12,qcy,qfy,hlty_12⟩:=ZB HBy_11 hb (by omega);have HKA12:=Za (Kd.R_grown HKA11.out hb (fun b hb e=>by injection e with e;omega));clear hr hb H11 G11 HBx_11 HBy_11))
          have hd:Below w12.heap.size w12 w12.drew:=(Below.refl _ _).drew;have H13:=Za (H12.out.below hd);have G13:=Za (Zs G12.out (Zr hd g));have HBx_13:=Za HBx_12.out.drew;have HBy_13:=Za HBy_12.out.drew;have HKA13:=Za (Kd.R_below HKA12.out hd);have HWR:Hid (wr.heap.size≤w12.drew.heap.size):=Za G13.out.size;clear hd H12 G12 HBx_12 HBy_12 HKA12
          go_region_law (first
                | (refine Kd.R_append_step kLit (w2.heap.size+1) (by rfl) (.tmp 29) (.tmp 32) 52 58 (.agg #[.int .i64 0,.string ⟨#[]⟩,.slice none 0 0,.int .i64 0,.string ⟨#[]⟩,.int .i64 0,.int .i64 0,.string ⟨#[]⟩,.slice none 0 0,.int .i64 0,.int .i64 0,.int .i64 0,.string ⟨#[]⟩,.slice none 0 0,.int .i64 0,.int .i64 0]) 208 rfl Try.underlying52 infoLit rfl (by decide) (by decide) (.slice p7 l.length c7) l y.1 [.int .i64 y.1.kind,.string y.1.atom.rel,.slice p1 y.1.atom.args.length c1,.int .i64 y.1.atom.at_,.string y.1.op,.int .i64 y.1.l.kind,.int .i64 y.1.l.n,.string y.1.l.s,.slice p2 y.1.l.kids.length c2,.int .i64 y.1.l.at_,.int .i64 y.1.r.kind,.int .i64 y.1.r.n,.string y.1.r.s,.slice p3 y.1.r.kids.length c3,.int .i64 y.1.r.at_,.int .i64 y.1.at_] (fun b=>(w2.heap.size+1)≤b) (fun b=>w12.drew.heap.size≤b) ?a1 ?a2 HM.out (row_new HO.out HN0.out HWR.out) ?aF ?aO (Below.refl _ _) ?aS ?aL ?_
                   (try (case a1=>rfl));(try (case a2=>rfl));(case aF=>exact fun X hX=>by omega)
                   (case aO=>exact R_kept HO.out hgN G14.out)
                   (case aS=>omega)
                   (case aL=>have:=HLK.out;have:=HK.out;omega)
                   intro v1 wn ho hb hgr hat;obtain⟨p9,c9,rfl⟩:=Kd.R_slice ho;have HO2:=Za ho;have hBx:=HBx_14.out.grown hgr (fun e=>by have:=HOW.out _ e.symm;omega);have hBy:=HBy_14.out.grown hgr (fun e=>by have:=HOW.out _ e.symm;omega);have HBx_n:=Za hBx;have HBy_n:=Za hBy;have HKAn:=Za (Kd.R_grown HKA14.out hgr (fun b hb e=>by have:=HOW.out _ e.symm;omega));have HS2:=Za (RS.row_ H14.out hgr (fun X hX=>HX.out X (by have:=HOW.out X hX;omega)));have HG2:=Za (ZX (Zs HG.out G14.out) hgr (fun X hX=>by have:=HOW.out X hX;omega));have qcx:=Zt hBx;have qfx:=Zz hBx;have qcy:=Zt hBy;have qfy:=Zz hBy;have hltx_n:w.heap.size<wn.heap.size:=hBx.lt;have hlty_n:w2.heap.size<wn.heap.size:=hBy.lt;clear ho hb hgr hat hBx hBy G14 H14 HBx_14 HBy_14)
                | (go_simp;go_wp2_with (first
                      | (go_at_call 75;(with_reducible refine (HEL.out _ _ _ _ _ H13.out HY.out).mono ?_);rintro e w14 ⟨va,vl,vr,rfl,hka,hkl,hkr,hr,hb⟩
                         obtain⟨p1,c1,rfl⟩:=Kd.R_slice hka;obtain⟨p2,c2,rfl⟩:=Kd.R_slice hkl;obtain⟨p3,c3,rfl⟩:=Kd.R_slice hkr;have HM:=Za (kLit.M_lower (Ze HN0.out HWR.out) (kLit_mkM _ _ _ y.1 hka hkl hkr));clear hka hkl hkr;obtain⟨H14,G14,hrl_14⟩:=ZE hr G13.out hb;obtain⟨HBx_14,qcx,qfx,hltx_14⟩:=ZB HBx_13 hb (by omega);obtain⟨HBy_14,qcy,qfy,hlty_14⟩:=ZB HBy_13 hb (by omega);have HKA14:=Za (Kd.R_grown HKA13.out hb (fun b hb e=>by injection e with e;omega));clear hr hb H13 G13 HBx_13 HBy_13))))
          (all_goals go_wp2);all_goals go_roundg k1
          all_goals first
           | omega
           | exact⟨false,rfl,Za ⟨_,_,p9,c9,HL1.out,Kd.R_far HO2.out (p:=⟨w2.heap.size,3,none⟩) (fun b hb e=>by have e2:b=w2.heap.size:=e;omega) _,Kd.R_far HKAn.out (p:=⟨w2.heap.size,3,none⟩) (fun b hb e=>by have e2:b=w2.heap.size:=e;omega) _,RS.other HS2.out (HX.out _ (Zd hxy)) 3 _,Zx HG2.out (Zd hxy) 3 _,HBx_n.out.far (p:=⟨w2.heap.size,3,none⟩) (Zf hxy) _,by rw[Zi];exact HBy_n.out.set_ 3 _,by rw[set_size];exact hlty_n,by have:=HLK.out;rw[Zi];simp only[Zj,Zk];omega⟩⟩
        · have hm:¬16≤l.length:=hlen;have hmb:decide (16≤l.length)=false:=Zm hm;have hmi:decide (16≤(l.length:Int))=false:=Zm (by omega);have hM:many ts l.length 16 (may ts [44] s).2=(may ts [44] s).2:=(by unfold many;rw[if_neg hm]);rw[hM] at hL;obtain⟨y,hy,hL⟩:=Zp hL;have HL1:=Za hL;have HY:=Za hy;have HEL:=Za (lit_any ts k1 (by have:=HLK.out;have:=HK.out;omega));clear hL hM hm hy hlen
          go_wp2_with (first
                | (go_at_call 17;(with_reducible refine (ZP _ _ _ _ _ true hw H10.out).mono ?_);rintro e w' ⟨rfl,rfl⟩)
                | (go_at_call 43;(with_reducible refine (ZQ _ _ _ _ _ _ H10.out).mono ?_);rintro e w11 ⟨rfl,hr,hb⟩
                   obtain⟨H11,G11,hrl_11⟩:=ZE hr G10.out hb;obtain⟨HBx_11,qcx,qfx,hltx_11⟩:=ZB HBx_10 hb (by omega);obtain⟨HBy_11,qcy,qfy,hlty_11⟩:=ZB HBy_10 hb (by omega);have HKA11:=Za (Kd.R_grown HKA10.out hb (fun b hb e=>by injection e with e;omega));clear hr hb H10 G10 HBx_10 HBy_10))
          have hd:Below w11.heap.size w11 w11.drew:=(Below.refl _ _).drew;have H12:=Za (H11.out.below hd);have G12:=Za (Zs G11.out (Zr hd g));have HBx_12:=Za HBx_11.out.drew;have HBy_12:=Za HBy_11.out.drew;have HKA12:=Za (Kd.R_below HKA11.out hd);have HWR:Hid (wr.heap.size≤w11.drew.heap.size):=Za G12.out.size;clear hd H11 G11 HBx_11 HBy_11 HKA11
          go_region_law (first
                | (refine Kd.R_append_step kLit (w2.heap.size+1) (by rfl) (.tmp 29) (.tmp 32) 52 58 (.agg #[.int .i64 0,.string ⟨#[]⟩,.slice none 0 0,.int .i64 0,.string ⟨#[]⟩,.int .i64 0,.int .i64 0,.string ⟨#[]⟩,.slice none 0 0,.int .i64 0,.int .i64 0,.int .i64 0,.string ⟨#[]⟩,.slice none 0 0,.int .i64 0,.int .i64 0]) 208 rfl Try.underlying52 infoLit rfl (by decide) (by decide) (.slice p7 l.length c7) l y.1 [.int .i64 y.1.kind,.string y.1.atom.rel,.slice p1 y.1.atom.args.length c1,.int .i64 y.1.atom.at_,.string y.1.op,.int .i64 y.1.l.kind,.int .i64 y.1.l.n,.string y.1.l.s,.slice p2 y.1.l.kids.length c2,.int .i64 y.1.l.at_,.int .i64 y.1.r.kind,.int .i64 y.1.r.n,.string y.1.r.s,.slice p3 y.1.r.kids.length c3,.int .i64 y.1.r.at_,.int .i64 y.1.at_] (fun b=>(w2.heap.size+1)≤b) (fun b=>w11.drew.heap.size≤b) ?a1 ?a2 HM.out (row_new HO.out HN0.out HWR.out) ?aF ?aO (Below.refl _ _) ?aS ?aL ?_
                   (try (case a1=>rfl));(try (case a2=>rfl));(case aF=>exact fun X hX=>by omega)
                   (case aO=>exact R_kept HO.out hgN G13.out)
                   (case aS=>omega)
                   (case aL=>have:=HLK.out;have:=HK.out;omega)
                   intro v1 wn ho hb hgr hat;obtain⟨p9,c9,rfl⟩:=Kd.R_slice ho;have HO2:=Za ho;have hBx:=HBx_13.out.grown hgr (fun e=>by have:=HOW.out _ e.symm;omega);have hBy:=HBy_13.out.grown hgr (fun e=>by have:=HOW.out _ e.symm;omega);have HBx_n:=Za hBx;have HBy_n:=Za hBy;have HKAn:=Za (Kd.R_grown HKA13.out hgr (fun b hb e=>by have:=HOW.out _ e.symm;omega));have HS2:=Za (RS.row_ H13.out hgr (fun X hX=>HX.out X (by have:=HOW.out X hX;omega)));have HG2:=Za (ZX (Zs HG.out G13.out) hgr (fun X hX=>by have:=HOW.out X hX;omega));have qcx:=Zt hBx;have qfx:=Zz hBx;have qcy:=Zt hBy;have qfy:=Zz hBy;have hltx_n:w.heap.size<wn.heap.size:=hBx.lt;have hlty_n:w2.heap.size<wn.heap.size:=hBy.lt;clear ho hb hgr hat hBx hBy G13 H13 HBx_13 HBy_13)
                | (go_simp;go_wp2_with (first
                      | (go_at_call 75;(with_reducible refine (HEL.out _ _ _ _ _ H12.out HY.out).mono ?_);rintro e w13 ⟨va,vl,vr,rfl,hka,hkl,hkr,hr,hb⟩
                         obtain⟨p1,c1,rfl⟩:=Kd.R_slice hka;obtain⟨p2,c2,rfl⟩:=Kd.R_slice hkl;obtain⟨p3,c3,rfl⟩:=Kd.R_slice hkr;have HM:=Za (kLit.M_lower (Ze HN0.out HWR.out) (kLit_mkM _ _ _ y.1 hka hkl hkr));clear hka hkl hkr;obtain⟨H13,G13,hrl_13⟩:=ZE hr G12.out hb;obtain⟨HBx_13,qcx,qfx,hltx_13⟩:=ZB HBx_12 hb (by omega);obtain⟨HBy_13,qcy,qfy,hlty_13⟩:=ZB HBy_12 hb (by omega);have HKA13:=Za (Kd.R_grown HKA12.out hb (fun b hb e=>by injection e with e;omega));clear hr hb H12 G12 HBx_12 HBy_12))))
          (all_goals go_wp2);all_goals go_roundg k1
          all_goals first
           | omega
           | exact⟨false,rfl,Za ⟨_,_,p9,c9,HL1.out,Kd.R_far HO2.out (p:=⟨w2.heap.size,3,none⟩) (fun b hb e=>by have e2:b=w2.heap.size:=e;omega) _,Kd.R_far HKAn.out (p:=⟨w2.heap.size,3,none⟩) (fun b hb e=>by have e2:b=w2.heap.size:=e;omega) _,RS.other HS2.out (HX.out _ (Zd hxy)) 3 _,Zx HG2.out (Zd hxy) 3 _,HBx_n.out.far (p:=⟨w2.heap.size,3,none⟩) (Zf hxy) _,by rw[Zi];exact HBy_n.out.set_ 3 _,by rw[set_size];exact hlty_n,by have:=HLK.out;rw[Zi];simp only[Zj,Zk];omega⟩⟩
      · have hs2:(may ts [44] s).1=false:=(by simpa using hs);have hs3:(may ts (ByteArray.mk #[44]).data.toList s).1=false:=hs2;rw[bodyL_stop ts (goesOn_next hw) hs2] at hL;injection hL with hL
        subst hL;clear HLK
        go_wp2_with (first
              | (go_at_call 17;(with_reducible refine (ZP _ _ _ _ _ true hw H10.out).mono ?_);rintro e w' ⟨rfl,rfl⟩)
              | (go_at_call 43;(with_reducible refine (ZQ _ _ _ _ _ _ H10.out).mono ?_);rintro e w11 ⟨rfl,hr,hb⟩
                 obtain⟨H11,G11,hrl_11⟩:=ZE hr G10.out hb;obtain⟨HBx_11,qcx,qfx,hltx_11⟩:=ZB HBx_10 hb (by omega);obtain⟨HBy_11,qcy,qfy,hlty_11⟩:=ZB HBy_10 hb (by omega);have HKA11:=Za (Kd.R_grown HKA10.out hb (fun b hb e=>by injection e with e;omega));clear hr hb H10 G10 HBx_10 HBy_10)
              | (go_at_call 50;(with_reducible refine (must_any _ _ _ _ _ _ H11.out).mono ?_);rintro e w12 ⟨rfl,hr,hb⟩
                 obtain⟨H12,G12,hrl_12⟩:=ZE hr G11.out hb;obtain⟨HBx_12,qcx,qfx,hltx_12⟩:=ZB HBx_11 hb (by omega);obtain⟨HBy_12,qcy,qfy,hlty_12⟩:=ZB HBy_11 hb (by omega);have HKA12:=Za (Kd.R_grown HKA11.out hb (fun b hb e=>by injection e with e;omega));have HO2:=Za (Kd.R_grown HO.out (Zs G11.out hb) (fun b hb e=>by injection e with e;omega));clear hr hb H11 G11 HBx_11 HBy_11))
        refine bodyPost_ret (results_cell_row rfl _ _ w.heap.size 54 #[.string a.1.rel,.slice pa a.1.args.length ca,.int .i64 a.1.at_,.slice p7 l.length c7,.int .i64 ((cur ts st).at_:Int)] (0,0) _ rfl ?_ Try.underlying54 rfl (by kernel_rfl)) rfl ?_
        · exact ZS HBx_12.out
        · refine⟨.slice pa a.1.args.length ca,.slice p7 l.length c7,rfl,?_,?_,?_,?_,?_⟩
          · exact Kd.R_mono (Kd.R_lower (five_R HKA12.out (fun b hb=>by omega)) (by omega)) (fun b hb=>by omega)
          · exact Kd.R_mono (Kd.R_lower (five_R HO2.out (fun b hb=>by omega)) (by omega)) (fun b hb=>by omega)
          · exact fun b hb1 hb2=>by have:=HKA12.out.1 b hb1;have:=HO2.out.1 b hb2;omega
          · exact ZZ H12.out (HX.out _ (Zc _))
          · exact ZY (Zs HG.out G12.out) (Zc _)
  · have hw2:well s=false:=(by simpa using hw);rw[bodyL_stop ts (goesOn_not hw2) rfl] at hL;injection hL with hL
    subst hL;clear HLK
    go_wp2_with (first
          | (go_at_call 17;(with_reducible refine (ZP _ _ _ _ _ false hw2 H10.out).mono ?_);rintro e w' ⟨rfl,rfl⟩)
          | (go_at_call 50;(with_reducible refine (must_any _ _ _ _ _ _ H10.out).mono ?_);rintro e w11 ⟨rfl,hr,hb⟩
             obtain⟨H11,G11,hrl_11⟩:=ZE hr G10.out hb;obtain⟨HBx_11,qcx,qfx,hltx_11⟩:=ZB HBx_10 hb (by omega);obtain⟨HBy_11,qcy,qfy,hlty_11⟩:=ZB HBy_10 hb (by omega);have HKA11:=Za (Kd.R_grown HKA10.out hb (fun b hb e=>by injection e with e;omega));have HO2:=Za (Kd.R_grown HO.out (Zs G10.out hb) (fun b hb e=>by injection e with e;omega));clear hr hb H10 G10 HBx_10 HBy_10))
    refine bodyPost_ret (results_cell_row rfl _ _ w.heap.size 54 #[.string a.1.rel,.slice pa a.1.args.length ca,.int .i64 a.1.at_,.slice p7 l.length c7,.int .i64 ((cur ts st).at_:Int)] (0,0) _ rfl ?_ Try.underlying54 rfl (by kernel_rfl)) rfl ?_
    · exact ZS HBx_11.out
    · refine⟨.slice pa a.1.args.length ca,.slice p7 l.length c7,rfl,?_,?_,?_,?_,?_⟩
      · exact Kd.R_mono (Kd.R_lower (five_R HKA11.out (fun b hb=>by omega)) (by omega)) (fun b hb=>by omega)
      · exact Kd.R_mono (Kd.R_lower (five_R HO2.out (fun b hb=>by omega)) (by omega)) (fun b hb=>by omega)
      · exact fun b hb1 hb2=>by have:=HKA11.out.1 b hb1;have:=HO2.out.1 b hb2;omega
      · exact ZZ H11.out (HX.out _ (Zc _))
      · exact ZY (Zs HG.out G11.out) (Zc _)
end
end RefClause
namespace RefProgS
open Go Go.RowKit RefPure RefKinds RefMem RefKind RefKindL RefClause YtddmceldglelkaaW.PrintWords
open LexPure (T lex)
def Off (n0:Nat) (os:List Value) (b:Nat):Prop:=n0≤b∧∀ o∈os,o.ownBlock≠some b
theorem off_next {α:Type} {d:Kd α} {e n0:Nat} {W w1:World} {os os':List Value} {v v1 vl:Value} {l:List α} (h:d.R e W n0 (Off n0 os) vl l) (hv:v∈os) (hgr:W.grownBy w1 v.ownBlock)
    (hat:v1.ownBlock=v.ownBlock∨∃ b,v1.ownBlock=some b∧W.heap.size≤b) (hos:∀ o∈os',o∈os∨o=v1):d.R e w1 n0 (Off n0 os') vl l:=by
 have h1:=Kd.R_mono (ok':=fun b=>Off n0 os b∧b<W.heap.size) (Kd.R_bound h) (fun b hb=>⟨hb.1,hb.2.2.1⟩);have h2:=Kd.R_grown h1 hgr (fun b hb e=>hb.1.2 v hv e.symm);refine Kd.R_mono h2 (fun b hb=>⟨hb.1.1,fun o ho=>?_⟩);rcases hos o ho with q|q
 · exact hb.1.2 o q
 · subst q;rcases hat with q|⟨c,q,hc⟩
   · rw[q];exact hb.1.2 v hv
   · rw[q];intro e2;injection e2 with e2
     have:=hb.2;omega
structure Rows (w:World) (n0:Nat) (vT vD vC vI vL:Value) (p:ProgT):Prop where
 t:kTDecl.R 73 w n0 (Off n0 [vD,vC,vI,vL]) vT p.types
 d:kDecl.R 46 w n0 (Off n0 [vT,vC,vI,vL]) vD p.decls
 c:kComp.R 42 w n0 (Off n0 [vT,vD,vI,vL]) vC p.comps
 i:kInit.R 48 w n0 (Off n0 [vT,vD,vC,vL]) vI p.inits
 l:kClause.R 54 w n0 (Off n0 [vT,vD,vC,vI]) vL p.clauses
section
variable {w w1:World} {n0:Nat} {vT vD vC vI vL v1:Value} {p:ProgT}
theorem Rows.nil (w:World) (n0:Nat):Rows w n0 (.slice none 0 0) (.slice none 0 0) (.slice none 0 0) (.slice none 0 0) (.slice none 0 0) prog0:=
 ⟨Kd.R_nil _ _ _ _ _,Kd.R_nil _ _ _ _ _,Kd.R_nil _ _ _ _ _,Kd.R_nil _ _ _ _ _,Kd.R_nil _ _ _ _ _⟩
theorem Rows.grown (h:Rows w n0 vT vD vC vI vL p) {g:Nat} (hg:g<n0) (hG:w.grownBy w1 (some g)):Rows w1 n0 vT vD vC vI vL p:=by
 have q:∀ (os:List Value) (b:Nat),Off n0 os b→some b≠some g:=fun os b hb e=>by injection e with e;have:=hb.1;omega
 exact⟨Kd.R_grown h.t hG (q _),Kd.R_grown h.d hG (q _),Kd.R_grown h.c hG (q _),Kd.R_grown h.i hG (q _),Kd.R_grown h.l hG (q _)⟩
theorem Rows.far (h:Rows w n0 vT vD vC vI vL p) {X:Nat} (hX:X<n0) (j:Nat) (u:Value):Rows (w.setCell ⟨X,j,none⟩ u) n0 vT vD vC vI vL p:=by have q:∀ (os:List Value) (b:Nat),Off n0 os b→b≠(Addr.mk X j none).block:=fun os b hb e=>(by have e2:b=X:=e;have:=hb.1;omega);exact⟨Kd.R_far h.t (q _) u,Kd.R_far h.d (q _) u,Kd.R_far h.c (q _) u,Kd.R_far h.i (q _) u,Kd.R_far h.l (q _) u⟩
theorem Rows.lower (h:Rows w n0 vT vD vC vI vL p) {m:Nat} (hm:m≤n0):Rows w m vT vD vC vI vL p:=by have q:∀ (os:List Value) (b:Nat),Off n0 os b→Off m os b:=fun os b hb=>⟨Ze hm hb.1,hb.2⟩;exact⟨Kd.R_mono (Kd.R_lower h.t hm) (q _),Kd.R_mono (Kd.R_lower h.d hm) (q _),Kd.R_mono (Kd.R_lower h.c hm) (q _),Kd.R_mono (Kd.R_lower h.i hm) (q _),Kd.R_mono (Kd.R_lower h.l hm) (q _)⟩
theorem Rows.below (h:Rows w n0 vT vD vC vI vL p) (hb:Below w.heap.size w w1):Rows w1 n0 vT vD vC vI vL p:=
 ⟨Kd.R_below h.t hb,Kd.R_below h.d hb,Kd.R_below h.c hb,Kd.R_below h.i hb,Kd.R_below h.l hb⟩
theorem Rows.newer (h:Rows w n0 vT vD vC vI vL p) (k:Nat) (hk:w.heap.size≤k):∀ o∈[vT,vD,vC,vI,vL],o.ownBlock≠some k:=by
 intro o ho e;have:k<w.heap.size:=by
  simp only[List.mem_cons,List.not_mem_nil,or_false] at ho;rcases ho with rfl|rfl|rfl|rfl|rfl
  · exact Kd.R_lt h.t k e
  · exact Kd.R_lt h.d k e
  · exact Kd.R_lt h.c k e
  · exact Kd.R_lt h.i k e
  · exact Kd.R_lt h.l k e
 omega
theorem Rows.off (h:Rows w n0 vT vD vC vI vL p) (h0:n0≤w.heap.size) (os:List Value) (hos:∀ o∈os,o∈[vT,vD,vC,vI,vL]) (k:Nat) (hk:w.heap.size≤k):Off n0 os k:=
 ⟨Ze h0 hk,fun o ho=>h.newer k hk o (hos o ho)⟩
theorem Rows.own (h:Rows w n0 vT vD vC vI vL p):∀ o∈[vT,vD,vC,vI,vL],∀ k,o.ownBlock=some k→n0≤k:=by
 intro o ho k e;simp only[List.mem_cons,List.not_mem_nil,or_false] at ho;rcases ho with rfl|rfl|rfl|rfl|rfl
 · exact Kd.R_base h.t k e
 · exact Kd.R_base h.d k e
 · exact Kd.R_base h.c k e
 · exact Kd.R_base h.i k e
 · exact Kd.R_base h.l k e
theorem Rows.addT (h:Rows w n0 vT vD vC vI vL p) {x:TDecl} (ho:kTDecl.R 73 w1 n0 (Off n0 [vD,vC,vI,vL]) v1 (p.types++[x])) (hgr:w.grownBy w1 vT.ownBlock) (hat:v1.ownBlock=vT.ownBlock∨∃ b,v1.ownBlock=some b∧w.heap.size≤b):Rows w1 n0 v1 vD vC vI vL (RefPure.addT p x):=
 ⟨ho,off_next h.d (by simp) hgr hat (by simp),off_next h.c (by simp) hgr hat (by simp),off_next h.i (by simp) hgr hat (by simp),off_next h.l (by simp) hgr hat (by simp)⟩
theorem Rows.addD (h:Rows w n0 vT vD vC vI vL p) {x:DeclT} (ho:kDecl.R 46 w1 n0 (Off n0 [vT,vC,vI,vL]) v1 (p.decls++[x])) (hgr:w.grownBy w1 vD.ownBlock) (hat:v1.ownBlock=vD.ownBlock∨∃ b,v1.ownBlock=some b∧w.heap.size≤b):Rows w1 n0 vT v1 vC vI vL (RefPure.addD p x):=
 ⟨off_next h.t (by simp) hgr hat (by simp),ho,off_next h.c (by simp) hgr hat (by simp),off_next h.i (by simp) hgr hat (by simp),off_next h.l (by simp) hgr hat (by simp)⟩
theorem Rows.addC (h:Rows w n0 vT vD vC vI vL p) {x:CompT} (ho:kComp.R 42 w1 n0 (Off n0 [vT,vD,vI,vL]) v1 (p.comps++[x])) (hgr:w.grownBy w1 vC.ownBlock) (hat:v1.ownBlock=vC.ownBlock∨∃ b,v1.ownBlock=some b∧w.heap.size≤b):Rows w1 n0 vT vD v1 vI vL (RefPure.addC p x):=
 ⟨off_next h.t (by simp) hgr hat (by simp),off_next h.d (by simp) hgr hat (by simp),ho,off_next h.i (by simp) hgr hat (by simp),off_next h.l (by simp) hgr hat (by simp)⟩
theorem Rows.addI (h:Rows w n0 vT vD vC vI vL p) {x:InitT} (ho:kInit.R 48 w1 n0 (Off n0 [vT,vD,vC,vL]) v1 (p.inits++[x])) (hgr:w.grownBy w1 vI.ownBlock) (hat:v1.ownBlock=vI.ownBlock∨∃ b,v1.ownBlock=some b∧w.heap.size≤b):Rows w1 n0 vT vD vC v1 vL (RefPure.addI p x):=
 ⟨off_next h.t (by simp) hgr hat (by simp),off_next h.d (by simp) hgr hat (by simp),off_next h.c (by simp) hgr hat (by simp),ho,off_next h.l (by simp) hgr hat (by simp)⟩
theorem Rows.addCl (h:Rows w n0 vT vD vC vI vL p) {x:ClauseT} (ho:kClause.R 54 w1 n0 (Off n0 [vT,vD,vC,vI]) v1 (p.clauses++[x])) (hgr:w.grownBy w1 vL.ownBlock) (hat:v1.ownBlock=vL.ownBlock∨∃ b,v1.ownBlock=some b∧w.heap.size≤b):Rows w1 n0 vT vD vC vI v1 (RefPure.addCl p x):=
 ⟨off_next h.t (by simp) hgr hat (by simp),off_next h.d (by simp) hgr hat (by simp),off_next h.c (by simp) hgr hat (by simp),off_next h.i (by simp) hgr hat (by simp),ho⟩
end
theorem infoTDecl:(Try.prog.info? 73).map (fun i=>(i.zero,i.size,i.bytes))=some (some (.agg #[.string ⟨#[]⟩,.string ⟨#[]⟩,.slice none 0 0,.int .i64 0]),4,64):=by kernel_rfl
theorem infoDecl:(Try.prog.info? 46).map (fun i=>(i.zero,i.size,i.bytes))=some (some (.agg #[.string ⟨#[]⟩,.slice none 0 0,.bool false,.bool false,.int .i64 0]),5,56):=by kernel_rfl
theorem infoInit:(Try.prog.info? 48).map (fun i=>(i.zero,i.size,i.bytes))=some (some (.agg #[.string ⟨#[]⟩,.string ⟨#[]⟩,.int .i64 0]),3,40):=by kernel_rfl
theorem infoClause:(Try.prog.info? 54).map (fun i=>(i.zero,i.size,i.bytes))=some (some (.agg #[.string ⟨#[]⟩,.slice none 0 0,.int .i64 0,.slice none 0 0,.int .i64 0]),5,80):=by kernel_rfl
theorem infoComp:(Try.prog.info? 42).map (fun i=>(i.zero,i.size,i.bytes))=some (some (.agg #[.string ⟨#[]⟩,.slice none 0 0,.slice none 0 0,.slice none 0 0,.slice none 0 0,.slice none 0 0,.slice none 0 0,.int .i64 0]),8,168):=by kernel_rfl
theorem infoStr:(Try.prog.info? 9).map (fun i=>(i.zero,i.size,i.bytes))=some (some (.string ⟨#[]⟩),1,16):=by kernel_rfl
section
variable (ts:List T)
theorem kind_any (k:Nat) (hk:k≤549755813888) (at_:Int) (w:World) (g:Nat) (v:Value) (st:St) (r:TDecl×St) (h:RS w g v ts st) (hF:kind ts k at_ st=some r):Calls Try.prog 44 #[.pointer (some ⟨g,0,none⟩),.int .i64 at_] w (KindPost w g v ts r):=by
 by_cases hy:(may ts [60,58] (RefPure.word ts st).2).1=true
 · exact kind_sub ts k at_ w g v st r h hF hy
 · exact kind_ctors ts k hk at_ w g v st r h hF (by simpa using hy)
theorem clause_any (k:Nat) (hk:k≤549755813888) (w:World) (g:Nat) (v:Value) (st:St) (r:ClauseT×St) (h:RS w g v ts st) (hF:clause ts k st=some r):Calls Try.prog 52 #[.pointer (some ⟨g,0,none⟩)] w (ClausePost w g v ts r):=by
 unfold clause at hF;obtain⟨a,ha,hF⟩:=Zp hF;by_cases hy:(may ts [58,45] a.2).1=true
 · rw[if_pos hy] at hF;obtain⟨b,hb,hr⟩:=Zp hF;injection hr with hr
   exact clause_body ts k hk w g v st r h a ha hy b hb hr.symm
 · rw[if_neg hy] at hF;injection hF with hr
   exact clause_fact ts k hk w g v st r h a ha (by simpa using hy) hr.symm
def ProgPost (w:World) (g:Nat) (v:Value) (ts:List T) (r:ProgT×St) (e:Ending) (w':World):Prop:=
 ∃ vT vD vC vI vL,e=.returned (.agg #[vT,vD,vC,vI,vL])∧Rows w' w.heap.size vT vD vC vI vL r.1∧RS w' g v ts r.2∧w.grownBy w' (some g)
def CompPost (w:World) (g:Nat) (v:Value) (ts:List T) (r:CompT×St) (e:Ending) (w':World):Prop:=
 ∃ vb vT vD vC vI vL,e=.returned (.agg #[.string r.1.name,vb,vT,vD,vC,vI,vL,.int .i64 r.1.at_])∧Kd.string.R 9 w' w.heap.size (fun b=>w.heap.size≤b) vb r.1.bases∧Rows w' w.heap.size vT vD vC vI vL r.1.body∧RS w' g v ts r.2∧w.grownBy w' (some g)
def PProg (ts:List T) (k:Nat):Prop:=∀ w g v st r,RS w g v ts st→prog ts k prog0 st=some r→Calls Try.prog 14 #[.pointer (some ⟨g,0,none⟩)] w (ProgPost w g v ts r)
def PComp (ts:List T) (k:Nat):Prop:=∀ w g v st r at_,RS w g v ts st→comp ts k at_ st=some r→Calls Try.prog 48 #[.pointer (some ⟨g,0,none⟩),.int .i64 at_] w (CompPost w g v ts r)
end
end RefProgS
end Go.Proofs.Ytddmceldglelkaa
