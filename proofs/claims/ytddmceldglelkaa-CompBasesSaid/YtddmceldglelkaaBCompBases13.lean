/- A claim's texts, in the order of what they need: RefNeg. -/
import Derived.Test.YtddmceldglelkaaBCompBases12
import Derived.Deep.RegionHeld3
set_option maxRecDepth 100000
set_option maxHeartbeats 8000000
set_option linter.unusedVariables false
set_option linter.unusedSimpArgs false
set_option linter.unusedSectionVars false
namespace Go.Proofs.Ytddmceldglelkaa
namespace RefNeg
open Go Go.RowKit RefPure RefKinds RefMem RefTake RefSmall RefFields RefExprs RefExpr RefOne YtddmceldglelkaaW.PrintWords
open LexPure (T lex)
attribute [local go_sem] fld0 fld1 fld2 fld3
theorem R_lit2 {α:Type} {d:Kd α} (e:Nat) {w:World} {base:Nat} {ok okp:Nat→Prop} {x y:α} {c1 c2:List Value} (h1:d.M w base okp x c1) (h2:d.M w base okp y c2) (hk:∀ k,okp k→ok k) (hb:base≤w.heap.size) (hok:ok w.heap.size) :
    d.R e (w.alloc (.cells (c1++c2).toArray e)) base ok (.slice (some ⟨w.heap.size,0,none⟩) 2 2) [x,y]:=by
 have step:∀ {q:α} {c:List Value},d.M w base okp q c→d.M (w.alloc (.cells (c1++c2).toArray e)) base (fun k=>ok k∧some k≠(Value.slice (some ⟨w.heap.size,0,none⟩) 2 2).ownBlock) q c:=(by intro q c h;have hm:=d.M_move (w1:=w.alloc (.cells (c1++c2).toArray e)) (fun k hk=>Below.heap_alloc w _ k hk.2.2.1) (d.M_bound h);refine d.M_mono (fun k hk'=>⟨hk k hk'.1,fun he=>?_⟩) hm;have h3:k=w.heap.size:=(by simpa [Value.ownBlock] using he);have h4:=hk'.2.2.1;omega);refine⟨fun k hk=>?_,?_⟩
 · have h3:w.heap.size=k:=(by simpa [Value.ownBlock] using hk);exact h3▸hok
 refine OwnRow.lit (ps:=[x,y]) w base ?_ hb (by simp);have h:=((Reps.none _ d.sz).snoc (step h1) (d.K_len (d.K_of_M h1))).snoc (step h2) (d.K_len (d.K_of_M h2));simpa using h
section
variable (ts:List T)
theorem one_sign (k:Nat) (w:World) (g:Nat) (v:Value) (st:St) (r:Ex×St) (h:RS w g v ts st) (hF:one ts (k+1) st=some r) (h2:¬(cur ts st).kind=2) (h3:¬(cur ts st).kind=3) (h1:¬(cur ts st).kind=1) (hy1:(may ts [45] st).1=true) (hn2:¬(cur ts (may ts [45] st).2).kind=2) (HE:Hid (∀ w g v st r,RS w g v ts st→factor ts k st=some r→Calls Try.prog 91 #[.pointer (some ⟨g,0,none⟩)] w (ExPost w g v ts r))):Calls Try.prog 93 #[.pointer (some ⟨g,0,none⟩)] w (ExPost w g v ts r):=by
 have H0:=Za h;have G0:=Za (ZL w g);have hg:=h.blk.lt;have HX:=Za (fun X (hX:w.heap.size≤X)=>h.elder hX);rw[one,if_neg h2,if_neg h3,if_neg h1,if_pos hy1,if_neg hn2] at hF;obtain⟨x,hx,hr0⟩:=Zp hF;injection hr0 with hr0
 have HF:=Za hr0.symm;have HX1:Hid (factor ts k (may ts (ByteArray.mk #[45]).data.toList st).2=some x):=Za hx;clear hF hx hr0;have hk2:((cur ts st).kind==2)=false:=Zo h2;have hk3:((cur ts st).kind==3)=false:=Zo h3;have hk1:((cur ts st).kind==1)=false:=Zo h1;have hm1:(may ts (ByteArray.mk #[45]).data.toList st).1=true:=hy1;have hk2b:((cur ts (may ts (ByteArray.mk #[45]).data.toList st).2).kind==2)=false:=Zo hn2;clear h2 h3 h1 hy1 hn2;clear h;go_enter Try.func93,Try.ntmps93
 go_wp2_with (first
       | (go_at_call 15;(with_reducible refine (ZK _ _ _ _ _ (H0.out.alloc _)).mono ?_);rintro e w1 ⟨rfl,hb⟩
          have hr:=((H0.out.alloc (.cells #[.int .i64 0,.int .i64 0,.string ⟨#[]⟩,.slice none 0 0,.int .i64 0] 56)).below hb);have H1:=Za ((hr.alloc (.cells #[.int .i64 (cur ts st).kind,.string (str (cur ts st).text),.int .i64 (cur ts st).n,.int .i64 ((cur ts st).at_:Int)] 63)).alloc (.cells #[.int .i64 0,.int .i64 0,.string ⟨#[]⟩,.slice none 0 0,.int .i64 ((cur ts st).at_:Int)] 56));have G1:=Za (ZD (ZD (Zs (ZD G0.out _) (Zr hb g)) (.cells #[.int .i64 (cur ts st).kind,.string (str (cur ts st).text),.int .i64 (cur ts st).n,.int .i64 ((cur ts st).at_:Int)] 63)) (.cells #[.int .i64 0,.int .i64 0,.string ⟨#[]⟩,.slice none 0 0,.int .i64 ((cur ts st).at_:Int)] 56));have hlt1:w.heap.size<w1.heap.size:=(by have:=hb.size;simp at this;omega);have hB2:=(Blk.new w 56 #[.int .i64 0,.int .i64 0,.string ⟨#[]⟩,.slice none 0 0,.int .i64 0]).grown (Zr hb g) (fun e=>Zg hg (Zb e));have HB21:=Za ((hB2.alloc (.cells #[.int .i64 (cur ts st).kind,.string (str (cur ts st).text),.int .i64 (cur ts st).n,.int .i64 ((cur ts st).at_:Int)] 63)).alloc (.cells #[.int .i64 0,.int .i64 0,.string ⟨#[]⟩,.slice none 0 0,.int .i64 ((cur ts st).at_:Int)] 56));have HB31:=Za ((Blk.new w1 63 #[.int .i64 (cur ts st).kind,.string (str (cur ts st).text),.int .i64 (cur ts st).n,.int .i64 ((cur ts st).at_:Int)]).alloc (.cells #[.int .i64 0,.int .i64 0,.string ⟨#[]⟩,.slice none 0 0,.int .i64 ((cur ts st).at_:Int)] 56));have HB41:Hid (Blk ((w1.alloc (.cells #[.int .i64 (cur ts st).kind,.string (str (cur ts st).text),.int .i64 (cur ts st).n,.int .i64 ((cur ts st).at_:Int)] 63)).alloc (.cells #[.int .i64 0,.int .i64 0,.string ⟨#[]⟩,.slice none 0 0,.int .i64 ((cur ts st).at_:Int)] 56)) (w1.heap.size+1) 56 #[.int .i64 0,.int .i64 0,.string ⟨#[]⟩,.slice none 0 0,.int .i64 ((cur ts st).at_:Int)]):=Za (by have:=Blk.new (w1.alloc (.cells #[.int .i64 (cur ts st).kind,.string (str (cur ts st).text),.int .i64 (cur ts st).n,.int .i64 ((cur ts st).at_:Int)] 63)) 56 #[.int .i64 0,.int .i64 0,.string ⟨#[]⟩,.slice none 0 0,.int .i64 ((cur ts st).at_:Int)];simpa using this);have hr1:=hr.blk.lt;obtain⟨z0,z1,z2,z3,z4⟩:=Zt hB2;obtain⟨fz0,fz1,fz2,fz3,fz4⟩:=Zz hB2;clear hr hb hB2 H0 G0)
       | (go_at_call 43;(with_reducible refine (ZQ _ _ _ _ _ _ H1.out).mono ?_);rintro e w2 ⟨rfl,hr,hb⟩
          have H2:=Za hr;have G2:=Za (Zs G1.out hb);have hB2:=HB21.out.grown hb (fun e=>Zg hg (Zb e));have hB3:=HB31.out.grown hb (fun e=>Zg hr1 (Zb e));have hB4:=HB41.out.grown hb (fun e=>by have:=Zb e;omega);have HB22:=Za hB2;have HB32:=Za hB3;have HB42:=Za hB4;obtain⟨z0,z1,z2,z3,z4⟩:=Zt hB2;obtain⟨fz0,fz1,fz2,fz3,fz4⟩:=Zz hB2;obtain⟨y0,y1,y2,y3,y4⟩:=Zt hB4;obtain⟨fy0,fy1,fy2,fy3,fy4⟩:=Zz hB4;have q0:=hB3.cell 0;have q1:=hB3.cell 1;have q2:=hB3.cell 2;have q3:=hB3.cell 3;simp at q0 q1 q2 q3;have hlt2:w1.heap.size+1<w2.heap.size:=hB4.lt;clear hr hb hB2 hB3 hB4 H1 G1 HB21 HB31 HB41)
       | (go_at_call 15;(with_reducible refine (ZK _ _ _ _ _ H2.out).mono ?_);rintro e w3 ⟨rfl,hl⟩
          have hb:=Zr hl g;have hr:=H2.out.below hl;have H3:=Za hr;have G3:=Za (Zs G2.out hb);have hB2:=HB22.out.grown hb (fun e=>Zg hg (Zb e));have hB3:=HB32.out.grown hb (fun e=>Zg hr1 (Zb e));have hB4:=HB42.out.grown hb (fun e=>by have:=Zb e;omega);have HB23:=Za hB2;have HB33:=Za hB3;have HB43:=Za hB4;obtain⟨z0,z1,z2,z3,z4⟩:=Zt hB2;obtain⟨fz0,fz1,fz2,fz3,fz4⟩:=Zz hB2;obtain⟨y0,y1,y2,y3,y4⟩:=Zt hB4;obtain⟨fy0,fy1,fy2,fy3,fy4⟩:=Zz hB4;have q0:=hB3.cell 0;have q1:=hB3.cell 1;have q2:=hB3.cell 2;have q3:=hB3.cell 3;simp at q0 q1 q2 q3;have hlt3:w1.heap.size+1<w3.heap.size:=hB4.lt;clear hr hb hB2 hB3 hB4 hl H2 G2 HB22 HB32 HB42))
 have hne4:w.heap.size≠w1.heap.size+1:=(by omega);have hne3:w1.heap.size≠w1.heap.size+1:=(by omega);have hle4:w.heap.size≤w1.heap.size+1:=(by omega);have r3:=RS.other (RS.other H3.out (HX.out _ hle4) 0 (.int .i64 5)) (HX.out _ hle4) 2 (.string (ByteArray.mk #[45]));have g3:=Zx (Zx G3.out hle4 0 (.int .i64 5)) hle4 2 (.string (ByteArray.mk #[45]));have b2:=(HB23.out.far (p:=⟨w1.heap.size+1,0,none⟩) hne4 (.int .i64 5)).far (p:=⟨w1.heap.size+1,2,none⟩) hne4 (.string (ByteArray.mk #[45]));have b3:=(HB33.out.far (p:=⟨w1.heap.size+1,0,none⟩) hne3 (.int .i64 5)).far (p:=⟨w1.heap.size+1,2,none⟩) hne3 (.string (ByteArray.mk #[45]));have b4:Blk ((w3.setCell ⟨w1.heap.size+1,0,none⟩ (.int .i64 5)).setCell ⟨w1.heap.size+1,2,none⟩ (.string (ByteArray.mk #[45]))) (w1.heap.size+1) 56 #[.int .i64 5,.int .i64 0,.string (ByteArray.mk #[45]),.slice none 0 0,.int .i64 ((cur ts st).at_:Int)]:=(HB43.out.set_ 0 (.int .i64 5)).set_ 2 (.string (ByteArray.mk #[45]));clear H3 G3 HB23 HB33 HB43 z0 z1 z2 z3 z4 fz0 fz1 fz2 fz3 fz4 y0 y1 y2 y3 y4 fy0 fy1 fy2 fy3 fy4 q0 q1 q2 q3 hlt2 hlt3 hk2 hk3 hk1 hm1 hk2b;generalize (w3.setCell ⟨w1.heap.size+1,0,none⟩ (.int .i64 5)).setCell ⟨w1.heap.size+1,2,none⟩ (.string (ByteArray.mk #[45]))=W at r3 g3 b2 b3 b4 ⊢;have hd:Below W.heap.size W W.drew:=(Below.refl _ _).drew;have r3:=r3.below hd;have g3:=Zs g3 (Zr hd g);have b2:=b2.drew;have b3:=b3.drew;have b4:=b4.drew;have q3:W.cell? ⟨w1.heap.size,3,none⟩=some (.int .i64 ((cur ts st).at_:Int)):=b3.cell 3;have hsz:W.drew.heap.size=W.heap.size:=rfl;clear hd;have H4:=Za r3;have G4:=Za g3;have HB2:=Za b2;have HB3:=Za b3;have HB4:=Za b4;clear r3 g3 b2 b3 b4
 go_region_held3 (fun w'=>w'.cell? ⟨w1.heap.size,3,none⟩=some (.int .i64 ((cur ts st).at_:Int))) (first|assumption|go_keep)
  (first
      | (go_at_call 91;(with_reducible refine (HE.out _ _ _ _ _ H4.out HX1.out).mono ?_);rintro e w4 ⟨vk,rfl,hk,hr,hb⟩
         obtain⟨pk,ck,rfl⟩:=Kd.R_slice hk;have hB2:=HB2.out.grown hb (fun e=>Zg hg (Zb e));have hB3:=HB3.out.grown hb (fun e=>Zg hr1 (Zb e));have hB4:=HB4.out.grown hb (fun e=>by have:=Zb e;omega);have q3:=hB3.cell 3;simp at q3;have HEK:=Za hk;have HL:Hid (w1.heap.size+1<W.heap.size):=Za HB4.out.lt;have H5:=Za hr;have G5:=Za (Zs G4.out hb);have HB25:=Za hB2;have HB45:=Za hB4;obtain⟨z0,z1,z2,z3,z4⟩:=Zt hB2;obtain⟨fz0,fz1,fz2,fz3,fz4⟩:=Zz hB2;obtain⟨y0,y1,y2,y3,y4⟩:=Zt hB4;obtain⟨fy0,fy1,fy2,fy3,fy4⟩:=Zz hB4;have hlt4:w1.heap.size+1<w4.heap.size:=hB4.lt;have hltz:w.heap.size<w4.heap.size:=hB2.lt;clear hr hb hk hB2 hB3 hB4 H4 G4 HB2 HB3 HB4))
 go_wp2;have hge:w.heap.size≤w4.heap.size:=(by omega);refine bodyPost_ret (results_cell_row rfl _ _ w.heap.size 56 #[.int .i64 5,.int .i64 0,.string (ByteArray.mk #[45]),.slice (some ⟨w4.heap.size,0,none⟩) 2 2,.int .i64 ((cur ts st).at_:Int)] (0,0) _ rfl ?_ Try.underlying56 rfl (by kernel_rfl)) rfl ?_
 · exact (ZS (HB25.out.far (p:=⟨w1.heap.size+1,3,none⟩) hne4 _)).alloc _
 · rw[HF.out];refine⟨.slice (some ⟨w4.heap.size,0,none⟩) 2 2,rfl,?_,?_,?_⟩
   · have hk:=five_R (a:=.int .i64 5) (b:=.int .i64 0) (c:=.string (ByteArray.mk #[45])) (d:=.slice (some ⟨w4.heap.size,0,none⟩) 2 2) (e:=.int .i64 ((cur ts st).at_:Int)) (X:=w.heap.size) (Kd.R_far HEK.out (p:=⟨w1.heap.size+1,3,none⟩) (fun b hb e=>by have e2:b=w1.heap.size+1:=e;have:=HL.out;omega) (.slice (some ⟨w4.heap.size,0,none⟩) 2 2)) (fun b hb=>by have:=HL.out;omega);have hk2:=Kd.R_lower hk (base':=w.heap.size) (by have:=HL.out;omega);have hs:(five (w4.setCell ⟨w1.heap.size+1,3,none⟩ (.slice (some ⟨w4.heap.size,0,none⟩) 2 2)) w.heap.size (.int .i64 5) (.int .i64 0) (.string (ByteArray.mk #[45])) (.slice (some ⟨w4.heap.size,0,none⟩) 2 2) (.int .i64 ((cur ts st).at_:Int))).heap.size=w4.heap.size:=(by simp);have hx:=kEx_mkM _ _ _ x.1 hk2;have hR:=R_lit2 (ok:=fun b=>w.heap.size≤b) (h2:=hx) 56 (kEx_mkM _ _ _ (⟨2,0,⟨#[]⟩,[],((cur ts st).at_:Int)⟩:Ex) (Kd.R_nil kEx 56 _ _ _)) (fun b hb=>by have:=HL.out;omega) (by rw[hs];exact hge) (by show w.heap.size≤_;rw[hs];exact hge);rw[hs] at hR;exact hR
   · refine RS.alloc ?_ _;refine ZZ ?_ (HX.out _ (Zc _));exact (RS.other H5.out (HX.out _ hle4) 3 _)
   · refine ZD ?_ _;refine ZY ?_ (Zc _);exact (Zx G5.out hle4 3 _)
theorem one_step (k:Nat) (ihE:PExpr ts k) (ihF:PFactor ts k) (ihS:PExprs ts k):POne ts (k+1):=by
 intro w g v st r h hF;by_cases h2:(cur ts st).kind=2
 · exact one_num ts k w g v st r h hF h2
 by_cases h3:(cur ts st).kind=3
 · exact one_text ts k w g v st r h hF h2 h3
 by_cases h1:(cur ts st).kind=1
 · by_cases hU:(cur ts st).text=[95]
   · exact one_any ts k w g v st r h hF h2 h3 h1 hU
   · exact one_var ts k w g v st r h hF h2 h3 h1 hU
 by_cases hy1:(may ts [45] st).1=true
 · by_cases hn2:(cur ts (may ts [45] st).2).kind=2
   · exact one_neg ts k w g v st r h hF h2 h3 h1 hy1 hn2
   · exact one_sign ts k w g v st r h hF h2 h3 h1 hy1 hn2 (Za ihF)
 have hy1:(may ts [45] st).1=false:=(by simpa using hy1);by_cases hy2:(may ts [40] st).1=true
 · exact one_paren ts k w g v st r h hF h2 h3 h1 hy1 hy2 (Za ihE)
 have hy2:(may ts [40] st).1=false:=(by simpa using hy2);by_cases hy3:(may ts [36] st).1=true
 · exact one_con ts k w g v st r h hF h2 h3 h1 hy1 hy2 hy3 (Za ihS)
 have hy3:(may ts [36] st).1=false:=(by simpa using hy3);exact one_bad ts k w g v st r h hF h2 h3 h1 hy1 hy2 hy3
end
end RefNeg
end Go.Proofs.Ytddmceldglelkaa
