/- A claim's texts, in the order of what they need: RefParse, RefSameP, RefSame. -/
import Derived.Test.YtddmceldglelkaaBCompBases10
import Derived.Test.YtddmceldglelkaaBCompBases15
import Derived.Test.YtddmceldglelkaaBCompBases23
import Derived.Deep.LoopGhost
import Derived.Deep.RegionHeld3
import Derived.Deep.RegionLaw
set_option maxRecDepth 100000
set_option maxHeartbeats 8000000
set_option linter.unusedVariables false
set_option linter.unusedSimpArgs false
set_option linter.unusedSectionVars false
namespace Go.Proofs.Ytddmceldglelkaa
namespace RefParse
open Go Go.RowKit RefPure RefKinds RefMem RefTake RefSmall RefFields RefExprs RefExpr RefOne RefCells YtddmceldglelkaaW.PrintWords
open LexPure (T lex)
attribute [local go_sem] fld0 fld1 fld2 fld3
open LexRefTokW (ref_Tokens)
open LexRise RefProgS RefComp RefItems LexRefTokens PTokens RefTotal RefLex
theorem prog_all (ts:List T) (n:Nat):∀ k,k≤n→k≤549755813888→PProg ts k∧PComp ts k:=by
 induction n with
 | zero=>
   intro k hk _;have h0:k=0:=(by omega);subst h0;refine⟨?_,?_⟩
   · intro w g v st r _ hF;exact absurd hF (by simp[prog])
   · intro w g v st r at_ _ hF;exact absurd hF (by simp[comp])
 | succ n ih=>
   intro k hk hb;rcases Nat.lt_or_ge k (n+1) with hlt|hge
   · exact ih k (by omega) hb
   have he:k=n+1:=(by omega);subst he;refine⟨prog_step ts n hb (fun j hj=>(ih j hj (by omega)).2),?_⟩;intro w g v st r at_ h hF;have hP:=(ih n (Zc _) (by omega)).1;rw[comp] at hF;obtain⟨b,hb1,hF⟩:=Zp hF;obtain⟨q,hq,hr⟩:=Zp hF;injection hr with hr
   by_cases hy:(may ts [58] (RefPure.word ts st).2).1=true
   · rw[if_pos hy] at hb1;exact comp_some ts n (by omega) hP at_ w g v st r h hy b hb1 q hq hr.symm
   · rw[if_neg hy] at hb1;injection hb1 with hb1
     subst hb1;exact comp_none ts n (by omega) hP at_ w g v st r h (by simpa using hy) q hq hr.symm
theorem add0 (b k:Nat):Addr.add ⟨b,0,none⟩ k=⟨b,k,none⟩:=by unfold Addr.add;split <;> simp_all
theorem tok_row {w:World} {base:Nat} {ok:Nat→Prop} {v:Value} {ts:List T} {g:Nat} (h:Kd.R k63 63 w base ok v (ts.map tkS)) (hpos:0<ts.length) (hg:w.heap.size≤g):TokRow w v ts g:=by
 obtain⟨inner,hi0,ho⟩:=Kd.R_own h;rcases ho with ⟨_,h0⟩|⟨b,cap,cur,rfl,hbase,hblk,_⟩
 · rw[List.length_map] at h0;omega
 · have hlt:b<w.heap.size:=Kd.R_lt h b rfl;obtain⟨A,c,e,hl,hr⟩:=Kd.R_reads h;injection e with e1 e2 e3
   subst e1;obtain⟨ad,hA,hc⟩:=hr.2.2 (by rw[List.length_map];exact hpos);injection hA with hA
   subst hA;refine⟨b,cap,by rw[List.length_map],by omega,hlt,fun i t ht=>?_⟩;obtain⟨cs,_,hK,hcell⟩:=hc i (tkS t) (by simp[ht]);obtain rfl:=k63_open hK;have q0:=hcell 0 _ rfl;have q1:=hcell 1 _ rfl;have q2:=hcell 2 _ rfl;have q3:=hcell 3 _ rfl;rw[add0] at q0 q1 q2 q3;exact⟨q0,q1,q2,q3⟩
def ParsePost (w:World) (r:ProgT×Int×Int) (e:Ending) (w':World):Prop:=
 ∃ vT vD vC vI vL,e=.returned (.tuple #[.agg #[vT,vD,vC,vI,vL],.agg #[.int .i64 r.2.1,.int .i64 r.2.2]])∧RefProgS.Rows w' w.heap.size vT vD vC vI vL r.1∧Below w.heap.size w w'
theorem below_set {w W:World} {n X:Nat} (h:Below n w W) (hX:n≤X) (j:Nat) (u:Value):Below n w (W.setCell ⟨X,j,none⟩ u):=
 h.trans ⟨rfl,rfl,rfl,by simp[World.setCell],fun k hk=>Below.heap_setCell W ⟨X,j,none⟩ u k (by simp;omega)⟩
theorem below_lower {w w1:World} {o o':Obj} (h:Below ((w.alloc o).alloc o').heap.size ((w.alloc o).alloc o') w1):Below w.heap.size w w1:=
 ((Zv (Below.refl _ _) o).trans (Zv (Below.refl _ _) o' |>.mono (by simp))).trans (h.mono (by simp;omega))
theorem c_of_R {w:World} {base:Nat} {ok:Nat→Prop} {p:Option Addr} {c:Nat} {l:List T} (h:Kd.R k63 63 w base ok (.slice p (l.map tkS).length c) (l.map tkS)):Kd.C k63 w p l.length (l.map tkS):=by
 obtain⟨A,c,e,hl,hr⟩:=Kd.R_reads h;injection e with e1 e2 e3
 subst e1;rw[List.length_map] at hr;exact hr
theorem parse_bad (s:ByteArray) (hs:s.size≤140737488351232) (w:World) (hbad:¬((lex s.data.toList).2.1=0∧(lex s.data.toList).2.2=0)):Calls Try.prog 7 #[.string s] w (ParsePost w (prog0,(lex s.data.toList).2.1,(lex s.data.toList).2.2)):=by
 have HS:=Za hs;obtain⟨y,hy⟩:∃ x,(lex s.data.toList).2.1=x:=⟨_,rfl⟩;obtain⟨f,hf⟩:∃ x,(lex s.data.toList).2.2=x:=⟨_,rfl⟩;obtain⟨l,hlx⟩:∃ x,(lex s.data.toList).1=x:=⟨_,rfl⟩;have HF:Hid ((lex s.data.toList).2.1=y∧(lex s.data.toList).2.2=f):=Za ⟨hy,hf⟩;have HLX:=Za hlx;have hy0:¬y=0:=by
  rcases lex_law s.data.toList with ⟨a,b,_⟩|⟨a,_⟩
  · exact absurd ⟨a,b⟩ hbad
  · rw[hy] at a;exact a
 rw[hy,hf];have hy1:(y==0)=false:=(by simpa using hy0);have hy2:decide (y=0)=false:=(by simpa using hy0);clear hs hy hf hlx hbad;go_enter Try.func7,Try.ntmps7
 go_wp2_with (first
       | (go_at_call 13;go_loud (
          (with_reducible refine (ref_Tokens _ HS.out _).mono ?_);rintro e w1 ⟨vt,rfl,hk,hb⟩;rw[HF.out.1,HF.out.2];rw[HLX.out] at hk;have hX:=(Blk.new w 28 #[.slice none 0 0,.slice none 0 0,.slice none 0 0,.slice none 0 0,.slice none 0 0]).alloc (.cells #[.int .i64 0,.int .i64 0] 31);have hX1:=hX.below hb hX.lt;have hY:Blk ((w.alloc (.cells #[.slice none 0 0,.slice none 0 0,.slice none 0 0,.slice none 0 0,.slice none 0 0] 28)).alloc (.cells #[.int .i64 0,.int .i64 0] 31)) (w.heap.size+1) 31 #[.int .i64 0,.int .i64 0]:=(by have:=Blk.new (w.alloc (.cells #[.slice none 0 0,.slice none 0 0,.slice none 0 0,.slice none 0 0,.slice none 0 0] 28)) 31 #[.int .i64 0,.int .i64 0];simpa using this);have hY1:=hY.below hb hY.lt;obtain⟨x0,x1,x2,x3,x4⟩:=Zt hX1;obtain⟨fx0,fx1,fx2,fx3,fx4⟩:=Zz hX1;obtain⟨y0,y1⟩:=s2_cells hY1;obtain⟨fy0,fy1⟩:=s2_frozen hY1;have HX1:=Za hX1;have HY1:=Za hY1;have hltx_1:w.heap.size<w1.heap.size:=hX1.lt;have hlty_1:w.heap.size+1<w1.heap.size:=hY1.lt;have HB1:=Za (below_lower hb);obtain⟨pt,ct,rfl⟩:=Kd.R_slice hk;rw[List.length_map];have HT:Hid (Kd.C k63 (w1.alloc (.cells #[.int .i64 y,.int .i64 f] 31)) pt l.length (l.map tkS)):=Za (c_of_R (Kd.R_alloc hk _));clear hk hb hX hX1 hY hY1)))
 go_region;all_goals go_wp2
 all_goals
  refine bodyPost_ret (results_cc rfl _ _ w.heap.size (w.heap.size+1) 28 31 #[.slice none 0 0,.slice none 0 0,.slice none 0 0,.slice none 0 0,.slice none 0 0] #[.int .i64 y,.int .i64 f] (0,0) (0,0) _ _ rfl ?_ Try.underlying28 rfl (by kernel_rfl) rfl ?_ Try.underlying31 rfl (by kernel_rfl)) rfl ?_
  · exact ((((ZS HX1.out).far (p:=⟨w.heap.size+1,0,none⟩) (Zf (Zh _)) _).far (p:=⟨w.heap.size+1,1,none⟩) (Zf (Zh _)) _).alloc _).drew
  · exact ((s2_blk (five_far HY1.out (Zg (Zh _)))).alloc _).drew
  · exact⟨_,_,_,_,_,rfl,RefProgS.Rows.nil _ _,(Zv (below_set (below_set (below_set (below_set (below_set (below_set (below_set HB1.out (Zc _) _ _) (Zc _) _ _) (Zc _) _ _) (Zc _) _ _) (Zc _) _ _) (Nat.le_succ _) _ _) (Nat.le_succ _) _ _) _).drew⟩
theorem infoTok:(Try.prog.info? 63).map (fun i=>(i.zero,i.size,i.bytes))=some (some (.agg #[.int .i64 0,.string ⟨#[]⟩,.int .i64 0,.int .i64 0]),4,40):=by kernel_rfl
theorem below_grown0 {w w':World} (h:w.grownBy w' (Value.slice none 0 0).ownBlock):Below w.heap.size w w':=⟨h.os,h.tape,h.output,h.size,fun k hk=>h.block k hk (by simp[Value.ownBlock])⟩
theorem parse_good (s:ByteArray) (hs:s.size≤140737488351232) (w:World) (h0:(lex s.data.toList).2.1=0) (h1:(lex s.data.toList).2.2=0) (k:Nat) (hk:k≤549755813888) (l:List T) (hlx:(lex s.data.toList).1=l) (r:ProgT×St) (hr:prog (l++[RefTotal.last s.size]) k prog0 ⟨0,0,0,0,0⟩=some r) (hk0:(cur (l++[RefTotal.last s.size]) r.2).kind=0) (hw:well r.2=true):Calls Try.prog 7 #[.string s] w (ParsePost w (r.1,0,0)):=by
 have HS:=Za hs;obtain⟨y,hy⟩:∃ x:Int,x=0:=⟨_,rfl⟩;obtain⟨f,hf⟩:∃ x:Int,x=0:=⟨_,rfl⟩;have HF:Hid ((lex s.data.toList).2.1=y∧(lex s.data.toList).2.2=f):=Za ⟨h0.trans hy.symm,h1.trans hf.symm⟩;have HLL:Hid (l.length≤65536):=Za (by rw[← hlx];exact lex_len _);have HLX:=Za hlx;have HPR:=Za hr;have HP:=Za (prog_all (l++[RefTotal.last s.size]) k k (Zc _) hk).1;unfold PProg at HP;subst hy;subst hf;have hkb:((cur (l++[RefTotal.last s.size]) r.2).kind==0)=true:=(by simp[hk0]);have hkc:((cur (l++[RefTotal.last s.size]) r.2).kind != 0)=false:=(by simp[hk0]);clear hk0;clear hs h0 h1 hlx hr hk;go_enter Try.func7,Try.ntmps7
 go_wp2_with (first
       | (go_at_call 13;go_loud (
          (with_reducible refine (ref_Tokens _ HS.out _).mono ?_);rintro e w1 ⟨vt,rfl,hk,hb⟩;rw[HF.out.1,HF.out.2];rw[HLX.out] at hk;have hX:=(Blk.new w 28 #[.slice none 0 0,.slice none 0 0,.slice none 0 0,.slice none 0 0,.slice none 0 0]).alloc (.cells #[.int .i64 0,.int .i64 0] 31);have hX1:=hX.below hb hX.lt;have hY:Blk ((w.alloc (.cells #[.slice none 0 0,.slice none 0 0,.slice none 0 0,.slice none 0 0,.slice none 0 0] 28)).alloc (.cells #[.int .i64 0,.int .i64 0] 31)) (w.heap.size+1) 31 #[.int .i64 0,.int .i64 0]:=(by have:=Blk.new (w.alloc (.cells #[.slice none 0 0,.slice none 0 0,.slice none 0 0,.slice none 0 0,.slice none 0 0] 28)) 31 #[.int .i64 0,.int .i64 0];simpa using this);have hY1:=hY.below hb hY.lt;obtain⟨x0,x1,x2,x3,x4⟩:=Zt hX1;obtain⟨fx0,fx1,fx2,fx3,fx4⟩:=Zz hX1;obtain⟨y0,y1⟩:=s2_cells hY1;obtain⟨fy0,fy1⟩:=s2_frozen hY1;have HX1:=Za hX1;have HY1:=Za hY1;have hltx_1:w.heap.size<w1.heap.size:=hX1.lt;have hlty_1:w.heap.size+1<w1.heap.size:=hY1.lt;have HB1:=Za (below_lower hb);obtain⟨pt,ct,rfl⟩:=Kd.R_slice hk;rw[List.length_map];have HT:Hid (Kd.C k63 (w1.alloc (.cells #[.int .i64 0,.int .i64 0] 31)) pt l.length (l.map tkS)):=Za (c_of_R (Kd.R_alloc hk _));clear hk hb hX hX1 hY hY1))
       | ((with_reducible refine ZR (b:=.append) (xs:=#[.const (.slice none 0 0),.tmp 18]) rfl ?_);at_builtin
          refine Kd.R_append_rows k63 (Rr:=k63.K (w1.alloc (.cells #[.int .i64 0,.int .i64 0] 31))) (w1.heap.size+1) rfl (.const (.slice none 0 0)) (.tmp 18) 59 63 (.agg #[.int .i64 0,.string ⟨#[]⟩,.int .i64 0,.int .i64 0]) 40 rfl Try.underlying59 infoTok rfl (by decide) (by decide) (.slice none 0 0) [] (l.map tkS) pt l.length ct (fun b=>w1.heap.size+1≤b) (fun _=>False) ?a1 ?a2 (Kd.R_nil _ _ _ _ _) HT.out ?aK (fun _ hk=>hk.elim) ?aF (Below.refl _ _) ?aS ?aL ?_;(try (case a1=>rfl));(try (case a2=>rfl));(case aK=>exact fun x cs hK=>by rw[k63_open hK];exact k63_mkM _ _ _ x)
          (case aF=>exact fun X hX=>by simpa using hX)
          (case aS=>simp)
          (case aL=>(have:=HLL.out;simp;omega))
          intro v1 w2 ho hb hgr hat;rw[List.nil_append] at ho;obtain⟨p2,c2,rfl⟩:=Kd.R_slice ho;rw[List.length_map] at ho ⊢;have HO2:=Za ho;have HOW:Hid (∀ X,(Value.slice p2 l.length c2).ownBlock=some X→w1.heap.size+1≤X):=Za (fun X hX=>ho.1 X hX);have hb2:Below w1.heap.size w1 w2:=(Zv (Below.refl _ _) _).trans ((below_grown0 hgr).mono (by simp));have HB2:=Za (HB1.out.trans (hb2.mono (Zd hltx_1)));have hX2:=HX1.out.below hb2 hltx_1;have hY2:=HY1.out.below hb2 hlty_1;have HX2:=Za hX2;have HY2:=Za hY2;have hlt2:w1.heap.size+1≤w2.heap.size:=(by have:=hgr.size;simpa using this);clear ho hb hgr hat hb2 hX2 hY2)
       | ((with_reducible refine ZR (b:=.append) (xs:=#[.tmp 19,.tmp 23]) rfl ?_);at_builtin
          refine Kd.R_append k63 (w1.heap.size+1) rfl (.tmp 19) (.tmp 23) 59 63 (.agg #[.int .i64 0,.string ⟨#[]⟩,.int .i64 0,.int .i64 0]) 40 rfl Try.underlying59 infoTok rfl (by decide) (by decide) (.slice p2 l.length c2) (l.map tkS) (tkS (RefTotal.last s.size)) [.int .i64 0,.string ⟨#[]⟩,.int .i64 0,.int .i64 (s.size:Int)] (fun b=>w1.heap.size+1≤b) (fun _=>False) ?a1 ?a2 (k63_mkM _ _ _ _) (fun _ hk=>hk.elim) ?aF HO2.out (Below.refl _ _) ?aS ?aL ?_;(try (case a1=>rfl));(try (case a2=>rfl));(case aF=>exact fun X hX=>by omega)
          (case aS=>omega)
          (case aL=>(have:=HLL.out;simp;omega))
          intro v1 w3 ho hb hgr hat;obtain⟨p3,c3,rfl⟩:=Kd.R_slice ho;have hn:(l.map tkS++[tkS (RefTotal.last s.size)]).length=l.length+1:=(by simp);rw[hn] at ho ⊢;have ho':Kd.R k63 63 w3 (w1.heap.size+1) (fun b=>w1.heap.size+1≤b) (.slice p3 (l.length+1) c3) ((l++[RefTotal.last s.size]).map tkS):=(by rw[List.map_append];exact ho);have hTR:=tok_row ho' (by simp) (Zc _);have HB3:=Za (HB2.out.trans (⟨hgr.os,hgr.tape,hgr.output,hgr.size,fun j hj=>hgr.block j (by omega) (fun e=>by have:=HOW.out _ e.symm;omega)⟩:Below w.heap.size w2 w3));have hX3:=(HX2.out.grown hgr (fun e=>by have:=HOW.out _ e.symm;omega)).alloc (.cells #[.slice p3 (l.length+1) c3,.int .i64 0,.int .i64 0,.int .i64 0,.int .i64 0,.int .i64 0] 65);have hY3:=(HY2.out.grown hgr (fun e=>by have:=HOW.out _ e.symm;omega)).alloc (.cells #[.slice p3 (l.length+1) c3,.int .i64 0,.int .i64 0,.int .i64 0,.int .i64 0,.int .i64 0] 65);have HX3:=Za hX3;have HY3:=Za hY3;have hlt3:w2.heap.size≤w3.heap.size:=hgr.size;have HR3:Hid (RS (w3.alloc (.cells #[.slice p3 (l.length+1) c3,.int .i64 0,.int .i64 0,.int .i64 0,.int .i64 0,.int .i64 0] 65)) w3.heap.size (.slice p3 (l.length+1) c3) (l++[RefTotal.last s.size]) ⟨0,0,0,0,0⟩):=Za ⟨Blk.new w3 _ _,hTR.moved (by simp) (fun j hj _=>Below.heap_alloc w3 _ j hj),by simp,by have:=HLL.out;simp;omega,fun t ht=>(by
           rcases List.mem_append.1 ht with q|q
           · have:=lex_txt s.data.toList t (by rw[HLX.out];exact q);omega
           · rw[List.mem_singleton] at q;subst q;simp[RefTotal.last])⟩
          clear ho hb hgr hat ho' hTR hX3 hY3 HX2 HY2 HB2)
       | (go_at_call 14;(with_reducible refine (HP.out _ _ _ _ _ HR3.out HPR.out).mono ?_);rintro e w4 ⟨vT,vD,vC,vI,vL,rfl,hR,hr,hb⟩
          have hrw:RefProgS.Rows w4 (w3.heap.size+1) vT vD vC vI vL r.1:=(by simpa using hR);obtain⟨pT,cT,rfl⟩:=Kd.R_slice hrw.t;obtain⟨pD,cD,rfl⟩:=Kd.R_slice hrw.d;obtain⟨pC,cC,rfl⟩:=Kd.R_slice hrw.c;obtain⟨pI,cI,rfl⟩:=Kd.R_slice hrw.i;obtain⟨pL,cL,rfl⟩:=Kd.R_slice hrw.l;have HRW4:=Za (hrw.below (Zv (Below.refl _ _) (.cells #[.slice pT r.1.types.length cT,.slice pD r.1.decls.length cD,.slice pC r.1.comps.length cC,.slice pI r.1.inits.length cI,.slice pL r.1.clauses.length cL] 28)));have H4:=Za (hr.alloc (.cells #[.slice pT r.1.types.length cT,.slice pD r.1.decls.length cD,.slice pC r.1.comps.length cC,.slice pI r.1.inits.length cI,.slice pL r.1.clauses.length cL] 28));have HB4:=Za ((Zv HB3.out _).trans (⟨hb.os,hb.tape,hb.output,hb.size,fun j hj=>hb.block j (by simp;omega) (fun e=>by have:=Zb e;omega)⟩:Below w.heap.size (w3.alloc (.cells #[.slice p3 (l.length+1) c3,.int .i64 0,.int .i64 0,.int .i64 0,.int .i64 0,.int .i64 0] 65)) w4));have hX4:=HX3.out.grown hb (fun e=>by have:=Zb e;omega);have hY4:=HY3.out.grown hb (fun e=>by have:=Zb e;omega);obtain⟨x0,x1,x2,x3,x4⟩:=Zt hX4;obtain⟨fx0,fx1,fx2,fx3,fx4⟩:=Zz hX4;obtain⟨y0,y1⟩:=s2_cells hY4;obtain⟨fy0,fy1⟩:=s2_frozen hY4;have HX4:=Za hX4;have HY4:=Za hY4;have hltx_4:w.heap.size<w4.heap.size:=hX4.lt;have hlty_4:w.heap.size+1<w4.heap.size:=hY4.lt;have hltg_4:w3.heap.size<w4.heap.size:=hr.blk.lt;obtain⟨_,_,_,_,g4,g5⟩:=hr.cells;have fg4:=hr.blk.frozen 4;have fg5:=hr.blk.frozen 5;clear hX4 hY4 HX3 HY3;have HX4:=Za (HX4.out.alloc (.cells #[.slice pT r.1.types.length cT,.slice pD r.1.decls.length cD,.slice pC r.1.comps.length cC,.slice pI r.1.inits.length cI,.slice pL r.1.clauses.length cL] 28));have HY4:=Za (HY4.out.alloc (.cells #[.slice pT r.1.types.length cT,.slice pD r.1.decls.length cD,.slice pC r.1.comps.length cC,.slice pI r.1.inits.length cI,.slice pL r.1.clauses.length cL] 28));have HB4:=Za (Zv HB4.out (.cells #[.slice pT r.1.types.length cT,.slice pD r.1.decls.length cD,.slice pC r.1.comps.length cC,.slice pI r.1.inits.length cI,.slice pL r.1.clauses.length cL] 28));have HPB4:=Za (Blk.new w4 28 #[.slice pT r.1.types.length cT,.slice pD r.1.decls.length cD,.slice pC r.1.comps.length cC,.slice pI r.1.inits.length cI,.slice pL r.1.clauses.length cL]);clear hR hrw hr hb HB3 HR3)
       | (go_at_call 15;(with_reducible refine (ZK _ _ _ _ _ H4.out).mono ?_);rintro e w5 ⟨rfl,hl⟩
          have hb:=Zr hl w3.heap.size;have hr:=H4.out.below hl;have HRW5:=Za (HRW4.out.grown (Zh _) hb);have H5:=Za hr;have HB5:=Za (HB4.out.trans (⟨hb.os,hb.tape,hb.output,hb.size,fun j hj=>hb.block j (Nat.lt_of_lt_of_le hj HB4.out.size) (fun e=>by have:=Zb e;omega)⟩:Below w.heap.size _ w5));have HPB5:=Za (HPB4.out.grown hb (fun e=>by have:=Zb e;omega));obtain⟨p0,p1,p2,p3,p4⟩:=Zt HPB5.out;have hltp_5:w4.heap.size<w5.heap.size:=HPB5.out.lt;have hX5:=HX4.out.grown hb (fun e=>by have:=Zb e;omega);have hY5:=HY4.out.grown hb (fun e=>by have:=Zb e;omega);obtain⟨x0,x1,x2,x3,x4⟩:=Zt hX5;obtain⟨fx0,fx1,fx2,fx3,fx4⟩:=Zz hX5;obtain⟨y0,y1⟩:=s2_cells hY5;obtain⟨fy0,fy1⟩:=s2_frozen hY5;have HX5:=Za hX5;have HY5:=Za hY5;have hltx_5:w.heap.size<w5.heap.size:=hX5.lt;have hlty_5:w.heap.size+1<w5.heap.size:=hY5.lt;have hltg_5:w3.heap.size<w5.heap.size:=hr.blk.lt;obtain⟨_,_,_,_,g4,g5⟩:=hr.cells;have fg4:=hr.blk.frozen 4;have fg5:=hr.blk.frozen 5;clear hX5 hY5 HX4 HY4;clear hr hb hl HB4 H4 HRW4)
       | (go_at_call 17;(with_reducible refine (ZP _ _ _ _ _ true hw H5.out).mono ?_);rintro e w' ⟨rfl,rfl⟩))
 refine bodyPost_ret (results_cc rfl _ _ w.heap.size (w.heap.size+1) 28 31 #[.slice pT r.1.types.length cT,.slice pD r.1.decls.length cD,.slice pC r.1.comps.length cC,.slice pI r.1.inits.length cI,.slice pL r.1.clauses.length cL] #[.int .i64 0,.int .i64 0] (0,0) (0,0) _ _ rfl ?_ Try.underlying28 rfl (by kernel_rfl) rfl ?_ Try.underlying31 rfl (by kernel_rfl)) rfl ?_
 · exact ((((ZS HX5.out).far (p:=⟨w.heap.size+1,0,none⟩) (Zf (Zh _)) _).far (p:=⟨w.heap.size+1,1,none⟩) (Zf (Zh _)) _))
 · exact ((s2_blk (five_far HY5.out (Zg (Zh _)))))
 · exact⟨_,_,_,_,_,rfl,RefProgS.Rows.lower (RefProgS.Rows.far (RefProgS.Rows.far (RefProgS.Rows.far (RefProgS.Rows.far (RefProgS.Rows.far (RefProgS.Rows.far (RefProgS.Rows.far HRW5.out (show w.heap.size<w3.heap.size+1 by omega) 0 _) (show w.heap.size<w3.heap.size+1 by omega) 1 _) (show w.heap.size<w3.heap.size+1 by omega) 2 _) (show w.heap.size<w3.heap.size+1 by omega) 3 _) (show w.heap.size<w3.heap.size+1 by omega) 4 _) (show w.heap.size+1<w3.heap.size+1 by omega) 0 _) (show w.heap.size+1<w3.heap.size+1 by omega) 1 _) (by omega),((below_set (below_set (below_set (below_set (below_set (below_set (below_set HB5.out (Zc _) _ _) (Zc _) _ _) (Zc _) _ _) (Zc _) _ _) (Zc _) _ _) (Nat.le_succ _) _ _) (Nat.le_succ _) _ _))⟩
theorem parse_ill (s:ByteArray) (hs:s.size≤140737488351232) (w:World) (h0:(lex s.data.toList).2.1=0) (h1:(lex s.data.toList).2.2=0) (k:Nat) (hk:k≤549755813888) (l:List T) (hlx:(lex s.data.toList).1=l) (r:ProgT×St) (hr:prog (l++[RefTotal.last s.size]) k prog0 ⟨0,0,0,0,0⟩=some r) (hk0:(cur (l++[RefTotal.last s.size]) r.2).kind=0) (hw:well r.2=false):Calls Try.prog 7 #[.string s] w (ParsePost w (prog0,r.2.why,r.2.fat)):=by
 have HS:=Za hs;obtain⟨y,hy⟩:∃ x:Int,x=0:=⟨_,rfl⟩;obtain⟨f,hf⟩:∃ x:Int,x=0:=⟨_,rfl⟩;have HF:Hid ((lex s.data.toList).2.1=y∧(lex s.data.toList).2.2=f):=Za ⟨h0.trans hy.symm,h1.trans hf.symm⟩;have HLL:Hid (l.length≤65536):=Za (by rw[← hlx];exact lex_len _);have HLX:=Za hlx;have HPR:=Za hr;have HP:=Za (prog_all (l++[RefTotal.last s.size]) k k (Zc _) hk).1;unfold PProg at HP;subst hy;subst hf;have hkb:((cur (l++[RefTotal.last s.size]) r.2).kind==0)=true:=(by simp[hk0]);have hkc:((cur (l++[RefTotal.last s.size]) r.2).kind != 0)=false:=(by simp[hk0]);clear hk0;clear hs h0 h1 hlx hr hk;go_enter Try.func7,Try.ntmps7
 go_wp2_with (first
       | (go_at_call 13;go_loud (
          (with_reducible refine (ref_Tokens _ HS.out _).mono ?_);rintro e w1 ⟨vt,rfl,hk,hb⟩;rw[HF.out.1,HF.out.2];rw[HLX.out] at hk;have hX:=(Blk.new w 28 #[.slice none 0 0,.slice none 0 0,.slice none 0 0,.slice none 0 0,.slice none 0 0]).alloc (.cells #[.int .i64 0,.int .i64 0] 31);have hX1:=hX.below hb hX.lt;have hY:Blk ((w.alloc (.cells #[.slice none 0 0,.slice none 0 0,.slice none 0 0,.slice none 0 0,.slice none 0 0] 28)).alloc (.cells #[.int .i64 0,.int .i64 0] 31)) (w.heap.size+1) 31 #[.int .i64 0,.int .i64 0]:=(by have:=Blk.new (w.alloc (.cells #[.slice none 0 0,.slice none 0 0,.slice none 0 0,.slice none 0 0,.slice none 0 0] 28)) 31 #[.int .i64 0,.int .i64 0];simpa using this);have hY1:=hY.below hb hY.lt;obtain⟨x0,x1,x2,x3,x4⟩:=Zt hX1;obtain⟨fx0,fx1,fx2,fx3,fx4⟩:=Zz hX1;obtain⟨y0,y1⟩:=s2_cells hY1;obtain⟨fy0,fy1⟩:=s2_frozen hY1;have HX1:=Za hX1;have HY1:=Za hY1;have hltx_1:w.heap.size<w1.heap.size:=hX1.lt;have hlty_1:w.heap.size+1<w1.heap.size:=hY1.lt;have HB1:=Za (below_lower hb);obtain⟨pt,ct,rfl⟩:=Kd.R_slice hk;rw[List.length_map];have HT:Hid (Kd.C k63 (w1.alloc (.cells #[.int .i64 0,.int .i64 0] 31)) pt l.length (l.map tkS)):=Za (c_of_R (Kd.R_alloc hk _));clear hk hb hX hX1 hY hY1))
       | ((with_reducible refine ZR (b:=.append) (xs:=#[.const (.slice none 0 0),.tmp 18]) rfl ?_);at_builtin
          refine Kd.R_append_rows k63 (Rr:=k63.K (w1.alloc (.cells #[.int .i64 0,.int .i64 0] 31))) (w1.heap.size+1) rfl (.const (.slice none 0 0)) (.tmp 18) 59 63 (.agg #[.int .i64 0,.string ⟨#[]⟩,.int .i64 0,.int .i64 0]) 40 rfl Try.underlying59 infoTok rfl (by decide) (by decide) (.slice none 0 0) [] (l.map tkS) pt l.length ct (fun b=>w1.heap.size+1≤b) (fun _=>False) ?a1 ?a2 (Kd.R_nil _ _ _ _ _) HT.out ?aK (fun _ hk=>hk.elim) ?aF (Below.refl _ _) ?aS ?aL ?_;(try (case a1=>rfl));(try (case a2=>rfl));(case aK=>exact fun x cs hK=>by rw[k63_open hK];exact k63_mkM _ _ _ x)
          (case aF=>exact fun X hX=>by simpa using hX)
          (case aS=>simp)
          (case aL=>(have:=HLL.out;simp;omega))
          intro v1 w2 ho hb hgr hat;rw[List.nil_append] at ho;obtain⟨p2,c2,rfl⟩:=Kd.R_slice ho;rw[List.length_map] at ho ⊢;have HO2:=Za ho;have HOW:Hid (∀ X,(Value.slice p2 l.length c2).ownBlock=some X→w1.heap.size+1≤X):=Za (fun X hX=>ho.1 X hX);have hb2:Below w1.heap.size w1 w2:=(Zv (Below.refl _ _) _).trans ((below_grown0 hgr).mono (by simp));have HB2:=Za (HB1.out.trans (hb2.mono (Zd hltx_1)));have hX2:=HX1.out.below hb2 hltx_1;have hY2:=HY1.out.below hb2 hlty_1;have HX2:=Za hX2;have HY2:=Za hY2;have hlt2:w1.heap.size+1≤w2.heap.size:=(by have:=hgr.size;simpa using this);clear ho hb hgr hat hb2 hX2 hY2)
       | ((with_reducible refine ZR (b:=.append) (xs:=#[.tmp 19,.tmp 23]) rfl ?_);at_builtin
          refine Kd.R_append k63 (w1.heap.size+1) rfl (.tmp 19) (.tmp 23) 59 63 (.agg #[.int .i64 0,.string ⟨#[]⟩,.int .i64 0,.int .i64 0]) 40 rfl Try.underlying59 infoTok rfl (by decide) (by decide) (.slice p2 l.length c2) (l.map tkS) (tkS (RefTotal.last s.size)) [.int .i64 0,.string ⟨#[]⟩,.int .i64 0,.int .i64 (s.size:Int)] (fun b=>w1.heap.size+1≤b) (fun _=>False) ?a1 ?a2 (k63_mkM _ _ _ _) (fun _ hk=>hk.elim) ?aF HO2.out (Below.refl _ _) ?aS ?aL ?_;(try (case a1=>rfl));(try (case a2=>rfl));(case aF=>exact fun X hX=>by omega)
          (case aS=>omega)
          (case aL=>(have:=HLL.out;simp;omega))
          intro v1 w3 ho hb hgr hat;obtain⟨p3,c3,rfl⟩:=Kd.R_slice ho;have hn:(l.map tkS++[tkS (RefTotal.last s.size)]).length=l.length+1:=(by simp);rw[hn] at ho ⊢;have ho':Kd.R k63 63 w3 (w1.heap.size+1) (fun b=>w1.heap.size+1≤b) (.slice p3 (l.length+1) c3) ((l++[RefTotal.last s.size]).map tkS):=(by rw[List.map_append];exact ho);have hTR:=tok_row ho' (by simp) (Zc _);have HB3:=Za (HB2.out.trans (⟨hgr.os,hgr.tape,hgr.output,hgr.size,fun j hj=>hgr.block j (by omega) (fun e=>by have:=HOW.out _ e.symm;omega)⟩:Below w.heap.size w2 w3));have hX3:=(HX2.out.grown hgr (fun e=>by have:=HOW.out _ e.symm;omega)).alloc (.cells #[.slice p3 (l.length+1) c3,.int .i64 0,.int .i64 0,.int .i64 0,.int .i64 0,.int .i64 0] 65);have hY3:=(HY2.out.grown hgr (fun e=>by have:=HOW.out _ e.symm;omega)).alloc (.cells #[.slice p3 (l.length+1) c3,.int .i64 0,.int .i64 0,.int .i64 0,.int .i64 0,.int .i64 0] 65);have HX3:=Za hX3;have HY3:=Za hY3;have hlt3:w2.heap.size≤w3.heap.size:=hgr.size;have HR3:Hid (RS (w3.alloc (.cells #[.slice p3 (l.length+1) c3,.int .i64 0,.int .i64 0,.int .i64 0,.int .i64 0,.int .i64 0] 65)) w3.heap.size (.slice p3 (l.length+1) c3) (l++[RefTotal.last s.size]) ⟨0,0,0,0,0⟩):=Za ⟨Blk.new w3 _ _,hTR.moved (by simp) (fun j hj _=>Below.heap_alloc w3 _ j hj),by simp,by have:=HLL.out;simp;omega,fun t ht=>(by
           rcases List.mem_append.1 ht with q|q
           · have:=lex_txt s.data.toList t (by rw[HLX.out];exact q);omega
           · rw[List.mem_singleton] at q;subst q;simp[RefTotal.last])⟩
          clear ho hb hgr hat ho' hTR hX3 hY3 HX2 HY2 HB2)
       | (go_at_call 14;(with_reducible refine (HP.out _ _ _ _ _ HR3.out HPR.out).mono ?_);rintro e w4 ⟨vT,vD,vC,vI,vL,rfl,hR,hr,hb⟩
          have hrw:RefProgS.Rows w4 (w3.heap.size+1) vT vD vC vI vL r.1:=(by simpa using hR);obtain⟨pT,cT,rfl⟩:=Kd.R_slice hrw.t;obtain⟨pD,cD,rfl⟩:=Kd.R_slice hrw.d;obtain⟨pC,cC,rfl⟩:=Kd.R_slice hrw.c;obtain⟨pI,cI,rfl⟩:=Kd.R_slice hrw.i;obtain⟨pL,cL,rfl⟩:=Kd.R_slice hrw.l;have HRW4:=Za (hrw.below (Zv (Below.refl _ _) (.cells #[.slice pT r.1.types.length cT,.slice pD r.1.decls.length cD,.slice pC r.1.comps.length cC,.slice pI r.1.inits.length cI,.slice pL r.1.clauses.length cL] 28)));have H4:=Za (hr.alloc (.cells #[.slice pT r.1.types.length cT,.slice pD r.1.decls.length cD,.slice pC r.1.comps.length cC,.slice pI r.1.inits.length cI,.slice pL r.1.clauses.length cL] 28));have HB4:=Za ((Zv HB3.out _).trans (⟨hb.os,hb.tape,hb.output,hb.size,fun j hj=>hb.block j (by simp;omega) (fun e=>by have:=Zb e;omega)⟩:Below w.heap.size (w3.alloc (.cells #[.slice p3 (l.length+1) c3,.int .i64 0,.int .i64 0,.int .i64 0,.int .i64 0,.int .i64 0] 65)) w4));have hX4:=HX3.out.grown hb (fun e=>by have:=Zb e;omega);have hY4:=HY3.out.grown hb (fun e=>by have:=Zb e;omega);obtain⟨x0,x1,x2,x3,x4⟩:=Zt hX4;obtain⟨fx0,fx1,fx2,fx3,fx4⟩:=Zz hX4;obtain⟨y0,y1⟩:=s2_cells hY4;obtain⟨fy0,fy1⟩:=s2_frozen hY4;have HX4:=Za hX4;have HY4:=Za hY4;have hltx_4:w.heap.size<w4.heap.size:=hX4.lt;have hlty_4:w.heap.size+1<w4.heap.size:=hY4.lt;have hltg_4:w3.heap.size<w4.heap.size:=hr.blk.lt;obtain⟨_,_,_,_,g4,g5⟩:=hr.cells;have fg4:=hr.blk.frozen 4;have fg5:=hr.blk.frozen 5;clear hX4 hY4 HX3 HY3;have HX4:=Za (HX4.out.alloc (.cells #[.slice pT r.1.types.length cT,.slice pD r.1.decls.length cD,.slice pC r.1.comps.length cC,.slice pI r.1.inits.length cI,.slice pL r.1.clauses.length cL] 28));have HY4:=Za (HY4.out.alloc (.cells #[.slice pT r.1.types.length cT,.slice pD r.1.decls.length cD,.slice pC r.1.comps.length cC,.slice pI r.1.inits.length cI,.slice pL r.1.clauses.length cL] 28));have HB4:=Za (Zv HB4.out (.cells #[.slice pT r.1.types.length cT,.slice pD r.1.decls.length cD,.slice pC r.1.comps.length cC,.slice pI r.1.inits.length cI,.slice pL r.1.clauses.length cL] 28));have HPB4:=Za (Blk.new w4 28 #[.slice pT r.1.types.length cT,.slice pD r.1.decls.length cD,.slice pC r.1.comps.length cC,.slice pI r.1.inits.length cI,.slice pL r.1.clauses.length cL]);clear hR hrw hr hb HB3 HR3)
       | (go_at_call 15;(with_reducible refine (ZK _ _ _ _ _ H4.out).mono ?_);rintro e w5 ⟨rfl,hl⟩
          have hb:=Zr hl w3.heap.size;have hr:=H4.out.below hl;have HRW5:=Za (HRW4.out.grown (Zh _) hb);have H5:=Za hr;have HB5:=Za (HB4.out.trans (⟨hb.os,hb.tape,hb.output,hb.size,fun j hj=>hb.block j (Nat.lt_of_lt_of_le hj HB4.out.size) (fun e=>by have:=Zb e;omega)⟩:Below w.heap.size _ w5));have HPB5:=Za (HPB4.out.grown hb (fun e=>by have:=Zb e;omega));obtain⟨p0,p1,p2,p3,p4⟩:=Zt HPB5.out;have hltp_5:w4.heap.size<w5.heap.size:=HPB5.out.lt;have hX5:=HX4.out.grown hb (fun e=>by have:=Zb e;omega);have hY5:=HY4.out.grown hb (fun e=>by have:=Zb e;omega);obtain⟨x0,x1,x2,x3,x4⟩:=Zt hX5;obtain⟨fx0,fx1,fx2,fx3,fx4⟩:=Zz hX5;obtain⟨y0,y1⟩:=s2_cells hY5;obtain⟨fy0,fy1⟩:=s2_frozen hY5;have HX5:=Za hX5;have HY5:=Za hY5;have hltx_5:w.heap.size<w5.heap.size:=hX5.lt;have hlty_5:w.heap.size+1<w5.heap.size:=hY5.lt;have hltg_5:w3.heap.size<w5.heap.size:=hr.blk.lt;obtain⟨_,_,_,_,g4,g5⟩:=hr.cells;have fg4:=hr.blk.frozen 4;have fg5:=hr.blk.frozen 5;clear hX5 hY5 HX4 HY4;clear hr hb hl HB4 H4 HRW4)
       | (go_at_call 17;(with_reducible refine (ZP _ _ _ _ _ false hw H5.out).mono ?_);rintro e w' ⟨rfl,rfl⟩))
 go_region;go_wp2;refine bodyPost_ret (results_cc rfl _ _ w.heap.size (w.heap.size+1) 28 31 #[.slice none 0 0,.slice none 0 0,.slice none 0 0,.slice none 0 0,.slice none 0 0] #[.int .i64 r.2.why,.int .i64 r.2.fat] (0,0) (0,0) _ _ rfl ?_ Try.underlying28 rfl (by kernel_rfl) rfl ?_ Try.underlying31 rfl (by kernel_rfl)) rfl ?_
 · exact ((((ZS HX5.out).far (p:=⟨w.heap.size+1,0,none⟩) (Zf (Zh _)) _).far (p:=⟨w.heap.size+1,1,none⟩) (Zf (Zh _)) _)).drew
 · exact ((s2_blk (five_far HY5.out (Zg (Zh _))))).drew
 · exact⟨_,_,_,_,_,rfl,RefProgS.Rows.nil _ _,((below_set (below_set (below_set (below_set (below_set (below_set (below_set HB5.out (Zc _) _ _) (Zc _) _ _) (Zc _) _ _) (Zc _) _ _) (Zc _) _ _) (Nat.le_succ _) _ _) (Nat.le_succ _) _ _)).drew⟩
theorem parse_rest (s:ByteArray) (hs:s.size≤140737488351232) (w:World) (h0:(lex s.data.toList).2.1=0) (h1:(lex s.data.toList).2.2=0) (k:Nat) (hk:k≤549755813888) (l:List T) (hlx:(lex s.data.toList).1=l) (r:ProgT×St) (hr:prog (l++[RefTotal.last s.size]) k prog0 ⟨0,0,0,0,0⟩=some r) (hk0:¬(cur (l++[RefTotal.last s.size]) r.2).kind=0):Calls Try.prog 7 #[.string s] w (ParsePost w (prog0,(fails (l++[RefTotal.last s.size]) 10 r.2).why,(fails (l++[RefTotal.last s.size]) 10 r.2).fat)):=by
 have HS:=Za hs;obtain⟨y,hy⟩:∃ x:Int,x=0:=⟨_,rfl⟩;obtain⟨f,hf⟩:∃ x:Int,x=0:=⟨_,rfl⟩;have HF:Hid ((lex s.data.toList).2.1=y∧(lex s.data.toList).2.2=f):=Za ⟨h0.trans hy.symm,h1.trans hf.symm⟩;have HLL:Hid (l.length≤65536):=Za (by rw[← hlx];exact lex_len _);have HLX:=Za hlx;have HPR:=Za hr;have HP:=Za (prog_all (l++[RefTotal.last s.size]) k k (Zc _) hk).1;unfold PProg at HP;subst hy;subst hf;have hkb:((cur (l++[RefTotal.last s.size]) r.2).kind==0)=false:=(by simp[hk0]);have hkc:((cur (l++[RefTotal.last s.size]) r.2).kind != 0)=true:=(by simp[hk0]);clear hk0;have hw:well (fails (l++[RefTotal.last s.size]) 10 r.2)=false:=bad_fails (by decide) _;clear hs h0 h1 hlx hr hk;go_enter Try.func7,Try.ntmps7
 go_wp2_with (first
       | (go_at_call 13;go_loud (
          (with_reducible refine (ref_Tokens _ HS.out _).mono ?_);rintro e w1 ⟨vt,rfl,hk,hb⟩;rw[HF.out.1,HF.out.2];rw[HLX.out] at hk;have hX:=(Blk.new w 28 #[.slice none 0 0,.slice none 0 0,.slice none 0 0,.slice none 0 0,.slice none 0 0]).alloc (.cells #[.int .i64 0,.int .i64 0] 31);have hX1:=hX.below hb hX.lt;have hY:Blk ((w.alloc (.cells #[.slice none 0 0,.slice none 0 0,.slice none 0 0,.slice none 0 0,.slice none 0 0] 28)).alloc (.cells #[.int .i64 0,.int .i64 0] 31)) (w.heap.size+1) 31 #[.int .i64 0,.int .i64 0]:=(by have:=Blk.new (w.alloc (.cells #[.slice none 0 0,.slice none 0 0,.slice none 0 0,.slice none 0 0,.slice none 0 0] 28)) 31 #[.int .i64 0,.int .i64 0];simpa using this);have hY1:=hY.below hb hY.lt;obtain⟨x0,x1,x2,x3,x4⟩:=Zt hX1;obtain⟨fx0,fx1,fx2,fx3,fx4⟩:=Zz hX1;obtain⟨y0,y1⟩:=s2_cells hY1;obtain⟨fy0,fy1⟩:=s2_frozen hY1;have HX1:=Za hX1;have HY1:=Za hY1;have hltx_1:w.heap.size<w1.heap.size:=hX1.lt;have hlty_1:w.heap.size+1<w1.heap.size:=hY1.lt;have HB1:=Za (below_lower hb);obtain⟨pt,ct,rfl⟩:=Kd.R_slice hk;rw[List.length_map];have HT:Hid (Kd.C k63 (w1.alloc (.cells #[.int .i64 0,.int .i64 0] 31)) pt l.length (l.map tkS)):=Za (c_of_R (Kd.R_alloc hk _));clear hk hb hX hX1 hY hY1))
       | ((with_reducible refine ZR (b:=.append) (xs:=#[.const (.slice none 0 0),.tmp 18]) rfl ?_);at_builtin
          refine Kd.R_append_rows k63 (Rr:=k63.K (w1.alloc (.cells #[.int .i64 0,.int .i64 0] 31))) (w1.heap.size+1) rfl (.const (.slice none 0 0)) (.tmp 18) 59 63 (.agg #[.int .i64 0,.string ⟨#[]⟩,.int .i64 0,.int .i64 0]) 40 rfl Try.underlying59 infoTok rfl (by decide) (by decide) (.slice none 0 0) [] (l.map tkS) pt l.length ct (fun b=>w1.heap.size+1≤b) (fun _=>False) ?a1 ?a2 (Kd.R_nil _ _ _ _ _) HT.out ?aK (fun _ hk=>hk.elim) ?aF (Below.refl _ _) ?aS ?aL ?_;(try (case a1=>rfl));(try (case a2=>rfl));(case aK=>exact fun x cs hK=>by rw[k63_open hK];exact k63_mkM _ _ _ x)
          (case aF=>exact fun X hX=>by simpa using hX)
          (case aS=>simp)
          (case aL=>(have:=HLL.out;simp;omega))
          intro v1 w2 ho hb hgr hat;rw[List.nil_append] at ho;obtain⟨p2,c2,rfl⟩:=Kd.R_slice ho;rw[List.length_map] at ho ⊢;have HO2:=Za ho;have HOW:Hid (∀ X,(Value.slice p2 l.length c2).ownBlock=some X→w1.heap.size+1≤X):=Za (fun X hX=>ho.1 X hX);have hb2:Below w1.heap.size w1 w2:=(Zv (Below.refl _ _) _).trans ((below_grown0 hgr).mono (by simp));have HB2:=Za (HB1.out.trans (hb2.mono (Zd hltx_1)));have hX2:=HX1.out.below hb2 hltx_1;have hY2:=HY1.out.below hb2 hlty_1;have HX2:=Za hX2;have HY2:=Za hY2;have hlt2:w1.heap.size+1≤w2.heap.size:=(by have:=hgr.size;simpa using this);clear ho hb hgr hat hb2 hX2 hY2)
       | ((with_reducible refine ZR (b:=.append) (xs:=#[.tmp 19,.tmp 23]) rfl ?_);at_builtin
          refine Kd.R_append k63 (w1.heap.size+1) rfl (.tmp 19) (.tmp 23) 59 63 (.agg #[.int .i64 0,.string ⟨#[]⟩,.int .i64 0,.int .i64 0]) 40 rfl Try.underlying59 infoTok rfl (by decide) (by decide) (.slice p2 l.length c2) (l.map tkS) (tkS (RefTotal.last s.size)) [.int .i64 0,.string ⟨#[]⟩,.int .i64 0,.int .i64 (s.size:Int)] (fun b=>w1.heap.size+1≤b) (fun _=>False) ?a1 ?a2 (k63_mkM _ _ _ _) (fun _ hk=>hk.elim) ?aF HO2.out (Below.refl _ _) ?aS ?aL ?_;(try (case a1=>rfl));(try (case a2=>rfl));(case aF=>exact fun X hX=>by omega)
          (case aS=>omega)
          (case aL=>(have:=HLL.out;simp;omega))
          intro v1 w3 ho hb hgr hat;obtain⟨p3,c3,rfl⟩:=Kd.R_slice ho;have hn:(l.map tkS++[tkS (RefTotal.last s.size)]).length=l.length+1:=(by simp);rw[hn] at ho ⊢;have ho':Kd.R k63 63 w3 (w1.heap.size+1) (fun b=>w1.heap.size+1≤b) (.slice p3 (l.length+1) c3) ((l++[RefTotal.last s.size]).map tkS):=(by rw[List.map_append];exact ho);have hTR:=tok_row ho' (by simp) (Zc _);have HB3:=Za (HB2.out.trans (⟨hgr.os,hgr.tape,hgr.output,hgr.size,fun j hj=>hgr.block j (by omega) (fun e=>by have:=HOW.out _ e.symm;omega)⟩:Below w.heap.size w2 w3));have hX3:=(HX2.out.grown hgr (fun e=>by have:=HOW.out _ e.symm;omega)).alloc (.cells #[.slice p3 (l.length+1) c3,.int .i64 0,.int .i64 0,.int .i64 0,.int .i64 0,.int .i64 0] 65);have hY3:=(HY2.out.grown hgr (fun e=>by have:=HOW.out _ e.symm;omega)).alloc (.cells #[.slice p3 (l.length+1) c3,.int .i64 0,.int .i64 0,.int .i64 0,.int .i64 0,.int .i64 0] 65);have HX3:=Za hX3;have HY3:=Za hY3;have hlt3:w2.heap.size≤w3.heap.size:=hgr.size;have HR3:Hid (RS (w3.alloc (.cells #[.slice p3 (l.length+1) c3,.int .i64 0,.int .i64 0,.int .i64 0,.int .i64 0,.int .i64 0] 65)) w3.heap.size (.slice p3 (l.length+1) c3) (l++[RefTotal.last s.size]) ⟨0,0,0,0,0⟩):=Za ⟨Blk.new w3 _ _,hTR.moved (by simp) (fun j hj _=>Below.heap_alloc w3 _ j hj),by simp,by have:=HLL.out;simp;omega,fun t ht=>(by
           rcases List.mem_append.1 ht with q|q
           · have:=lex_txt s.data.toList t (by rw[HLX.out];exact q);omega
           · rw[List.mem_singleton] at q;subst q;simp[RefTotal.last])⟩
          clear ho hb hgr hat ho' hTR hX3 hY3 HX2 HY2 HB2)
       | (go_at_call 14;(with_reducible refine (HP.out _ _ _ _ _ HR3.out HPR.out).mono ?_);rintro e w4 ⟨vT,vD,vC,vI,vL,rfl,hR,hr,hb⟩
          have hrw:RefProgS.Rows w4 (w3.heap.size+1) vT vD vC vI vL r.1:=(by simpa using hR);obtain⟨pT,cT,rfl⟩:=Kd.R_slice hrw.t;obtain⟨pD,cD,rfl⟩:=Kd.R_slice hrw.d;obtain⟨pC,cC,rfl⟩:=Kd.R_slice hrw.c;obtain⟨pI,cI,rfl⟩:=Kd.R_slice hrw.i;obtain⟨pL,cL,rfl⟩:=Kd.R_slice hrw.l;have HRW4:=Za (hrw.below (Zv (Below.refl _ _) (.cells #[.slice pT r.1.types.length cT,.slice pD r.1.decls.length cD,.slice pC r.1.comps.length cC,.slice pI r.1.inits.length cI,.slice pL r.1.clauses.length cL] 28)));have H4:=Za (hr.alloc (.cells #[.slice pT r.1.types.length cT,.slice pD r.1.decls.length cD,.slice pC r.1.comps.length cC,.slice pI r.1.inits.length cI,.slice pL r.1.clauses.length cL] 28));have HB4:=Za ((Zv HB3.out _).trans (⟨hb.os,hb.tape,hb.output,hb.size,fun j hj=>hb.block j (by simp;omega) (fun e=>by have:=Zb e;omega)⟩:Below w.heap.size (w3.alloc (.cells #[.slice p3 (l.length+1) c3,.int .i64 0,.int .i64 0,.int .i64 0,.int .i64 0,.int .i64 0] 65)) w4));have hX4:=HX3.out.grown hb (fun e=>by have:=Zb e;omega);have hY4:=HY3.out.grown hb (fun e=>by have:=Zb e;omega);obtain⟨x0,x1,x2,x3,x4⟩:=Zt hX4;obtain⟨fx0,fx1,fx2,fx3,fx4⟩:=Zz hX4;obtain⟨y0,y1⟩:=s2_cells hY4;obtain⟨fy0,fy1⟩:=s2_frozen hY4;have HX4:=Za hX4;have HY4:=Za hY4;have hltx_4:w.heap.size<w4.heap.size:=hX4.lt;have hlty_4:w.heap.size+1<w4.heap.size:=hY4.lt;have hltg_4:w3.heap.size<w4.heap.size:=hr.blk.lt;obtain⟨_,_,_,_,g4,g5⟩:=hr.cells;have fg4:=hr.blk.frozen 4;have fg5:=hr.blk.frozen 5;clear hX4 hY4 HX3 HY3;have HX4:=Za (HX4.out.alloc (.cells #[.slice pT r.1.types.length cT,.slice pD r.1.decls.length cD,.slice pC r.1.comps.length cC,.slice pI r.1.inits.length cI,.slice pL r.1.clauses.length cL] 28));have HY4:=Za (HY4.out.alloc (.cells #[.slice pT r.1.types.length cT,.slice pD r.1.decls.length cD,.slice pC r.1.comps.length cC,.slice pI r.1.inits.length cI,.slice pL r.1.clauses.length cL] 28));have HB4:=Za (Zv HB4.out (.cells #[.slice pT r.1.types.length cT,.slice pD r.1.decls.length cD,.slice pC r.1.comps.length cC,.slice pI r.1.inits.length cI,.slice pL r.1.clauses.length cL] 28));have HPB4:=Za (Blk.new w4 28 #[.slice pT r.1.types.length cT,.slice pD r.1.decls.length cD,.slice pC r.1.comps.length cC,.slice pI r.1.inits.length cI,.slice pL r.1.clauses.length cL]);clear hR hrw hr hb HB3 HR3)
       | (go_at_call 15;(with_reducible refine (ZK _ _ _ _ _ H4.out).mono ?_);rintro e w5 ⟨rfl,hl⟩
          have hb:=Zr hl w3.heap.size;have hr:=H4.out.below hl;have HRW5:=Za (HRW4.out.grown (Zh _) hb);have H5:=Za hr;have HB5:=Za (HB4.out.trans (⟨hb.os,hb.tape,hb.output,hb.size,fun j hj=>hb.block j (Nat.lt_of_lt_of_le hj HB4.out.size) (fun e=>by have:=Zb e;omega)⟩:Below w.heap.size _ w5));have HPB5:=Za (HPB4.out.grown hb (fun e=>by have:=Zb e;omega));obtain⟨p0,p1,p2,p3,p4⟩:=Zt HPB5.out;have hltp_5:w4.heap.size<w5.heap.size:=HPB5.out.lt;have hX5:=HX4.out.grown hb (fun e=>by have:=Zb e;omega);have hY5:=HY4.out.grown hb (fun e=>by have:=Zb e;omega);obtain⟨x0,x1,x2,x3,x4⟩:=Zt hX5;obtain⟨fx0,fx1,fx2,fx3,fx4⟩:=Zz hX5;obtain⟨y0,y1⟩:=s2_cells hY5;obtain⟨fy0,fy1⟩:=s2_frozen hY5;have HX5:=Za hX5;have HY5:=Za hY5;have hltx_5:w.heap.size<w5.heap.size:=hX5.lt;have hlty_5:w.heap.size+1<w5.heap.size:=hY5.lt;have hltg_5:w3.heap.size<w5.heap.size:=hr.blk.lt;obtain⟨_,_,_,_,g4,g5⟩:=hr.cells;have fg4:=hr.blk.frozen 4;have fg5:=hr.blk.frozen 5;clear hX5 hY5 HX4 HY4;clear hr hb hl HB4 H4 HRW4)
       | (go_at_call 16;(with_reducible refine (Z2 _ _ _ _ _ _ H5.out).mono ?_);rintro e w6 ⟨rfl,hr,hb⟩
          have HRW6:=Za (HRW5.out.grown (Zh _) hb);have H6:=Za hr;have HB6:=Za (HB5.out.trans (⟨hb.os,hb.tape,hb.output,hb.size,fun j hj=>hb.block j (Nat.lt_of_lt_of_le hj HB5.out.size) (fun e=>by have:=Zb e;omega)⟩:Below w.heap.size _ w6));have HPB6:=Za (HPB5.out.grown hb (fun e=>by have:=Zb e;omega));obtain⟨p0,p1,p2,p3,p4⟩:=Zt HPB6.out;have hltp_6:w4.heap.size<w6.heap.size:=HPB6.out.lt;have hX6:=HX5.out.grown hb (fun e=>by have:=Zb e;omega);have hY6:=HY5.out.grown hb (fun e=>by have:=Zb e;omega);obtain⟨x0,x1,x2,x3,x4⟩:=Zt hX6;obtain⟨fx0,fx1,fx2,fx3,fx4⟩:=Zz hX6;obtain⟨y0,y1⟩:=s2_cells hY6;obtain⟨fy0,fy1⟩:=s2_frozen hY6;have HX6:=Za hX6;have HY6:=Za hY6;have hltx_6:w.heap.size<w6.heap.size:=hX6.lt;have hlty_6:w.heap.size+1<w6.heap.size:=hY6.lt;have hltg_6:w3.heap.size<w6.heap.size:=hr.blk.lt;obtain⟨_,_,_,_,g4,g5⟩:=hr.cells;have fg4:=hr.blk.frozen 4;have fg5:=hr.blk.frozen 5;clear hX6 hY6 HX5 HY5;clear hr hb HB5 H5 HRW5)
       | (go_at_call 17;(with_reducible refine (ZP _ _ _ _ _ false hw H6.out).mono ?_);rintro e w' ⟨rfl,rfl⟩))
 go_region;go_wp2;refine bodyPost_ret (results_cc rfl _ _ w.heap.size (w.heap.size+1) 28 31 #[.slice none 0 0,.slice none 0 0,.slice none 0 0,.slice none 0 0,.slice none 0 0] #[.int .i64 (fails (l++[RefTotal.last s.size]) 10 r.2).why,.int .i64 (fails (l++[RefTotal.last s.size]) 10 r.2).fat] (0,0) (0,0) _ _ rfl ?_ Try.underlying28 rfl (by kernel_rfl) rfl ?_ Try.underlying31 rfl (by kernel_rfl)) rfl ?_
 · exact ((((ZS HX6.out).far (p:=⟨w.heap.size+1,0,none⟩) (Zf (Zh _)) _).far (p:=⟨w.heap.size+1,1,none⟩) (Zf (Zh _)) _)).drew
 · exact ((s2_blk (five_far HY6.out (Zg (Zh _))))).drew
 · exact⟨_,_,_,_,_,rfl,RefProgS.Rows.nil _ _,((below_set (below_set (below_set (below_set (below_set (below_set (below_set HB6.out (Zc _) _ _) (Zc _) _ _) (Zc _) _ _) (Zc _) _ _) (Zc _) _ _) (Nat.le_succ _) _ _) (Nat.le_succ _) _ _)).drew⟩
theorem parse_any (s:ByteArray) (hs:s.size≤140737488351232) (w:World) (k:Nat) (hk:k≤549755813888) (r:ProgT×Int×Int) (hr:parse k s.data.toList=some r):Calls Try.prog 7 #[.string s] w (ParsePost w r):=by
 have hsz:s.size=s.data.toList.length:=Lib.size_eq s;unfold parse at hr;by_cases h:(lex s.data.toList).2.1=0∧(lex s.data.toList).2.2=0
 · rw[if_pos h] at hr;obtain⟨q,hq,hr⟩:=Zp hr;rw[← hsz] at hq hr;have hq2:prog ((lex s.data.toList).1++[RefTotal.last s.size]) k prog0 ⟨0,0,0,0,0⟩=some q:=hq;by_cases hk0:(cur ((lex s.data.toList).1++[RefTotal.last s.size]) q.2).kind=0
   · have hk1:(cur ((lex s.data.toList).1++[⟨0,[],0,s.size⟩]) q.2).kind=0:=hk0;simp only[if_pos hk1] at hr;by_cases hw:well q.2=true
     · rw[if_pos hw] at hr;injection hr with hr
       subst hr;exact parse_good s hs w h.1 h.2 k hk _ rfl q hq2 hk0 hw
     · rw[if_neg hw] at hr;injection hr with hr
       subst hr;exact parse_ill s hs w h.1 h.2 k hk _ rfl q hq2 hk0 (by simpa using hw)
   · have hk1:¬(cur ((lex s.data.toList).1++[⟨0,[],0,s.size⟩]) q.2).kind=0:=hk0;simp only[if_neg hk1] at hr;have hb:well (fails ((lex s.data.toList).1++[⟨0,[],0,s.size⟩]) 10 q.2)=false:=bad_fails (by decide) _;rw[if_neg (by simp[hb])] at hr;injection hr with hr
     subst hr;exact parse_rest s hs w h.1 h.2 k hk _ rfl q hq2 hk0
 · rw[if_neg h] at hr;injection hr with hr
   subst hr;exact parse_bad s hs w h
end RefParse
namespace RefSameP
open Go Go.RowKit RefPure RefKinds RefMem YtddmceldglelkaaW.PrintWords
def plc (pl:Bool) (a b:Int):Bool:=!pl || decide (a=b)
mutual
def sameE (pl:Bool):Ex→Ex→Bool
 | ⟨k,n,s,kids,at_⟩,⟨k',n',s',kids',at'⟩=>decide (k=k')&&decide (n=n')&&decide (s=s')&&plc pl at_ at'&&sameEs pl kids kids'
def sameEs (pl:Bool):List Ex→List Ex→Bool
 | [],[]=>true
 | a :: l,b :: m=>sameE pl a b&&sameEs pl l m
 | [],_ :: _=>false
 | _ :: _,[]=>false
end
theorem sameE_eq (pl:Bool) (a b:Ex):sameE pl a b=(decide (a.kind=b.kind)&&decide (a.n=b.n)&&decide (a.s=b.s)&&plc pl a.at_ b.at_&&sameEs pl a.kids b.kids):=by cases a;cases b;rw[sameE]
theorem sameEs_len (pl:Bool):∀ (l m:List Ex),l.length≠m.length→sameEs pl l m=false:=by
 intro l;induction l with
 | nil=>intro m h;cases m with
   | nil=>exact absurd rfl h
   | cons b m=>rw[sameEs]
 | cons a l ih=>intro m h;cases m with
   | nil=>rw[sameEs]
   | cons b m=>rw[sameEs,ih m (by simpa using h)];simp
theorem sameEs_drop (pl:Bool) (l m:List Ex) (i:Nat) (a b:Ex) (ha:l[i]?=some a) (hb:m[i]?=some b):sameEs pl (l.drop i) (m.drop i)=(sameE pl a b&&sameEs pl (l.drop (i+1)) (m.drop (i+1))):=by obtain⟨h1,rfl⟩:=Zq ha;obtain⟨h2,rfl⟩:=Zq hb;rw[List.drop_eq_getElem_cons h1,List.drop_eq_getElem_cons h2,sameEs]
theorem sameEs_end (pl:Bool) (l m:List Ex) (i:Nat) (h1:l.length≤i) (h2:m.length≤i):sameEs pl (l.drop i) (m.drop i)=true:=by rw[List.drop_eq_nil_of_le h1,List.drop_eq_nil_of_le h2,sameEs]
theorem plc_refl (pl:Bool) (a:Int):plc pl a a=true:=by simp[plc]
mutual
theorem sameE_refl (pl:Bool):∀ a,sameE pl a a=true
 | ⟨k,n,s,kids,at_⟩=>by rw[sameE,sameEs_refl pl kids];simp[plc_refl]
theorem sameEs_refl (pl:Bool):∀ l,sameEs pl l l=true
 | []=>by rw[sameEs]
 | a :: l=>by rw[sameEs,sameE_refl pl a,sameEs_refl pl l];rfl
end
def sameA (pl:Bool) (a b:AtomT):Bool:=decide (a.rel=b.rel)&&plc pl a.at_ b.at_&&sameEs pl a.args b.args
def sameAll {α:Type} (f:α→α→Bool):List α→List α→Bool
 | [],[]=>true
 | a :: l,b :: m=>f a b&&sameAll f l m
 | [],_ :: _=>false
 | _ :: _,[]=>false
section
variable {α:Type} (f:α→α→Bool)
theorem sameAll_len:∀ (l m:List α),l.length≠m.length→sameAll f l m=false:=by
 intro l;induction l with
 | nil=>intro m h;cases m with
   | nil=>exact absurd rfl h
   | cons b m=>rfl
 | cons a l ih=>intro m h;cases m with
   | nil=>rfl
   | cons b m=>rw[sameAll,ih m (by simpa using h)];simp
theorem sameAll_drop (l m:List α) (i:Nat) (a b:α) (ha:l[i]?=some a) (hb:m[i]?=some b):sameAll f (l.drop i) (m.drop i)=(f a b&&sameAll f (l.drop (i+1)) (m.drop (i+1))):=by obtain⟨h1,rfl⟩:=Zq ha;obtain⟨h2,rfl⟩:=Zq hb;rw[List.drop_eq_getElem_cons h1,List.drop_eq_getElem_cons h2,sameAll]
theorem sameAll_end (l m:List α) (i:Nat) (h1:l.length≤i) (h2:m.length≤i):sameAll f (l.drop i) (m.drop i)=true:=by rw[List.drop_eq_nil_of_le h1,List.drop_eq_nil_of_le h2,sameAll]
theorem sameAll_refl (h:∀ a,f a a=true):∀ l,sameAll f l l=true
 | []=>rfl
 | a :: l=>by rw[sameAll,h a,sameAll_refl h l];rfl
end
def sameLit (pl:Bool) (a b:LitT):Bool:=decide (a.kind=b.kind)&&decide (a.op=b.op)&&plc pl a.at_ b.at_&&sameA pl a.atom b.atom&&sameE pl a.l b.l&&sameE pl a.r b.r
def sameCl (pl:Bool) (a b:ClauseT):Bool:=sameA pl a.head b.head&&plc pl a.at_ b.at_&&sameAll (sameLit pl) a.body b.body
def sameF (a b:FieldT):Bool:=decide (a.name=b.name)&&decide (a.type=b.type)
def sameCt (a b:CtorT):Bool:=decide (a.name=b.name)&&sameAll sameF a.fields b.fields
def sameT (pl:Bool) (a b:TDecl):Bool:=decide (a.name=b.name)&&decide (a.sub=b.sub)&&plc pl a.at_ b.at_&&sameAll sameCt a.ctors b.ctors
def sameD (pl:Bool) (a b:DeclT):Bool:=decide (a.name=b.name)&&decide (a.input=b.input)&&decide (a.output=b.output)&&plc pl a.at_ b.at_&&sameAll sameF a.cols b.cols
def sameS (a b:ByteArray):Bool:=decide (a=b)
theorem sameA_refl (pl:Bool) (a:AtomT):sameA pl a a=true:=by simp[sameA,plc_refl,sameEs_refl]
theorem sameLit_refl (pl:Bool) (a:LitT):sameLit pl a a=true:=by simp[sameLit,plc_refl,sameA_refl,sameE_refl]
theorem sameCl_refl (pl:Bool) (a:ClauseT):sameCl pl a a=true:=by simp[sameCl,plc_refl,sameA_refl,sameAll_refl _ (sameLit_refl pl)]
theorem sameF_refl (a:FieldT):sameF a a=true:=by simp[sameF]
theorem sameCt_refl (a:CtorT):sameCt a a=true:=by simp[sameCt,sameAll_refl _ sameF_refl]
theorem sameT_refl (pl:Bool) (a:TDecl):sameT pl a a=true:=by simp[sameT,plc_refl,sameAll_refl _ sameCt_refl]
theorem sameD_refl (pl:Bool) (a:DeclT):sameD pl a a=true:=by simp[sameD,plc_refl,sameAll_refl _ sameF_refl]
end RefSameP
namespace RefSame
open Go Go.RowKit RefPure RefKinds RefMem RefTake RefSmall RefFields RefExprs RefExpr RefOne RefCells YtddmceldglelkaaW.PrintWords
open LexPure (T lex)
attribute [local go_sem] fld0 fld1 fld2 fld3
open RefSameP
theorem wrap_up (i:Nat) (h:i+1≤9223372036854775807):wrap64 ((i:Int)+1)=((i+1:Nat):Int):=by unfold wrap64;omega
theorem bytes_beq (a b:ByteArray):(a.toList==b.toList)=decide (a=b):=by
 rw[Lib.toList_data,Lib.toList_data,Bool.eq_iff_iff,beq_iff_eq,decide_eq_true_iff];constructor
 · intro h;cases a;cases b;congr 1;exact Array.toList_inj.1 h
 · intro h;rw[h]
theorem ZU (w:World) (a b:Int) (pl:Bool):Calls Try.prog 26 #[.int .i64 a,.int .i64 b,.bool pl] w fun e w'=>e=.returned (.bool (plc pl a b))∧w=w':=by cases pl <;> (go_enter Try.func26,Try.ntmps26;go_wp2;all_goals go_ret;all_goals exact⟨retb (by rw[Bool.eq_iff_iff];simp[plc]),rfl⟩)
def PEx (N:Nat):Prop:=∀ (w:World) (a b:Ex) (va vb:Value) (pl:Bool),SizeOf.sizeOf a≤N→Vw kEx w va a.kids→Vw kEx w vb b.kids→Calls Try.prog 62 #[.agg #[.int .i64 a.kind,.int .i64 a.n,.string a.s,va,.int .i64 a.at_],.agg #[.int .i64 b.kind,.int .i64 b.n,.string b.s,vb,.int .i64 b.at_],.bool pl] w fun e w'=>e=.returned (.bool (sameE pl a b))∧Below w.heap.size w w'
def PExs (N:Nat):Prop:=∀ (w:World) (l m:List Ex) (vl vm:Value) (pl:Bool),SizeOf.sizeOf l≤N→Vw kEx w vl l→Vw kEx w vm m→Calls Try.prog 79 #[vl,vm,.bool pl] w fun e w'=>e=.returned (.bool (sameEs pl l m))∧Below w.heap.size w w'
theorem ex_step (N:Nat) (ih:PExs N):PEx (N+1):=by
 intro w a b va vb pl hsz ha hb;obtain⟨A,c,rfl⟩:=ha.slice;obtain⟨A',c',rfl⟩:=hb.slice;have HI:=Za ih;unfold PExs at HI;have HSZ:Hid (SizeOf.sizeOf a.kids≤N):=Za (by cases a;simp at hsz ⊢;omega);have HA:=Za ((ha.below (Zv (Below.refl _ _) (.cells #[.int .i64 a.kind,.int .i64 a.n,.string a.s,.slice A a.kids.length c,.int .i64 a.at_] 56))).below (Zv (Below.refl _ _) (.cells #[.int .i64 b.kind,.int .i64 b.n,.string b.s,.slice A' b.kids.length c',.int .i64 b.at_] 56)));have HB:=Za ((hb.below (Zv (Below.refl _ _) (.cells #[.int .i64 a.kind,.int .i64 a.n,.string a.s,.slice A a.kids.length c,.int .i64 a.at_] 56))).below (Zv (Below.refl _ _) (.cells #[.int .i64 b.kind,.int .i64 b.n,.string b.s,.slice A' b.kids.length c',.int .i64 b.at_] 56)));have HE:=Za (sameE_eq pl a b);clear ih hsz ha hb;by_cases h1:a.kind=b.kind;(all_goals by_cases h2:a.n=b.n);(all_goals by_cases h3:a.s=b.s);all_goals cases h4:plc pl a.at_ b.at_
 all_goals
  rw[h4] at HE;(try (have h1b:(a.kind==b.kind)=true:=by simpa using h1));(try (have h1b:(a.kind==b.kind)=false:=by simpa using h1));(try (have h2b:(a.n==b.n)=true:=by simpa using h2));(try (have h2b:(a.n==b.n)=false:=by simpa using h2));(try (have h3b:(a.s.toList==b.s.toList)=true:=by rw[bytes_beq];exact Zl h3));(try (have h3b:(a.s.toList==b.s.toList)=false:=by rw[bytes_beq];exact Zm h3));simp only[h1,h2,h3,decide_true,decide_false,Bool.true_and,Bool.false_and,Bool.and_true,Bool.and_false] at HE;clear h1 h2 h3;have HP:=Za h4;clear h4;go_enter Try.func62,Try.ntmps62
  go_wp2_with (first
      | (go_at_call 26;(with_reducible refine (ZU _ _ _ _).mono ?_);rintro e w' ⟨rfl,rfl⟩;rw[HP.out])
      | (go_at_call 79;(with_reducible refine (HI.out _ _ _ _ _ _ HSZ.out HA.out HB.out).mono ?_);rintro e w1 ⟨rfl,hb⟩
         have HW:=Za hb;clear hb))
 all_goals go_ret
 all_goals first
  | exact⟨retb HE.out.symm,Zv (Zv (Below.refl _ _) _) _⟩
  | exact⟨retb HE.out.symm,(Zv (Zv (Below.refl _ _) _) _).trans (HW.out.mono (by simp;omega))⟩
theorem ex_cells {w:World} {A:Option Addr} {n c:Nat} {l:List Ex} (h:Vw kEx w (.slice A n c) l) (i:Nat) (x:Ex) (hx:l[i]?=some x) :
    ∃ ad K ck,A=some ad∧Vw kEx w (.slice K x.kids.length ck) x.kids∧w.cell? (ad.add (i*5))=some (.int .i64 x.kind)∧w.cell? ⟨(ad.add (i*5)).block,(ad.add (i*5)).off+1,none⟩=some (.int .i64 x.n)∧w.cell? ⟨(ad.add (i*5)).block,(ad.add (i*5)).off+2,none⟩=some (.string x.s)∧w.cell? ⟨(ad.add (i*5)).block,(ad.add (i*5)).off+3,none⟩=some (.slice K x.kids.length ck)∧w.cell? ⟨(ad.add (i*5)).block,(ad.add (i*5)).off+4,none⟩=some (.int .i64 x.at_):=by
 obtain⟨ad,cs,hA,hK,hcell0⟩:=h.at_ i x hx;have hcell:∀ j u,cs[j]?=some u→w.cell? (ad.add (i*5+j))=some u:=hcell0;obtain⟨K,ck,rfl,hl,hC⟩:=kEx_open hK;exact⟨ad,K,ck,hA,⟨K,ck,rfl,hl,hC⟩,hcell 0 _ rfl,by rw[← ZN _ _ 1 (by omega)];exact hcell 1 _ rfl,by rw[← ZN _ _ 2 (by omega)];exact hcell 2 _ rfl,by rw[← ZN _ _ 3 (by omega)];exact hcell 3 _ rfl,by rw[← ZN _ _ 4 (by omega)];exact hcell 4 _ rfl⟩
theorem mem_size {l:List Ex} {i:Nat} {x:Ex} (h:l[i]?=some x):SizeOf.sizeOf x<SizeOf.sizeOf l:=List.sizeOf_lt_of_mem (List.mem_of_getElem? h)
theorem exs_step (N:Nat) (ih:PEx N):PExs (N+1):=by
 intro w l m vl vm pl hsz hl hm;obtain⟨A,c,rfl⟩:=hl.slice;obtain⟨A',c',rfl⟩:=hm.slice;by_cases hn:l.length=m.length
 · have HI:=Za ih;unfold PEx at HI;have HSZ:=Za hsz;have HA:=Za hl;have HB:=Za hm;have HM:=Za hl.max;have HN:=Za hn;rw[← hn] at HB ⊢;obtain⟨n,hn1⟩:∃ n,l.length=n:=⟨_,rfl⟩;rw[hn1] at HA HB HM ⊢;have HN1:=Za hn1;have HN2:Hid (m.length=n):=Za (by rw[← hn,hn1]);clear ih hsz hl hm hn hn1;go_enter Try.func79,Try.ntmps79;go_wp2;go_loopg [7] (n+1) (fun g v4 wr=>∃ i:Nat,v4=.int .i64 (i:Int)∧Hid (i≤n∧Below w.heap.size w wr∧n - i<g∧sameEs pl l m=sameEs pl (l.drop i) (m.drop i)))
   case atStart=>exact⟨0,rfl,Za ⟨Nat.zero_le _,Below.refl _ _,by omega,rfl⟩⟩
   case round=>
    obtain⟨i,rfl,HI2⟩:=hrel;by_cases hi:i<n
    · have hib:decide (i<n)=true:=Zl hi;obtain⟨x,hx⟩:∃ t,l[i]?=some t:=⟨l[i]'(by rw[HN1.out];exact hi),by simp⟩;obtain⟨y,hy⟩:∃ t,m[i]?=some t:=⟨m[i]'(by rw[HN2.out];exact hi),by simp⟩;obtain⟨d1,K1,k1,rfl,hV1,a0,a1,a2,a3,a4⟩:=ex_cells (HA.out.below HI2.out.2.1) i x hx;obtain⟨d2,K2,k2,rfl,hV2,b0,b1,b2,b3,b4⟩:=ex_cells (HB.out.below HI2.out.2.1) i y hy;have HV1:=Za (hV1.below (Below.refl _ _).drew);have HV2:=Za (hV2.below (Below.refl _ _).drew);have HSX:Hid (SizeOf.sizeOf x≤N):=Za (by have:=mem_size hx;have:=HSZ.out;omega);have HD:=Za (sameEs_drop pl l m i x y hx hy);clear hV1 hV2 hx hy;have hi0:(0:Int)≤(i:Int):=(by omega);have hi1:(i:Int)<(n:Int):=(by omega);cases hE:sameE pl x y
      · have HE:=Za hE;clear hE;go_wp2
        go_region_with
         (first
         | (go_at_call 62;(with_reducible refine (HI.out _ _ _ _ _ _ HSX.out HV1.out HV2.out).mono ?_);rintro e w1 ⟨rfl,hb⟩
            rw[HE.out];have HW:=Za ((Below.refl _ _).drew.trans hb);clear hb))
        (all_goals go_wp2);(all_goals go_ret);all_goals exact⟨retb (by rw[HI2.out.2.2.2,HD.out,HE.out];rfl),HI2.out.2.1.trans (HW.out.mono HI2.out.2.1.size)⟩
      · have HE:=Za hE;clear hE;go_wp2
        go_region_with
         (first
         | (go_at_call 62;(with_reducible refine (HI.out _ _ _ _ _ _ HSX.out HV1.out HV2.out).mono ?_);rintro e w1 ⟨rfl,hb⟩
            rw[HE.out];have HW:=Za ((Below.refl _ _).drew.trans hb);clear hb))
        (all_goals go_wp2);all_goals go_roundg (n - i)
        all_goals first
         | (have:=HI2.out.2.2.1;omega)
         | exact⟨i+1,by rw[wrap_up i (Ze hi HM.out)],Za ⟨hi,HI2.out.2.1.trans (HW.out.mono HI2.out.2.1.size),by omega,by rw[HI2.out.2.2.2,HD.out,HE.out];rfl⟩⟩
    · have hib:decide (i<n)=false:=Zm hi;go_wp2;go_ret;exact⟨retb (by rw[HI2.out.2.2.2];exact (sameEs_end pl l m i (by rw[HN1.out];omega) (by rw[HN2.out];omega)).symm),HI2.out.2.1⟩
 · have hnb:((l.length:Int)==(m.length:Int))=false:=(by simp;omega);have hnc:(l.length==m.length)=false:=(by simpa using hn);have HE:=Za (sameEs_len pl l m hn);clear ih hsz hl hm;go_enter Try.func79,Try.ntmps79;go_wp2;go_ret;exact⟨retb HE.out.symm,Below.refl _ _⟩
theorem same_both:∀ N,PEx N∧PExs N:=by
 intro N;induction N with
 | zero=>
   refine⟨?_,?_⟩
   · intro w a b va vb pl h;exfalso;cases a;simp at h
   · intro w l m vl vm pl h;exfalso;cases l <;> simp at h
 | succ N ih=>exact⟨ex_step N ih.2,exs_step N ih.1⟩
theorem sameExprs_any (w:World) (l m:List Ex) (vl vm:Value) (pl:Bool) (h1:Vw kEx w vl l) (h2:Vw kEx w vm m):Calls Try.prog 79 #[vl,vm,.bool pl] w fun e w'=>e=.returned (.bool (sameEs pl l m))∧Below w.heap.size w w':=(same_both _).2 w l m vl vm pl (Zc _) h1 h2
theorem sameExpr_any (w:World) (a b:Ex) (va vb:Value) (pl:Bool) (h1:Vw kEx w va a.kids) (h2:Vw kEx w vb b.kids):Calls Try.prog 62 #[.agg #[.int .i64 a.kind,.int .i64 a.n,.string a.s,va,.int .i64 a.at_],.agg #[.int .i64 b.kind,.int .i64 b.n,.string b.s,vb,.int .i64 b.at_],.bool pl] w fun e w'=>e=.returned (.bool (sameE pl a b))∧Below w.heap.size w w':=(same_both _).1 w a b va vb pl (Zc _) h1 h2
end RefSame
end Go.Proofs.Ytddmceldglelkaa
