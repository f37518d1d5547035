/- A claim's texts, in the order of what they need: RefComp. -/
import Derived.Test.YtddmceldglelkaaBCompApart21
import Derived.Deep.LoopGhost
import Derived.Deep.RegionLaw
set_option maxRecDepth 100000
set_option maxHeartbeats 8000000
set_option linter.unusedVariables false
set_option linter.unusedSimpArgs false
set_option linter.unusedSectionVars false
namespace Go.Proofs.Ytddmceldglelkaa.RefComp
open Go Go.RowKit RefPure RefKinds RefMem RefTake RefSmall RefFields RefExprs RefExpr RefOne RefCells YtddmceldglelkaaW.PrintWords
open LexPure (T lex)
attribute [local go_sem] fld0 fld1 fld2 fld3
open RefProgS
section
variable (ts:List T)
theorem basesL_stop {k:Nat} {l:List ByteArray} {s:St} (h:(may ts [44] s).1=false):basesL ts (k+1) l s=some (l,(may ts [44] s).2):=by
 rw[basesL,if_neg (by simp[h])]
theorem basesL_go {k:Nat} {l:List ByteArray} {s:St} (h:(may ts [44] s).1=true):basesL ts (k+1) l s=basesL ts k (l++[(name ts (may ts [44] s).2).1]) (name ts (may ts [44] s).2).2:=by
 rw[basesL,if_pos h]
def SRel (w:World) (g:Nat) (v:Value) (ts:List T) (X k:Nat) (r:List ByteArray×St) (nm:ByteArray) (at_:Int) (kq:Nat) (wr:World):Prop:=
 ∃ l s p c,basesL ts kq l s=some r∧Kd.string.R 9 wr (X+1) (fun b=>X+1≤b) (.slice p l.length c) l∧RS wr g v ts s∧w.grownBy wr (some g)∧Blk wr w.heap.size 42 #[.string ⟨#[]⟩,.slice none 0 0,.slice none 0 0,.slice none 0 0,.slice none 0 0,.slice none 0 0,.slice none 0 0,.int .i64 0]∧Blk wr X 42 #[.string nm,.slice p l.length c,.slice none 0 0,.slice none 0 0,.slice none 0 0,.slice none 0 0,.slice none 0 0,.int .i64 at_]∧X+1≤wr.heap.size∧l.length+kq≤k+1
theorem comp_none (k:Nat) (hk:k≤549755813888) (ih:PProg ts k) (at_:Int) (w:World) (g:Nat) (v:Value) (st:St) (r:CompT×St) (h:RS w g v ts st) (hy:(may ts [58] (word ts st).2).1=false) (q:ProgT×St) (hq:prog ts k prog0 (must ts [123] (may ts [58] (word ts st).2).2)=some q) (hr:r=(⟨(word ts st).1,[],q.1,at_⟩,must ts [125] q.2)):Calls Try.prog 48 #[.pointer (some ⟨g,0,none⟩),.int .i64 at_] w (CompPost w g v ts r):=by
 have H0:=Lib.hid h
 have G0:=Lib.hid (grown_refl w g)
 have hg:=h.blk.lt
 have HX:=Lib.hid (fun X (hX:w.heap.size≤X)=>h.elder hX)
 have HP:=Lib.hid ih
 unfold PProg at HP
 have HQ:Hid (prog ts k prog0 (must ts (ByteArray.mk #[123]).data.toList (may ts (ByteArray.mk #[58]).data.toList (word ts st).2).2)=some q):=Lib.hid hq
 have hm:(may ts (ByteArray.mk #[58]).data.toList (word ts st).2).1=false:=hy
 subst hr
 clear h hy hq ih hk
 go_enter Try.func48,Try.ntmps48
 go_wp2_with (first
       | (go_at_call 49;(with_reducible refine (word_any _ _ _ _ _ (H0.out.alloc _)).mono ?_);rintro e w1 ⟨rfl,hr,hb⟩
          obtain⟨H1,G1,hrl_1⟩:=st_goA (.cells #[.string (word ts st).1,.slice none 0 0,.slice none 0 0,.slice none 0 0,.slice none 0 0,.slice none 0 0,.slice none 0 0,.int .i64 at_] 42) hr (grown_alloc G0.out _) hb
          obtain⟨HBx_1,qcx,qfx,hltx_1⟩:=s8_goA (.cells #[.string (word ts st).1,.slice none 0 0,.slice none 0 0,.slice none 0 0,.slice none 0 0,.slice none 0 0,.slice none 0 0,.int .i64 at_] 42) (Lib.hid (Blk.new w 42 #[.string ⟨#[]⟩,.slice none 0 0,.slice none 0 0,.slice none 0 0,.slice none 0 0,.slice none 0 0,.slice none 0 0,.int .i64 0])) hb (by omega)
          have HBy_1:=Lib.hid (Blk.new w1 42 #[.string (word ts st).1,.slice none 0 0,.slice none 0 0,.slice none 0 0,.slice none 0 0,.slice none 0 0,.slice none 0 0,.int .i64 at_])
          clear hr hb H0 G0 )
       | (go_at_call 43;(with_reducible refine (may_any _ _ _ _ _ _ H1.out).mono ?_);rintro e w2 ⟨rfl,hr,hb⟩
          obtain⟨H2,G2,hrl_2⟩:=st_go hr G1.out hb
          obtain⟨HBx_2,qcx,qfx,hltx_2⟩:=s8_go HBx_1 hb (by omega)
          obtain⟨HBy_2,qcy,qfy,hlty_2⟩:=s8_go HBy_1 hb (by omega)
          have HB_0:Hid (Kd.string.R 9 w2 (w1.heap.size+1) (fun b=>w1.heap.size+1≤b) (.slice none 0 0) []):=Lib.hid (Kd.R_nil _ _ _ _ _)
          clear hr hb H1 G1 HBx_1 HBy_1)
       | (go_at_call 50;(with_reducible refine (must_any _ _ _ _ _ _ H2.out).mono ?_);rintro e w3 ⟨rfl,hr,hb⟩
          obtain⟨H3,G3,hrl_3⟩:=st_go hr G2.out hb
          obtain⟨HBx_3,qcx,qfx,hltx_3⟩:=s8_go HBx_2 hb (by omega)
          obtain⟨HBy_3,qcy,qfy,hlty_3⟩:=s8_go HBy_2 hb (by omega)
          have HB_3:=Lib.hid (Kd.R_grown HB_0.out hb (fun b hb e=>by injection e with e;omega))
          clear hr hb H2 G2 HBx_2 HBy_2)
       | (go_at_call 14;(with_reducible refine (HP.out _ _ _ _ _ H3.out HQ.out).mono ?_);rintro e w4 ⟨vT,vD,vC,vI,vL,rfl,hR,hr,hb⟩
          have hrw:=Rows.lower hR (show w3.heap.size≤w3.heap.size from Nat.le_refl _)
          obtain⟨pT,cT,rfl⟩:=Kd.R_slice hrw.t
          obtain⟨pD,cD,rfl⟩:=Kd.R_slice hrw.d
          obtain⟨pC,cC,rfl⟩:=Kd.R_slice hrw.c
          obtain⟨pI,cI,rfl⟩:=Kd.R_slice hrw.i
          obtain⟨pL,cL,rfl⟩:=Kd.R_slice hrw.l
          have HRW:=Lib.hid hrw
          have hyw:w1.heap.size<w3.heap.size:=hlty_3
          clear hR hrw
          obtain⟨H4,G4,hrl_4⟩:=st_go hr G3.out hb
          obtain⟨HBx_4,qcx,qfx,hltx_4⟩:=s8_go HBx_3 hb (by omega)
          obtain⟨HBy_4,qcy,qfy,hlty_4⟩:=s8_go HBy_3 hb (by omega)
          have HB_4:=Lib.hid (Kd.R_grown HB_3.out hb (fun b hb e=>by injection e with e;omega))
          clear hr hb H3 G3 HBx_3 HBy_3)
       | (go_at_call 50;(with_reducible refine (must_any _ _ _ _ _ _ (RS.other (RS.other (RS.other (RS.other (RS.other H4.out (HX.out _ (Nat.le_of_lt hltx_1)) 2 (.slice pT q.1.types.length cT)) (HX.out _ (Nat.le_of_lt hltx_1)) 3 (.slice pD q.1.decls.length cD)) (HX.out _ (Nat.le_of_lt hltx_1)) 4 (.slice pC q.1.comps.length cC)) (HX.out _ (Nat.le_of_lt hltx_1)) 5 (.slice pI q.1.inits.length cI)) (HX.out _ (Nat.le_of_lt hltx_1)) 6 (.slice pL q.1.clauses.length cL))).mono ?_);rintro e w5 ⟨rfl,hr,hb⟩
          obtain⟨H5,G5,hrl_5⟩:=st_go hr ((grown_new (grown_new (grown_new (grown_new (grown_new G4.out (Nat.le_of_lt hltx_1) 2 (.slice pT q.1.types.length cT)) (Nat.le_of_lt hltx_1) 3 (.slice pD q.1.decls.length cD)) (Nat.le_of_lt hltx_1) 4 (.slice pC q.1.comps.length cC)) (Nat.le_of_lt hltx_1) 5 (.slice pI q.1.inits.length cI)) (Nat.le_of_lt hltx_1) 6 (.slice pL q.1.clauses.length cL))) hb
          obtain⟨HBx_5,qcx,qfx,hltx_5⟩:=s8_go (Lib.hid ((((((HBx_4.out.far (p:=⟨w1.heap.size,2,none⟩) (Nat.ne_of_lt hltx_1) (.slice pT q.1.types.length cT)).far (p:=⟨w1.heap.size,3,none⟩) (Nat.ne_of_lt hltx_1) (.slice pD q.1.decls.length cD)).far (p:=⟨w1.heap.size,4,none⟩) (Nat.ne_of_lt hltx_1) (.slice pC q.1.comps.length cC)).far (p:=⟨w1.heap.size,5,none⟩) (Nat.ne_of_lt hltx_1) (.slice pI q.1.inits.length cI)).far (p:=⟨w1.heap.size,6,none⟩) (Nat.ne_of_lt hltx_1) (.slice pL q.1.clauses.length cL)))) hb (by omega)
          obtain⟨HBy_5,qcy,qfy,hlty_5⟩:=s8_go (Lib.hid (show Blk _ (w1.heap.size) 42 #[.string (word ts st).1,.slice none 0 0,.slice pT q.1.types.length cT,.slice pD q.1.decls.length cD,.slice pC q.1.comps.length cC,.slice pI q.1.inits.length cI,.slice pL q.1.clauses.length cL,.int .i64 at_] from (((((HBy_4.out.set_ 2 (.slice pT q.1.types.length cT)).set_ 3 (.slice pD q.1.decls.length cD)).set_ 4 (.slice pC q.1.comps.length cC)).set_ 5 (.slice pI q.1.inits.length cI)).set_ 6 (.slice pL q.1.clauses.length cL)))) hb (by omega)
          have HRW2:=Lib.hid (Rows.grown (Rows.far (Rows.far (Rows.far (Rows.far (Rows.far HRW.out hyw 2 (.slice pT q.1.types.length cT)) hyw 3 (.slice pD q.1.decls.length cD)) hyw 4 (.slice pC q.1.comps.length cC)) hyw 5 (.slice pI q.1.inits.length cI)) hyw 6 (.slice pL q.1.clauses.length cL)) (Nat.lt_trans (Nat.lt_trans hg hltx_1) hyw) hb)
          have HB_5:=Lib.hid (Kd.R_grown (Kd.R_far (Kd.R_far (Kd.R_far (Kd.R_far (Kd.R_far HB_4.out (p:=⟨w1.heap.size,2,none⟩) (fun b hb e=>by have e2:b=w1.heap.size:=e;omega) (.slice pT q.1.types.length cT)) (p:=⟨w1.heap.size,3,none⟩) (fun b hb e=>by have e2:b=w1.heap.size:=e;omega) (.slice pD q.1.decls.length cD)) (p:=⟨w1.heap.size,4,none⟩) (fun b hb e=>by have e2:b=w1.heap.size:=e;omega) (.slice pC q.1.comps.length cC)) (p:=⟨w1.heap.size,5,none⟩) (fun b hb e=>by have e2:b=w1.heap.size:=e;omega) (.slice pI q.1.inits.length cI)) (p:=⟨w1.heap.size,6,none⟩) (fun b hb e=>by have e2:b=w1.heap.size:=e;omega) (.slice pL q.1.clauses.length cL)) hb (fun b hb e=>by injection e with e;omega))
          clear hr hb H4 G4 HBx_4 HBy_4))
 refine bodyPost_ret (results_cell_row rfl _ _ w.heap.size 42 #[.string (word ts st).1,.slice none 0 0,.slice pT q.1.types.length cT,.slice pD q.1.decls.length cD,.slice pC q.1.comps.length cC,.slice pI q.1.inits.length cI,.slice pL q.1.clauses.length cL,.int .i64 at_] (0,0) _ rfl ?_ Try.underlying42 rfl (by kernel_rfl)) rfl ?_
 · exact s8_blk HBx_5.out
 · refine⟨.slice none 0 0,.slice pT q.1.types.length cT,.slice pD q.1.decls.length cD,.slice pC q.1.comps.length cC,.slice pI q.1.inits.length cI,.slice pL q.1.clauses.length cL,rfl,?_,?_,?_,?_⟩
   · exact Kd.R_mono (Kd.R_lower (s8_R HB_5.out (fun b hb=>by omega)) (by omega)) (fun b hb=>by omega)
   · exact Rows.lower (Rows.far (Rows.far (Rows.far (Rows.far (Rows.far (Rows.far (Rows.far (Rows.far HRW2.out (show w.heap.size<w3.heap.size by omega) 0 _) (show w.heap.size<w3.heap.size by omega) 1 _) (show w.heap.size<w3.heap.size by omega) 2 _) (show w.heap.size<w3.heap.size by omega) 3 _) (show w.heap.size<w3.heap.size by omega) 4 _) (show w.heap.size<w3.heap.size by omega) 5 _) (show w.heap.size<w3.heap.size by omega) 6 _) (show w.heap.size<w3.heap.size by omega) 7 _) (by omega)
   · exact s8_RS H5.out (HX.out _ (Nat.le_refl _))
   · exact s8_gr G5.out (Nat.le_refl _)
theorem comp_some (k:Nat) (hk:k≤549755813888) (ih:PProg ts k) (at_:Int) (w:World) (g:Nat) (v:Value) (st:St) (r:CompT×St) (h:RS w g v ts st) (hy:(may ts [58] (word ts st).2).1=true) (b:List ByteArray×St) (hb:basesL ts k [(name ts (may ts [58] (word ts st).2).2).1] (name ts (may ts [58] (word ts st).2).2).2=some b) (q:ProgT×St) (hq:prog ts k prog0 (must ts [123] b.2)=some q) (hr:r=(⟨(word ts st).1,b.1,q.1,at_⟩,must ts [125] q.2)):Calls Try.prog 48 #[.pointer (some ⟨g,0,none⟩),.int .i64 at_] w (CompPost w g v ts r):=by
 have H0:=Lib.hid h
 have G0:=Lib.hid (grown_refl w g)
 have hg:=h.blk.lt
 have HX:=Lib.hid (fun X (hX:w.heap.size≤X)=>h.elder hX)
 have HP:=Lib.hid ih
 unfold PProg at HP
 have HQ:Hid (prog ts k prog0 (must ts (ByteArray.mk #[123]).data.toList b.2)=some q):=Lib.hid hq
 have hm:(may ts (ByteArray.mk #[58]).data.toList (word ts st).2).1=true:=hy
 have HL1:Hid (basesL ts k ([]++[(name ts (may ts (ByteArray.mk #[58]).data.toList (word ts st).2).2).1]) (name ts (may ts (ByteArray.mk #[58]).data.toList (word ts st).2).2).2=some b):=Lib.hid hb
 have HK:=Lib.hid hk
 subst hr
 clear h hy hq ih hb hk
 go_enter Try.func48,Try.ntmps48
 go_wp2_with (first
       | (go_at_call 49;(with_reducible refine (word_any _ _ _ _ _ (H0.out.alloc _)).mono ?_);rintro e w1 ⟨rfl,hr,hb⟩
          obtain⟨H1,G1,hrl_1⟩:=st_goA (.cells #[.string (word ts st).1,.slice none 0 0,.slice none 0 0,.slice none 0 0,.slice none 0 0,.slice none 0 0,.slice none 0 0,.int .i64 at_] 42) hr (grown_alloc G0.out _) hb
          obtain⟨HBx_1,qcx,qfx,hltx_1⟩:=s8_goA (.cells #[.string (word ts st).1,.slice none 0 0,.slice none 0 0,.slice none 0 0,.slice none 0 0,.slice none 0 0,.slice none 0 0,.int .i64 at_] 42) (Lib.hid (Blk.new w 42 #[.string ⟨#[]⟩,.slice none 0 0,.slice none 0 0,.slice none 0 0,.slice none 0 0,.slice none 0 0,.slice none 0 0,.int .i64 0])) hb (by omega)
          have HBy_1:=Lib.hid (Blk.new w1 42 #[.string (word ts st).1,.slice none 0 0,.slice none 0 0,.slice none 0 0,.slice none 0 0,.slice none 0 0,.slice none 0 0,.int .i64 at_])
          clear hr hb H0 G0 )
       | (go_at_call 43;(with_reducible refine (may_any _ _ _ _ _ _ H1.out).mono ?_);rintro e w2 ⟨rfl,hr,hb⟩
          obtain⟨H2,G2,hrl_2⟩:=st_go hr G1.out hb
          obtain⟨HBx_2,qcx,qfx,hltx_2⟩:=s8_go HBx_1 hb (by omega)
          obtain⟨HBy_2,qcy,qfy,hlty_2⟩:=s8_go HBy_1 hb (by omega)
          clear hr hb H1 G1 HBx_1 HBy_1))
 have hd:Below w2.heap.size w2 w2.drew:=(Below.refl _ _).drew
 have H3:=Lib.hid (H2.out.below hd)
 have G3:=Lib.hid (grown_then G2.out (grown_below hd g))
 have HBx_3:=Lib.hid HBx_2.out.drew
 have HBy_3:=Lib.hid HBy_2.out.drew
 have hsz3:w2.drew.heap.size=w2.heap.size:=rfl
 clear hd H2 G2 HBx_2 HBy_2
 go_region_law (first
       | (refine Kd.R_append_step Kd.string (w1.heap.size+1) (by rfl) (.tmp 13) (.tmp 16) 40 9 (.string ⟨#[]⟩) 16 rfl Try.underlying40 infoStr rfl (by decide) (by decide) (.slice none 0 0) [] (name ts (may ts (ByteArray.mk #[58]).data.toList (word ts st).2).2).1 [.string (name ts (may ts (ByteArray.mk #[58]).data.toList (word ts st).2).2).1] (fun b=>(w1.heap.size+1)≤b) (fun b=>w4.heap.size≤b) ?a1 ?a2 rfl (fun k hk=>⟨by omega,by simp[Value.ownBlock]⟩) ?aF ?aO (Below.refl _ _) ?aS ?aL ?_
          (try (case a1=>rfl))
          (try (case a2=>rfl))
          (case aF=>exact fun X hX=>by omega)
          (case aO=>exact Kd.R_nil _ _ _ _ _)
          (case aS=>omega)
          (case aL=>(simp))
          intro v1 wn ho hb hgr hat
          obtain⟨p9,c9,rfl⟩:=Kd.R_slice ho
          have HO2:=Lib.hid ho
          have hOW:∀ X,(Value.ownBlock (.slice none 0 0))=some X→w1.heap.size+1≤X:=fun X hX=>by simp[Value.ownBlock] at hX
          have hBx:=HBx_4.out.grown hgr (fun e=>by have:=hOW _ e.symm;omega)
          have hBy:=HBy_4.out.grown hgr (fun e=>by have:=hOW _ e.symm;omega)
          have HBx_n:=Lib.hid hBx
          have HBy_n:=Lib.hid hBy
          have HS2:=Lib.hid (RS.row_ H4.out hgr (fun X hX=>HX.out X (by have:=hOW X hX;omega)))
          have HG2:=Lib.hid (grown_row G4.out hgr (fun X hX=>by have:=hOW X hX;omega))
          have qcx:=s8_cells hBx
          have qfx:=s8_frozen hBx
          have qcy:=s8_cells hBy
          have qfy:=s8_frozen hBy
          have hltx_n:w.heap.size<wn.heap.size:=hBx.lt
          have hlty_n:w1.heap.size<wn.heap.size:=hBy.lt
          clear ho hb hgr hat hBx hBy hOW G4 H4 HBx_4 HBy_4)
       | (go_simp;go_wp2_with (first
             | (go_at_call 51;(with_reducible refine (name_any _ _ _ _ _ H3.out).mono ?_);rintro e w4 ⟨rfl,hr,hb⟩
                obtain⟨H4,G4,hrl_4⟩:=st_go hr G3.out hb
                obtain⟨HBx_4,qcx,qfx,hltx_4⟩:=s8_go HBx_3 hb (by omega)
                obtain⟨HBy_4,qcy,qfy,hlty_4⟩:=s8_go HBy_3 hb (by omega)
                clear hr hb H3 G3 HBx_3 HBy_3))))
 all_goals
  have hxy:w.heap.size<w1.heap.size:=hltx_1
  (try go_wp2)
  go_loopg [] k (fun kq wr=>Hid (SRel w g v ts w1.heap.size k b (word ts st).1 at_ kq wr))
 all_goals first
  | exact Lib.hid ⟨_,_,p9,c9,HL1.out,Kd.R_far HO2.out (p:=⟨w1.heap.size,1,none⟩) (fun b hb e=>by have e2:b=w1.heap.size:=e;omega) _,RS.other HS2.out (HX.out _ (Nat.le_of_lt hxy)) 1 _,grown_new HG2.out (Nat.le_of_lt hxy) 1 _,HBx_n.out.far (p:=⟨w1.heap.size,1,none⟩) (Nat.ne_of_lt hxy) _,by exact HBy_n.out.set_ 1 _,by rw[set_size];exact hlty_n,by have:=HK.out;simp;omega⟩
  | skip
 all_goals
  obtain⟨l,s,p7,c7,hL,hO,hS,hG,hA,hB,hn0,hlk⟩:=hrel.out
  clear HS2 HG2 HO2 HBx_n HBy_n HL1
  cases gk with
  | zero=>exact absurd hL (by simp[basesL])
  | succ k1=>
  have H10:=Lib.hid hS
  have HG:=Lib.hid hG
  have G10:=Lib.hid (grown_refl wr g)
  have HO:=Lib.hid hO
  have HOW:Hid (∀ X,(Value.slice p7 l.length c7).ownBlock=some X→w1.heap.size+1≤X):=Lib.hid (fun X hX=>hO.1 X hX)
  have HLK:=Lib.hid hlk
  have hg0:=hS.blk.lt
  have HN0:=Lib.hid hn0
  have hgN:g<w1.heap.size+1:=by omega
  have HBx_10:=Lib.hid hA
  have HBy_10:=Lib.hid hB
  have hltx_10:w.heap.size<wr.heap.size:=hA.lt
  have hlty_10:w1.heap.size<wr.heap.size:=hB.lt
  have qcx:=s8_cells hA
  have qfx:=s8_frozen hA
  have qcy:=s8_cells hB
  have qfy:=s8_frozen hB
  clear hrel hO hS hG hA hB hlk
  by_cases hs:(may ts [44] s).1=true
  · have hs3:(may ts (ByteArray.mk #[44]).data.toList s).1=true:=hs
    rw[basesL_go ts hs] at hL
    have HL1:Hid (basesL ts k1 (l++[(name ts (may ts (ByteArray.mk #[44]).data.toList s).2).1]) (name ts (may ts (ByteArray.mk #[44]).data.toList s).2).2=some b):=Lib.hid hL
    clear hL hs
    go_wp2_with (first
          | (go_at_call 43;(with_reducible refine (may_any _ _ _ _ _ _ H10.out).mono ?_);rintro e w11 ⟨rfl,hr,hb⟩
             obtain⟨H11,G11,hrl_11⟩:=st_go hr G10.out hb
             obtain⟨HBx_11,qcx,qfx,hltx_11⟩:=s8_go HBx_10 hb (by omega)
             obtain⟨HBy_11,qcy,qfy,hlty_11⟩:=s8_go HBy_10 hb (by omega)
             clear hr hb H10 G10 HBx_10 HBy_10))
    have hd:Below w11.heap.size w11 w11.drew:=(Below.refl _ _).drew
    have H12:=Lib.hid (H11.out.below hd)
    have G12:=Lib.hid (grown_then G11.out (grown_below hd g))
    have HBx_12:=Lib.hid HBx_11.out.drew
    have HBy_12:=Lib.hid HBy_11.out.drew
    have hsz12:w11.drew.heap.size=w11.heap.size:=rfl
    clear hd H11 G11 HBx_11 HBy_11
    go_region_law (first
          | (refine Kd.R_append_step Kd.string (w1.heap.size+1) (by rfl) (.tmp 22) (.tmp 25) 40 9 (.string ⟨#[]⟩) 16 rfl Try.underlying40 infoStr rfl (by decide) (by decide) (.slice p7 l.length c7) l (name ts (may ts (ByteArray.mk #[44]).data.toList s).2).1 [.string (name ts (may ts (ByteArray.mk #[44]).data.toList s).2).1] (fun b=>(w1.heap.size+1)≤b) (fun b=>w13.heap.size≤b) ?a1 ?a2 rfl (row_new HO.out HN0.out G13.out.size) ?aF ?aO (Below.refl _ _) ?aS ?aL ?_
             (try (case a1=>rfl))
             (try (case a2=>rfl))
             (case aF=>exact fun X hX=>by omega)
             (case aO=>exact R_kept HO.out hgN G13.out)
             (case aS=>omega)
             (case aL=>(have:=HLK.out;have:=HK.out;omega))
             intro v1 wn ho hb hgr hat
             obtain⟨p9,c9,rfl⟩:=Kd.R_slice ho
             have HO2:=Lib.hid ho
             have hOW:∀ X,(Value.ownBlock (.slice p7 l.length c7))=some X→w1.heap.size+1≤X:=HOW.out
             have hBx:=HBx_13.out.grown hgr (fun e=>by have:=hOW _ e.symm;omega)
             have hBy:=HBy_13.out.grown hgr (fun e=>by have:=hOW _ e.symm;omega)
             have HBx_n:=Lib.hid hBx
             have HBy_n:=Lib.hid hBy
             have HS2:=Lib.hid (RS.row_ H13.out hgr (fun X hX=>HX.out X (by have:=hOW X hX;omega)))
             have HG2:=Lib.hid (grown_row (grown_then HG.out G13.out) hgr (fun X hX=>by have:=hOW X hX;omega))
             have qcx:=s8_cells hBx
             have qfx:=s8_frozen hBx
             have qcy:=s8_cells hBy
             have qfy:=s8_frozen hBy
             have hltx_n:w.heap.size<wn.heap.size:=hBx.lt
             have hlty_n:w1.heap.size<wn.heap.size:=hBy.lt
             clear ho hb hgr hat hBx hBy hOW G13 H13 HBx_13 HBy_13)
          | (go_simp;go_wp2_with (first
                | (go_at_call 51;(with_reducible refine (name_any _ _ _ _ _ H12.out).mono ?_);rintro e w13 ⟨rfl,hr,hb⟩
                   obtain⟨H13,G13,hrl_13⟩:=st_go hr G12.out hb
                   obtain⟨HBx_13,qcx,qfx,hltx_13⟩:=s8_go HBx_12 hb (by omega)
                   obtain⟨HBy_13,qcy,qfy,hlty_13⟩:=s8_go HBy_12 hb (by omega)
                   clear hr hb H12 G12 HBx_12 HBy_12))))
    all_goals go_wp2
    all_goals go_roundg k1
    all_goals first
     | omega
     | exact Lib.hid ⟨_,_,p9,c9,HL1.out,Kd.R_far HO2.out (p:=⟨w1.heap.size,1,none⟩) (fun b hb e=>by have e2:b=w1.heap.size:=e;omega) _,RS.other HS2.out (HX.out _ (Nat.le_of_lt hxy)) 1 _,grown_new HG2.out (Nat.le_of_lt hxy) 1 _,HBx_n.out.far (p:=⟨w1.heap.size,1,none⟩) (Nat.ne_of_lt hxy) _,by rw[List.length_append];exact HBy_n.out.set_ 1 _,by rw[set_size];exact hlty_n,by have:=HLK.out;rw[List.length_append];simp only[List.length_cons,List.length_nil];omega⟩
  · have hs2:(may ts [44] s).1=false:=by simpa using hs
    have hs3:(may ts (ByteArray.mk #[44]).data.toList s).1=false:=hs2
    rw[basesL_stop ts hs2] at hL
    injection hL with hL
    subst hL
    clear HLK hs hs2
    go_wp2_with (first
          | (go_at_call 43;(with_reducible refine (may_any _ _ _ _ _ _ H10.out).mono ?_);rintro e w11 ⟨rfl,hr,hb⟩
             obtain⟨H11,G11,hrl_11⟩:=st_go hr G10.out hb
             obtain⟨HBx_11,qcx,qfx,hltx_11⟩:=s8_go HBx_10 hb (by omega)
             obtain⟨HBy_11,qcy,qfy,hlty_11⟩:=s8_go HBy_10 hb (by omega)
             have HB_11:=Lib.hid (Kd.R_grown HO.out hb (fun b hb e=>by injection e with e;omega))
             have G11:=Lib.hid (grown_then HG.out G11.out)
             clear hr hb H10 G10 HBx_10 HBy_10)
          | (go_at_call 50;(with_reducible refine (must_any _ _ _ _ _ _ H11.out).mono ?_);rintro e w12 ⟨rfl,hr,hb⟩
             obtain⟨H12,G12,hrl_12⟩:=st_go hr G11.out hb
             obtain⟨HBx_12,qcx,qfx,hltx_12⟩:=s8_go HBx_11 hb (by omega)
             obtain⟨HBy_12,qcy,qfy,hlty_12⟩:=s8_go HBy_11 hb (by omega)
             have HB_12:=Lib.hid (Kd.R_grown HB_11.out hb (fun b hb e=>by injection e with e;omega))
             clear hr hb H11 G11 HBx_11 HBy_11)
          | (go_at_call 14;(with_reducible refine (HP.out _ _ _ _ _ H12.out HQ.out).mono ?_);rintro e w13 ⟨vT,vD,vC,vI,vL,rfl,hR,hr,hb⟩
             have hrw:=Rows.lower hR (show w12.heap.size≤w12.heap.size from Nat.le_refl _)
             obtain⟨pT,cT,rfl⟩:=Kd.R_slice hrw.t
             obtain⟨pD,cD,rfl⟩:=Kd.R_slice hrw.d
             obtain⟨pC,cC,rfl⟩:=Kd.R_slice hrw.c
             obtain⟨pI,cI,rfl⟩:=Kd.R_slice hrw.i
             obtain⟨pL,cL,rfl⟩:=Kd.R_slice hrw.l
             have HRW:=Lib.hid hrw
             have hyw:w1.heap.size<w12.heap.size:=hlty_12
             clear hR hrw
             obtain⟨H13,G13,hrl_13⟩:=st_go hr G12.out hb
             obtain⟨HBx_13,qcx,qfx,hltx_13⟩:=s8_go HBx_12 hb (by omega)
             obtain⟨HBy_13,qcy,qfy,hlty_13⟩:=s8_go HBy_12 hb (by omega)
             have HB_13:=Lib.hid (Kd.R_grown HB_12.out hb (fun b hb e=>by injection e with e;omega))
             clear hr hb H12 G12 HBx_12 HBy_12)
          | (go_at_call 50;(with_reducible refine (must_any _ _ _ _ _ _ (RS.other (RS.other (RS.other (RS.other (RS.other H13.out (HX.out _ (Nat.le_of_lt hltx_1)) 2 (.slice pT q.1.types.length cT)) (HX.out _ (Nat.le_of_lt hltx_1)) 3 (.slice pD q.1.decls.length cD)) (HX.out _ (Nat.le_of_lt hltx_1)) 4 (.slice pC q.1.comps.length cC)) (HX.out _ (Nat.le_of_lt hltx_1)) 5 (.slice pI q.1.inits.length cI)) (HX.out _ (Nat.le_of_lt hltx_1)) 6 (.slice pL q.1.clauses.length cL))).mono ?_);rintro e w14 ⟨rfl,hr,hb⟩
             obtain⟨H14,G14,hrl_14⟩:=st_go hr ((grown_new (grown_new (grown_new (grown_new (grown_new G13.out (Nat.le_of_lt hltx_1) 2 (.slice pT q.1.types.length cT)) (Nat.le_of_lt hltx_1) 3 (.slice pD q.1.decls.length cD)) (Nat.le_of_lt hltx_1) 4 (.slice pC q.1.comps.length cC)) (Nat.le_of_lt hltx_1) 5 (.slice pI q.1.inits.length cI)) (Nat.le_of_lt hltx_1) 6 (.slice pL q.1.clauses.length cL))) hb
             obtain⟨HBx_14,qcx,qfx,hltx_14⟩:=s8_go (Lib.hid ((((((HBx_13.out.far (p:=⟨w1.heap.size,2,none⟩) (Nat.ne_of_lt hltx_1) (.slice pT q.1.types.length cT)).far (p:=⟨w1.heap.size,3,none⟩) (Nat.ne_of_lt hltx_1) (.slice pD q.1.decls.length cD)).far (p:=⟨w1.heap.size,4,none⟩) (Nat.ne_of_lt hltx_1) (.slice pC q.1.comps.length cC)).far (p:=⟨w1.heap.size,5,none⟩) (Nat.ne_of_lt hltx_1) (.slice pI q.1.inits.length cI)).far (p:=⟨w1.heap.size,6,none⟩) (Nat.ne_of_lt hltx_1) (.slice pL q.1.clauses.length cL)))) hb (by omega)
             obtain⟨HBy_14,qcy,qfy,hlty_14⟩:=s8_go (Lib.hid (show Blk _ (w1.heap.size) 42 #[.string (word ts st).1,.slice p7 l.length c7,.slice pT q.1.types.length cT,.slice pD q.1.decls.length cD,.slice pC q.1.comps.length cC,.slice pI q.1.inits.length cI,.slice pL q.1.clauses.length cL,.int .i64 at_] from (((((HBy_13.out.set_ 2 (.slice pT q.1.types.length cT)).set_ 3 (.slice pD q.1.decls.length cD)).set_ 4 (.slice pC q.1.comps.length cC)).set_ 5 (.slice pI q.1.inits.length cI)).set_ 6 (.slice pL q.1.clauses.length cL)))) hb (by omega)
             have HRW2:=Lib.hid (Rows.grown (Rows.far (Rows.far (Rows.far (Rows.far (Rows.far HRW.out hyw 2 (.slice pT q.1.types.length cT)) hyw 3 (.slice pD q.1.decls.length cD)) hyw 4 (.slice pC q.1.comps.length cC)) hyw 5 (.slice pI q.1.inits.length cI)) hyw 6 (.slice pL q.1.clauses.length cL)) (Nat.lt_trans (Nat.lt_trans hg hltx_1) hyw) hb)
             have HB_14:=Lib.hid (Kd.R_grown (Kd.R_far (Kd.R_far (Kd.R_far (Kd.R_far (Kd.R_far HB_13.out (p:=⟨w1.heap.size,2,none⟩) (fun b hb e=>by have e2:b=w1.heap.size:=e;omega) (.slice pT q.1.types.length cT)) (p:=⟨w1.heap.size,3,none⟩) (fun b hb e=>by have e2:b=w1.heap.size:=e;omega) (.slice pD q.1.decls.length cD)) (p:=⟨w1.heap.size,4,none⟩) (fun b hb e=>by have e2:b=w1.heap.size:=e;omega) (.slice pC q.1.comps.length cC)) (p:=⟨w1.heap.size,5,none⟩) (fun b hb e=>by have e2:b=w1.heap.size:=e;omega) (.slice pI q.1.inits.length cI)) (p:=⟨w1.heap.size,6,none⟩) (fun b hb e=>by have e2:b=w1.heap.size:=e;omega) (.slice pL q.1.clauses.length cL)) hb (fun b hb e=>by injection e with e;omega))
             clear hr hb H13 G13 HBx_13 HBy_13))
    refine bodyPost_ret (results_cell_row rfl _ _ w.heap.size 42 #[.string (word ts st).1,.slice p7 l.length c7,.slice pT q.1.types.length cT,.slice pD q.1.decls.length cD,.slice pC q.1.comps.length cC,.slice pI q.1.inits.length cI,.slice pL q.1.clauses.length cL,.int .i64 at_] (0,0) _ rfl ?_ Try.underlying42 rfl (by kernel_rfl)) rfl ?_
    · exact s8_blk HBx_14.out
    · refine⟨.slice p7 l.length c7,.slice pT q.1.types.length cT,.slice pD q.1.decls.length cD,.slice pC q.1.comps.length cC,.slice pI q.1.inits.length cI,.slice pL q.1.clauses.length cL,rfl,?_,?_,?_,?_⟩
      · exact Kd.R_mono (Kd.R_lower (s8_R HB_14.out (fun b hb=>by omega)) (by omega)) (fun b hb=>by omega)
      · exact Rows.lower (Rows.far (Rows.far (Rows.far (Rows.far (Rows.far (Rows.far (Rows.far (Rows.far HRW2.out (show w.heap.size<w12.heap.size by omega) 0 _) (show w.heap.size<w12.heap.size by omega) 1 _) (show w.heap.size<w12.heap.size by omega) 2 _) (show w.heap.size<w12.heap.size by omega) 3 _) (show w.heap.size<w12.heap.size by omega) 4 _) (show w.heap.size<w12.heap.size by omega) 5 _) (show w.heap.size<w12.heap.size by omega) 6 _) (show w.heap.size<w12.heap.size by omega) 7 _) (by omega)
      · exact s8_RS H14.out (HX.out _ (Nat.le_refl _))
      · exact s8_gr G14.out (Nat.le_refl _)
end
end Go.Proofs.Ytddmceldglelkaa.RefComp
