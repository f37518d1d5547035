/- A claim's texts, in the order of what they need: RefItems. -/
import Derived.Test.YtddmceldglelkaaBCompApart22
set_option maxRecDepth 100000
set_option maxHeartbeats 8000000
set_option linter.unusedVariables false
set_option linter.unusedSimpArgs false
set_option linter.unusedSectionVars false
namespace Go.Proofs.Ytddmceldglelkaa.RefItems
open Go Go.RowKit RefPure RefKinds RefMem RefTake RefSmall RefFields RefExprs RefExpr RefOne RefCells YtddmceldglelkaaW.PrintWords
open LexPure (T lex)
attribute [local go_sem] fld0 fld1 fld2 fld3
open RefProgS RefKind RefDecl RefClause
section
variable (ts:List T)
theorem prog_stop {k:Nat} {p:ProgT} {s:St} (h:progGoes ts s=false):prog ts (k+1) p s=some (p,s):=by
 rw[prog,if_neg (by simp[h])]
def PRel (w:World) (g:Nat) (v:Value) (ts:List T) (k:Nat) (r:ProgT×St) (kq:Nat) (wr:World):Prop:=
 ∃ p s pT cT pD cD pC cC pI cI pL cL,kq≤k∧prog ts kq p s=some r∧RefProgS.Rows wr (w.heap.size+2) (.slice pT p.types.length cT) (.slice pD p.decls.length cD) (.slice pC p.comps.length cC) (.slice pI p.inits.length cI) (.slice pL p.clauses.length cL) p∧RS wr g v ts s∧w.grownBy wr (some g)∧Blk wr w.heap.size 28 #[.slice none 0 0,.slice none 0 0,.slice none 0 0,.slice none 0 0,.slice none 0 0]∧Blk wr (w.heap.size+1) 28 #[.slice pT p.types.length cT,.slice pD p.decls.length cD,.slice pC p.comps.length cC,.slice pI p.inits.length cI,.slice pL p.clauses.length cL]∧w.heap.size+2≤wr.heap.size∧p.types.length+kq≤k∧p.decls.length+kq≤k∧p.comps.length+kq≤k∧p.inits.length+kq≤k∧p.clauses.length+kq≤k
theorem off_ready {α:Type} {d:Kd α} {e n0:Nat} {wr W:World} {os:List Value} {vl:Value} {l:List α} {g X:Nat} (h:d.R e wr n0 (Off n0 os) vl l) (hg:g<n0) (hG:wr.grownBy W (some g)) (hX:wr.heap.size≤X) (j:Nat) (u:Value):d.R e (W.setCell ⟨X,j,none⟩ u) n0 (Off n0 os) vl l:=by
 have h1:=Kd.R_mono (ok':=fun b=>Off n0 os b∧b<wr.heap.size) (Kd.R_bound h) (fun b hb=>⟨hb.1,hb.2.2.1⟩)
 have h2:=Kd.R_grown h1 hG (fun b hb e=>by injection e with e;have:=hb.1.1;omega)
 have h3:=Kd.R_far h2 (p:=⟨X,j,none⟩) (fun b hb e=>by have e2:b=X:=e;have:=hb.2;omega) u
 exact Kd.R_mono h3 (fun b hb=>hb.1)
theorem rows_ready {wr W:World} {n0:Nat} {vT vD vC vI vL:Value} {p:ProgT} {g X:Nat} (h:RefProgS.Rows wr n0 vT vD vC vI vL p) (hg:g<n0) (hG:wr.grownBy W (some g)) (hX:wr.heap.size≤X) (j:Nat) (u:Value):RefProgS.Rows (W.setCell ⟨X,j,none⟩ u) n0 vT vD vC vI vL p:=
 ⟨off_ready h.t hg hG hX j u,off_ready h.d hg hG hX j u,off_ready h.c hg hG hX j u,off_ready h.i hg hG hX j u,off_ready h.l hg hG hX j u⟩
theorem prog_step (k:Nat) (hk:k+1≤549755813888) (ih:∀ j,j≤k→PComp ts j):PProg ts (k+1):=by
 intro w g v st r h hF
 have H0:=Lib.hid h
 have hg:=h.blk.lt
 have HX:=Lib.hid (fun X (hX:w.heap.size≤X)=>h.elder hX)
 have HIH:=Lib.hid ih
 unfold PComp at HIH
 have HL0:=Lib.hid hF
 have HK:=Lib.hid hk
 clear h hF hk ih
 go_enter Try.func14,Try.ntmps14
 go_wp2
 go_loopg [] (k+1) (fun kq wr=>Hid (PRel w g v ts (k+1) r kq wr))
 case atStart=>exact Lib.hid ⟨prog0,st,none,0,none,0,none,0,none,0,none,0,Nat.le_refl _,HL0.out,RefProgS.Rows.nil _ _,(H0.out.alloc _).alloc _,grown_alloc (grown_alloc (grown_refl w g) _) _,(Blk.new w _ _).alloc _,(show Blk ((w.alloc (.cells #[.slice none 0 0,.slice none 0 0,.slice none 0 0,.slice none 0 0,.slice none 0 0] 28)).alloc (.cells #[.slice none 0 0,.slice none 0 0,.slice none 0 0,.slice none 0 0,.slice none 0 0] 28)) (w.heap.size+1) 28 #[.slice none 0 0,.slice none 0 0,.slice none 0 0,.slice none 0 0,.slice none 0 0] from by have:=Blk.new (w.alloc (.cells #[.slice none 0 0,.slice none 0 0,.slice none 0 0,.slice none 0 0,.slice none 0 0] 28)) 28 #[.slice none 0 0,.slice none 0 0,.slice none 0 0,.slice none 0 0,.slice none 0 0];simpa using this),by simp,by simp[prog0],by simp[prog0],by simp[prog0],by simp[prog0],by simp[prog0]⟩
 case round=>
  obtain⟨p,s,pT,cT,pD,cD,pC,cC,pI,cI,pL,cL,hkq,hL,hRW,hS,hG,hA,hB,hn0,hlk⟩:=hrel.out
  clear HL0
  cases gk with
  | zero=>exact absurd hL (by simp[prog])
  | succ k1=>
  have HKQ:=Lib.hid hkq
  have HRW:=Lib.hid hRW
  have H10:=Lib.hid hS
  have HG:=Lib.hid hG
  have G10:=Lib.hid (grown_refl wr g)
  have HLK:=Lib.hid hlk
  have hg0:=hS.blk.lt
  have HN0:=Lib.hid hn0
  have hgN:g<w.heap.size+2:=by omega
  have HBx_10:=Lib.hid hA
  have HBy_10:=Lib.hid hB
  have hltx_10:w.heap.size<wr.heap.size:=hA.lt
  have hlty_10:w.heap.size+1<wr.heap.size:=hB.lt
  have qcx:=five_cells hA
  have qfx:=five_frozen hA
  have qcy:=five_cells hB
  have qfy:=five_frozen hB
  clear hrel hkq hRW hS hG hA hB hlk
  by_cases hw:well s=true
  · by_cases hk0:(cur ts s).kind=0
    · have hk0b:((cur ts s).kind != 0)=false:=by simp[hk0]
      have hk0c:((cur ts s).kind==0)=true:=by simp[hk0]
      have hio:progGoes ts s=false:=by simp[progGoes,hk0]
      clear hk0
      rw[prog_stop ts hio] at hL
      injection hL with hL
      subst hL
      clear hio
      go_wp2_with (first
            | (go_at_call 17;(with_reducible refine (well_is _ _ _ _ _ true hw H10.out).mono ?_);rintro e w' ⟨rfl,rfl⟩)
            | (go_at_call 15;(with_reducible refine (now_any _ _ _ _ _ H10.out).mono ?_);rintro e w11 ⟨rfl,hl⟩
               have hb:=grown_below hl g
               have hr:=(H10.out).below hl
               obtain⟨H11,G11,hrl_11⟩:=st_go hr G10.out hb
               obtain⟨HBx_11,qcx,qfx,hltx_11⟩:=s5_go HBx_10 hb (by omega)
               obtain⟨HBy_11,qcy,qfy,hlty_11⟩:=s5_go HBy_10 hb (by omega)
               clear hr hb hl H10 G10 HBx_10 HBy_10))
      refine bodyPost_ret (results_cell_row rfl _ _ w.heap.size 28 #[.slice pT p.types.length cT,.slice pD p.decls.length cD,.slice pC p.comps.length cC,.slice pI p.inits.length cI,.slice pL p.clauses.length cL] (0,0) _ rfl ?_ Try.underlying28 rfl (by kernel_rfl)) rfl ?_
      · exact five_blk HBx_11.out
      · refine⟨.slice pT p.types.length cT,.slice pD p.decls.length cD,.slice pC p.comps.length cC,.slice pI p.inits.length cI,.slice pL p.clauses.length cL,rfl,?_,?_,?_⟩
        · exact RefProgS.Rows.lower (RefProgS.Rows.far (RefProgS.Rows.far (RefProgS.Rows.far (RefProgS.Rows.far (RefProgS.Rows.far (HRW.out.grown hgN G11.out) (show w.heap.size<w.heap.size+2 by omega) 0 _) (show w.heap.size<w.heap.size+2 by omega) 1 _) (show w.heap.size<w.heap.size+2 by omega) 2 _) (show w.heap.size<w.heap.size+2 by omega) 3 _) (show w.heap.size<w.heap.size+2 by omega) 4 _) (by omega)
        · exact five_RS H11.out (HX.out _ (Nat.le_refl _))
        · exact five_gr (grown_then HG.out G11.out) (Nat.le_refl _)
    · have hk0b:((cur ts s).kind != 0)=true:=by simp[hk0]
      have hk0c:((cur ts s).kind==0)=false:=by simp[hk0]
      by_cases hs:sign ts [125] s=true
      · have hs2:sign ts (ByteArray.mk #[125]).data.toList s=true:=hs
        have hio:progGoes ts s=false:=by simp[progGoes,hs]
        clear hs hk0
        rw[prog_stop ts hio] at hL
        injection hL with hL
        subst hL
        clear hio
        go_wp2_with (first
              | (go_at_call 17;(with_reducible refine (well_is _ _ _ _ _ true hw H10.out).mono ?_);rintro e w' ⟨rfl,rfl⟩)
              | (go_at_call 15;(with_reducible refine (now_any _ _ _ _ _ H10.out).mono ?_);rintro e w11 ⟨rfl,hl⟩
                 have hb:=grown_below hl g
                 have hr:=(H10.out).below hl
                 obtain⟨H11,G11,hrl_11⟩:=st_go hr G10.out hb
                 obtain⟨HBx_11,qcx,qfx,hltx_11⟩:=s5_go HBx_10 hb (by omega)
                 obtain⟨HBy_11,qcy,qfy,hlty_11⟩:=s5_go HBy_10 hb (by omega)
                 clear hr hb hl H10 G10 HBx_10 HBy_10)
              | (go_at_call 42;(with_reducible refine (sign_any _ _ _ _ _ _ H11.out).mono ?_);rintro e w12 ⟨rfl,hl⟩
                 have hb:=grown_below hl g
                 have hr:=(H11.out).below hl
                 obtain⟨H12,G12,hrl_12⟩:=st_go hr G11.out hb
                 obtain⟨HBx_12,qcx,qfx,hltx_12⟩:=s5_go HBx_11 hb (by omega)
                 obtain⟨HBy_12,qcy,qfy,hlty_12⟩:=s5_go HBy_11 hb (by omega)
                 clear hr hb hl H11 G11 HBx_11 HBy_11))
        refine bodyPost_ret (results_cell_row rfl _ _ w.heap.size 28 #[.slice pT p.types.length cT,.slice pD p.decls.length cD,.slice pC p.comps.length cC,.slice pI p.inits.length cI,.slice pL p.clauses.length cL] (0,0) _ rfl ?_ Try.underlying28 rfl (by kernel_rfl)) rfl ?_
        · exact five_blk HBx_12.out
        · refine⟨.slice pT p.types.length cT,.slice pD p.decls.length cD,.slice pC p.comps.length cC,.slice pI p.inits.length cI,.slice pL p.clauses.length cL,rfl,?_,?_,?_⟩
          · exact RefProgS.Rows.lower (RefProgS.Rows.far (RefProgS.Rows.far (RefProgS.Rows.far (RefProgS.Rows.far (RefProgS.Rows.far (HRW.out.grown hgN G12.out) (show w.heap.size<w.heap.size+2 by omega) 0 _) (show w.heap.size<w.heap.size+2 by omega) 1 _) (show w.heap.size<w.heap.size+2 by omega) 2 _) (show w.heap.size<w.heap.size+2 by omega) 3 _) (show w.heap.size<w.heap.size+2 by omega) 4 _) (by omega)
          · exact five_RS H12.out (HX.out _ (Nat.le_refl _))
          · exact five_gr (grown_then HG.out G12.out) (Nat.le_refl _)
      · have hs1:sign ts [125] s=false:=by simpa using hs
        have hs2:sign ts (ByteArray.mk #[125]).data.toList s=false:=hs1
        have hio:progGoes ts s=true:=by simp[progGoes,hs1,hk0,hw]
        clear hs hs1 hk0
        rw[prog,if_pos hio] at hL
        clear hio
        obtain⟨s1,hs1⟩:∃ x,item ts s=x:=⟨_,rfl⟩
        rw[hs1] at hL
        by_cases hI:96<wrap64 (s.items+1)
        · have hIb:decide (96<wrap64 (s.items+1))=true:=decide_eq_true hI
          have HI:Hid (fails ts 3 { s with items:=wrap64 (s.items+1) }=s1):=Lib.hid (by rw[← hs1];unfold item;rw[if_pos hI])
          clear hI hs1
          by_cases t1:(may ts kwType s1).1=true
          · rw[if_pos t1] at hL
            obtain⟨q,hq,hL⟩:=Option.bind_eq_some_iff.1 hL
            have HL1:=Lib.hid hL
            have HQ:=Lib.hid hq
            clear hL hq
            have t1k:(may ts (ByteArray.mk #[46,116,121,112,101]).data.toList s1).1=true:=t1
            clear t1
            go_wp2_with (first
                  | (go_at_call 17;(with_reducible refine (well_is _ _ _ _ _ true hw H10.out).mono ?_);rintro e w' ⟨rfl,rfl⟩)
                  | (go_at_call 15;(with_reducible refine (now_any _ _ _ _ _ H10.out).mono ?_);rintro e w11 ⟨rfl,hl⟩
                     have hb:=grown_below hl g
                     have hr:=(H10.out).below hl
                     obtain⟨H11,G11,hrl_11⟩:=st_go hr G10.out hb
                     obtain⟨HBx_11,qcx,qfx,hltx_11⟩:=s5_go HBx_10 hb (by omega)
                     obtain⟨HBy_11,qcy,qfy,hlty_11⟩:=s5_go HBy_10 hb (by omega)
                     clear hr hb hl H10 G10 HBx_10 HBy_10)
                  | (go_at_call 42;(with_reducible refine (sign_any _ _ _ _ _ _ H11.out).mono ?_);rintro e w12 ⟨rfl,hl⟩
                     have hb:=grown_below hl g
                     have hr:=(H11.out).below hl
                     obtain⟨H12,G12,hrl_12⟩:=st_go hr G11.out hb
                     obtain⟨HBx_12,qcx,qfx,hltx_12⟩:=s5_go HBx_11 hb (by omega)
                     obtain⟨HBy_12,qcy,qfy,hlty_12⟩:=s5_go HBy_11 hb (by omega)
                     obtain⟨_,_,_,c3,_,_⟩:=hr.cells
                     have f3:=hr.blk.frozen 3
                     clear hr hb hl H11 G11 HBx_11 HBy_11)
                  | (go_at_call 16;(with_reducible refine (fails_any _ _ _ _ _ _ (RS.set H12.out 3 (.int .i64 (wrap64 (s.items+1))) (st':={ s with items:=wrap64 (s.items+1) }) rfl H12.out.lt)).mono ?_);rintro e w13 ⟨rfl,hr,hb⟩
                     rw[HI.out] at hr
                     obtain⟨H13,G13,hrl_13⟩:=st_go hr (grown_g G12.out 3 (.int .i64 (wrap64 (s.items+1)))) hb
                     obtain⟨HBx_13,qcx,qfx,hltx_13⟩:=s5_go (Lib.hid (HBx_12.out.far (p:=⟨g,3,none⟩) (show w.heap.size≠g by omega) (.int .i64 (wrap64 (s.items+1))))) hb (by omega)
                     obtain⟨HBy_13,qcy,qfy,hlty_13⟩:=s5_go (Lib.hid (HBy_12.out.far (p:=⟨g,3,none⟩) (show w.heap.size+1≠g by omega) (.int .i64 (wrap64 (s.items+1))))) hb (by omega)
                     clear hr hb H12 G12 HBx_12 HBy_12)
                  | (go_at_call 15;(with_reducible refine (now_any _ _ _ _ _ H13.out).mono ?_);rintro e w14 ⟨rfl,hl⟩
                     have hb:=grown_below hl g
                     have hr:=(H13.out).below hl
                     obtain⟨H14,G14,hrl_14⟩:=st_go hr G13.out hb
                     obtain⟨HBx_14,qcx,qfx,hltx_14⟩:=s5_go HBx_13 hb (by omega)
                     obtain⟨HBy_14,qcy,qfy,hlty_14⟩:=s5_go HBy_13 hb (by omega)
                     clear hr hb hl H13 G13 HBx_13 HBy_13)
                  | (go_at_call 43;(with_reducible refine (may_any _ _ _ _ _ _ H14.out).mono ?_);rintro e w15 ⟨rfl,hr,hb⟩
                     obtain⟨H15,G15,hrl_15⟩:=st_go hr G14.out hb
                     obtain⟨HBx_15,qcx,qfx,hltx_15⟩:=s5_go HBx_14 hb (by omega)
                     obtain⟨HBy_15,qcy,qfy,hlty_15⟩:=s5_go HBy_14 hb (by omega)
                     clear hr hb H14 G14 HBx_14 HBy_14))
            have hd:Below w15.heap.size w15 w15.drew:=(Below.refl _ _).drew
            have H16:=Lib.hid (H15.out.below hd)
            have G16:=Lib.hid (grown_then G15.out (grown_below hd g))
            have HBx_16:=Lib.hid HBx_15.out.drew
            have HBy_16:=Lib.hid HBy_15.out.drew
            have HWR:Hid (wr.heap.size≤w15.drew.heap.size):=Lib.hid G16.out.size
            clear hd H15 G15 HBx_15 HBy_15
            go_region_law (first
                  | (have HRM:=Lib.hid (HRW.out.grown hgN G17.out)
                     have hwm:wr.heap.size≤w17.heap.size:=G17.out.size
                     refine Kd.R_append_step kTDecl (w.heap.size+2) (by rfl) (.tmp 48) (.tmp 52) 22 73 (.agg #[.string ⟨#[]⟩,.string ⟨#[]⟩,.slice none 0 0,.int .i64 0]) 64 rfl Try.underlying22 infoTDecl rfl (by decide) (by decide) (.slice pT p.types.length cT) p.types q.1 [.string q.1.name,.string q.1.sub,.slice p1 q.1.ctors.length c1,.int .i64 q.1.at_] (Off (w.heap.size+2) [(.slice pD p.decls.length cD),(.slice pC p.comps.length cC),(.slice pI p.inits.length cI),(.slice pL p.clauses.length cL)]) (fun b=>w15.drew.heap.size≤b) ?a1 ?a2 HM.out ?hok ?aF ?aO (Below.refl _ _) ?aS ?aL ?_
                     (try (case a1=>rfl))
                     (try (case a2=>first|rfl|(rw[set_size];rfl)))
                     (case hok=>exact fun b hb=>⟨HRW.out.off HN0.out _ (by simp) b (Nat.le_trans HWR.out hb),fun e=>HRW.out.newer b (Nat.le_trans HWR.out hb) _ (by simp) e.symm⟩)
                     (case aF=>exact fun b hb=>HRW.out.off HN0.out _ (by simp) b (by (try rw[set_size] at hb);omega))
                     (case aO=>exact HRM.out.t)
                     (case aS=>(try rw[set_size]);have:=HN0.out;omega)
                     (case aL=>(have:=HLK.out;have:=HK.out;omega))
                     intro v1 wn ho hb hgr hat
                     obtain⟨p9,c9,rfl⟩:=Kd.R_slice ho
                     have HRN:=Lib.hid (HRM.out.addT (x:=q.1) ho hgr hat)
                     have hOW:∀ X,(Value.ownBlock (.slice pT p.types.length cT))=some X→w.heap.size+2≤X:=fun X hX=>HRW.out.own _ (by simp) X hX
                     have hBx:=HBx_17.out.grown hgr (fun e=>by have:=hOW _ e.symm;omega)
                     have hBy:=HBy_17.out.grown hgr (fun e=>by have:=hOW _ e.symm;omega)
                     have hS2:=RS.row_ H17.out hgr (fun X hX=>HX.out X (by have:=hOW X hX;omega))
                     have HG2:=Lib.hid (grown_row (grown_then HG.out G17.out) hgr (fun X hX=>by have:=hOW X hX;omega))
                     have HBx_n:=Lib.hid hBx
                     have HBy_n:=Lib.hid hBy
                     have HS2:=Lib.hid hS2
                     obtain⟨_,_,e2,_,_,_⟩:=hS2.cells
                     have fe2:=hS2.blk.frozen 2
                     have hgn:g<wn.heap.size:=hS2.blk.lt
                     have qcx:=five_cells hBx
                     have qfx:=five_frozen hBx
                     have qcy:=five_cells hBy
                     have qfy:=five_frozen hBy
                     have hltx_n:w.heap.size<wn.heap.size:=hBx.lt
                     have hlty_n:w.heap.size+1<wn.heap.size:=hBy.lt
                     clear ho hb hgr hat hBx hBy hS2 hOW G17 H17 HBx_17 HBy_17)
                  | (go_simp;go_wp2_with (first
                        | (go_at_call 44;(with_reducible refine (RefProgS.kind_any ts k1 (by have:=HKQ.out;have:=HK.out;omega) _ _ _ _ _ q H16.out HQ.out).mono ?_);rintro e w17 ⟨vk,rfl,hk,hr,hb⟩
                           obtain⟨p1,c1,rfl⟩:=Kd.R_slice hk
                           have HM:=Lib.hid (kTDecl.M_lower (Nat.le_trans HN0.out HWR.out) (kTDecl_mkM _ _ _ q.1 hk))
                           clear hk
                           obtain⟨H17,G17,hrl_17⟩:=st_go hr G16.out hb
                           obtain⟨HBx_17,qcx,qfx,hltx_17⟩:=s5_go HBx_16 hb (by omega)
                           obtain⟨HBy_17,qcy,qfy,hlty_17⟩:=s5_go HBy_16 hb (by omega)
                           clear hr hb H16 G16 HBx_16 HBy_16))))
            all_goals go_wp2
            all_goals go_roundg k1
            all_goals first
             | omega
             | exact Lib.hid ⟨_,_,p9,c9,pD,cD,pC,cC,pI,cI,pL,cL,Nat.le_of_lt (Nat.lt_of_succ_le HKQ.out),HL1.out,HRN.out.far (Nat.lt_succ_self _) 0 _,RS.other HS2.out (HX.out _ (Nat.le_succ _)) 0 _,grown_new HG2.out (Nat.le_succ _) 0 _,HBx_n.out.far (p:=⟨w.heap.size+1,0,none⟩) (Nat.ne_of_lt (Nat.lt_succ_self _)) _,by show Blk _ _ _ _;simp only[addT,List.length_append,List.length_cons,List.length_nil];exact HBy_n.out.set_ 0 _,by rw[set_size];exact hlty_n,by have:=HLK.out;simp only[addT];(try rw[List.length_append]);(try simp only[List.length_cons,List.length_nil]);omega,by have:=HLK.out;simp only[addT];(try rw[List.length_append]);(try simp only[List.length_cons,List.length_nil]);omega,by have:=HLK.out;simp only[addT];(try rw[List.length_append]);(try simp only[List.length_cons,List.length_nil]);omega,by have:=HLK.out;simp only[addT];(try rw[List.length_append]);(try simp only[List.length_cons,List.length_nil]);omega,by have:=HLK.out;simp only[addT];(try rw[List.length_append]);(try simp only[List.length_cons,List.length_nil]);omega⟩
          rw[if_neg t1] at hL
          have t1:(may ts kwType s1).1=false:=by simpa using t1
          have t1k:(may ts (ByteArray.mk #[46,116,121,112,101]).data.toList s1).1=false:=t1
          by_cases t2:(may ts kwDecl s1).1=true
          · rw[if_pos t2] at hL
            obtain⟨q,hq,hL⟩:=Option.bind_eq_some_iff.1 hL
            have HL1:=Lib.hid hL
            have HQ:=Lib.hid hq
            clear hL hq
            have t2k:(may ts (ByteArray.mk #[46,100,101,99,108]).data.toList s1).1=true:=t2
            clear t2
            go_wp2_with (first
                  | (go_at_call 17;(with_reducible refine (well_is _ _ _ _ _ true hw H10.out).mono ?_);rintro e w' ⟨rfl,rfl⟩)
                  | (go_at_call 15;(with_reducible refine (now_any _ _ _ _ _ H10.out).mono ?_);rintro e w11 ⟨rfl,hl⟩
                     have hb:=grown_below hl g
                     have hr:=(H10.out).below hl
                     obtain⟨H11,G11,hrl_11⟩:=st_go hr G10.out hb
                     obtain⟨HBx_11,qcx,qfx,hltx_11⟩:=s5_go HBx_10 hb (by omega)
                     obtain⟨HBy_11,qcy,qfy,hlty_11⟩:=s5_go HBy_10 hb (by omega)
                     clear hr hb hl H10 G10 HBx_10 HBy_10)
                  | (go_at_call 42;(with_reducible refine (sign_any _ _ _ _ _ _ H11.out).mono ?_);rintro e w12 ⟨rfl,hl⟩
                     have hb:=grown_below hl g
                     have hr:=(H11.out).below hl
                     obtain⟨H12,G12,hrl_12⟩:=st_go hr G11.out hb
                     obtain⟨HBx_12,qcx,qfx,hltx_12⟩:=s5_go HBx_11 hb (by omega)
                     obtain⟨HBy_12,qcy,qfy,hlty_12⟩:=s5_go HBy_11 hb (by omega)
                     obtain⟨_,_,_,c3,_,_⟩:=hr.cells
                     have f3:=hr.blk.frozen 3
                     clear hr hb hl H11 G11 HBx_11 HBy_11)
                  | (go_at_call 16;(with_reducible refine (fails_any _ _ _ _ _ _ (RS.set H12.out 3 (.int .i64 (wrap64 (s.items+1))) (st':={ s with items:=wrap64 (s.items+1) }) rfl H12.out.lt)).mono ?_);rintro e w13 ⟨rfl,hr,hb⟩
                     rw[HI.out] at hr
                     obtain⟨H13,G13,hrl_13⟩:=st_go hr (grown_g G12.out 3 (.int .i64 (wrap64 (s.items+1)))) hb
                     obtain⟨HBx_13,qcx,qfx,hltx_13⟩:=s5_go (Lib.hid (HBx_12.out.far (p:=⟨g,3,none⟩) (show w.heap.size≠g by omega) (.int .i64 (wrap64 (s.items+1))))) hb (by omega)
                     obtain⟨HBy_13,qcy,qfy,hlty_13⟩:=s5_go (Lib.hid (HBy_12.out.far (p:=⟨g,3,none⟩) (show w.heap.size+1≠g by omega) (.int .i64 (wrap64 (s.items+1))))) hb (by omega)
                     clear hr hb H12 G12 HBx_12 HBy_12)
                  | (go_at_call 15;(with_reducible refine (now_any _ _ _ _ _ H13.out).mono ?_);rintro e w14 ⟨rfl,hl⟩
                     have hb:=grown_below hl g
                     have hr:=(H13.out).below hl
                     obtain⟨H14,G14,hrl_14⟩:=st_go hr G13.out hb
                     obtain⟨HBx_14,qcx,qfx,hltx_14⟩:=s5_go HBx_13 hb (by omega)
                     obtain⟨HBy_14,qcy,qfy,hlty_14⟩:=s5_go HBy_13 hb (by omega)
                     clear hr hb hl H13 G13 HBx_13 HBy_13)
                  | (go_at_call 43;(with_reducible refine (may_any _ _ _ _ _ _ H14.out).mono ?_);rintro e w15 ⟨rfl,hr,hb⟩
                     rw[may_same t1k] at hr
                     obtain⟨H15,G15,hrl_15⟩:=st_go hr G14.out hb
                     obtain⟨HBx_15,qcx,qfx,hltx_15⟩:=s5_go HBx_14 hb (by omega)
                     obtain⟨HBy_15,qcy,qfy,hlty_15⟩:=s5_go HBy_14 hb (by omega)
                     clear hr hb H14 G14 HBx_14 HBy_14)
                  | (go_at_call 43;(with_reducible refine (may_any _ _ _ _ _ _ H15.out).mono ?_);rintro e w16 ⟨rfl,hr,hb⟩
                     obtain⟨H16,G16,hrl_16⟩:=st_go hr G15.out hb
                     obtain⟨HBx_16,qcx,qfx,hltx_16⟩:=s5_go HBx_15 hb (by omega)
                     obtain⟨HBy_16,qcy,qfy,hlty_16⟩:=s5_go HBy_15 hb (by omega)
                     clear hr hb H15 G15 HBx_15 HBy_15))
            have hd:Below w16.heap.size w16 w16.drew:=(Below.refl _ _).drew
            have H17:=Lib.hid (H16.out.below hd)
            have G17:=Lib.hid (grown_then G16.out (grown_below hd g))
            have HBx_17:=Lib.hid HBx_16.out.drew
            have HBy_17:=Lib.hid HBy_16.out.drew
            have HWR:Hid (wr.heap.size≤w16.drew.heap.size):=Lib.hid G17.out.size
            clear hd H16 G16 HBx_16 HBy_16
            go_region_law (first
                  | (have HRM:=Lib.hid (HRW.out.grown hgN G18.out)
                     have hwm:wr.heap.size≤w18.heap.size:=G18.out.size
                     refine Kd.R_append_step kDecl (w.heap.size+2) (by rfl) (.tmp 59) (.tmp 63) 23 46 (.agg #[.string ⟨#[]⟩,.slice none 0 0,.bool false,.bool false,.int .i64 0]) 56 rfl Try.underlying23 infoDecl rfl (by decide) (by decide) (.slice pD p.decls.length cD) p.decls q.1 [.string q.1.name,.slice p1 q.1.cols.length c1,.bool q.1.input,.bool q.1.output,.int .i64 q.1.at_] (Off (w.heap.size+2) [(.slice pT p.types.length cT),(.slice pC p.comps.length cC),(.slice pI p.inits.length cI),(.slice pL p.clauses.length cL)]) (fun b=>w16.drew.heap.size≤b) ?a1 ?a2 HM.out ?hok ?aF ?aO (Below.refl _ _) ?aS ?aL ?_
                     (try (case a1=>rfl))
                     (try (case a2=>first|rfl|(rw[set_size];rfl)))
                     (case hok=>exact fun b hb=>⟨HRW.out.off HN0.out _ (by simp) b (Nat.le_trans HWR.out hb),fun e=>HRW.out.newer b (Nat.le_trans HWR.out hb) _ (by simp) e.symm⟩)
                     (case aF=>exact fun b hb=>HRW.out.off HN0.out _ (by simp) b (by (try rw[set_size] at hb);omega))
                     (case aO=>exact HRM.out.d)
                     (case aS=>(try rw[set_size]);have:=HN0.out;omega)
                     (case aL=>(have:=HLK.out;have:=HK.out;omega))
                     intro v1 wn ho hb hgr hat
                     obtain⟨p9,c9,rfl⟩:=Kd.R_slice ho
                     have HRN:=Lib.hid (HRM.out.addD (x:=q.1) ho hgr hat)
                     have hOW:∀ X,(Value.ownBlock (.slice pD p.decls.length cD))=some X→w.heap.size+2≤X:=fun X hX=>HRW.out.own _ (by simp) X hX
                     have hBx:=HBx_18.out.grown hgr (fun e=>by have:=hOW _ e.symm;omega)
                     have hBy:=HBy_18.out.grown hgr (fun e=>by have:=hOW _ e.symm;omega)
                     have hS2:=RS.row_ H18.out hgr (fun X hX=>HX.out X (by have:=hOW X hX;omega))
                     have HG2:=Lib.hid (grown_row (grown_then HG.out G18.out) hgr (fun X hX=>by have:=hOW X hX;omega))
                     have HBx_n:=Lib.hid hBx
                     have HBy_n:=Lib.hid hBy
                     have HS2:=Lib.hid hS2
                     obtain⟨_,_,e2,_,_,_⟩:=hS2.cells
                     have fe2:=hS2.blk.frozen 2
                     have hgn:g<wn.heap.size:=hS2.blk.lt
                     have qcx:=five_cells hBx
                     have qfx:=five_frozen hBx
                     have qcy:=five_cells hBy
                     have qfy:=five_frozen hBy
                     have hltx_n:w.heap.size<wn.heap.size:=hBx.lt
                     have hlty_n:w.heap.size+1<wn.heap.size:=hBy.lt
                     clear ho hb hgr hat hBx hBy hS2 hOW G18 H18 HBx_18 HBy_18)
                  | (go_simp;go_wp2_with (first
                        | (go_at_call 45;(with_reducible refine (RefDecl.decl_any ts k1 (by have:=HKQ.out;have:=HK.out;omega) _ _ _ _ _ q H17.out HQ.out).mono ?_);rintro e w18 ⟨vk,rfl,hk,hr,hb⟩
                           obtain⟨p1,c1,rfl⟩:=Kd.R_slice hk
                           have HM:=Lib.hid (kDecl.M_lower (Nat.le_trans HN0.out HWR.out) (kDecl_mkM _ _ _ q.1 hk))
                           clear hk
                           obtain⟨H18,G18,hrl_18⟩:=st_go hr G17.out hb
                           obtain⟨HBx_18,qcx,qfx,hltx_18⟩:=s5_go HBx_17 hb (by omega)
                           obtain⟨HBy_18,qcy,qfy,hlty_18⟩:=s5_go HBy_17 hb (by omega)
                           clear hr hb H17 G17 HBx_17 HBy_17))))
            all_goals go_wp2
            all_goals go_roundg k1
            all_goals first
             | omega
             | exact Lib.hid ⟨_,_,pT,cT,p9,c9,pC,cC,pI,cI,pL,cL,Nat.le_of_lt (Nat.lt_of_succ_le HKQ.out),HL1.out,HRN.out.far (Nat.lt_succ_self _) 1 _,RS.other HS2.out (HX.out _ (Nat.le_succ _)) 1 _,grown_new HG2.out (Nat.le_succ _) 1 _,HBx_n.out.far (p:=⟨w.heap.size+1,1,none⟩) (Nat.ne_of_lt (Nat.lt_succ_self _)) _,by show Blk _ _ _ _;simp only[addD,List.length_append,List.length_cons,List.length_nil];exact HBy_n.out.set_ 1 _,by rw[set_size];exact hlty_n,by have:=HLK.out;simp only[addD];(try rw[List.length_append]);(try simp only[List.length_cons,List.length_nil]);omega,by have:=HLK.out;simp only[addD];(try rw[List.length_append]);(try simp only[List.length_cons,List.length_nil]);omega,by have:=HLK.out;simp only[addD];(try rw[List.length_append]);(try simp only[List.length_cons,List.length_nil]);omega,by have:=HLK.out;simp only[addD];(try rw[List.length_append]);(try simp only[List.length_cons,List.length_nil]);omega,by have:=HLK.out;simp only[addD];(try rw[List.length_append]);(try simp only[List.length_cons,List.length_nil]);omega⟩
          rw[if_neg t2] at hL
          have t2:(may ts kwDecl s1).1=false:=by simpa using t2
          have t2k:(may ts (ByteArray.mk #[46,100,101,99,108]).data.toList s1).1=false:=t2
          by_cases t3:sign ts kwComp s1=true
          · rw[if_pos t3] at hL
            obtain⟨q,hq,hL⟩:=Option.bind_eq_some_iff.1 hL
            have HL1:=Lib.hid hL
            have HQ:=Lib.hid hq
            clear hL hq
            have t3k:sign ts (ByteArray.mk #[46,99,111,109,112]).data.toList s1=true:=t3
            clear t3
            go_wp2_with (first
                  | (go_at_call 17;(with_reducible refine (well_is _ _ _ _ _ true hw H10.out).mono ?_);rintro e w' ⟨rfl,rfl⟩)
                  | (go_at_call 15;(with_reducible refine (now_any _ _ _ _ _ H10.out).mono ?_);rintro e w11 ⟨rfl,hl⟩
                     have hb:=grown_below hl g
                     have hr:=(H10.out).below hl
                     obtain⟨H11,G11,hrl_11⟩:=st_go hr G10.out hb
                     obtain⟨HBx_11,qcx,qfx,hltx_11⟩:=s5_go HBx_10 hb (by omega)
                     obtain⟨HBy_11,qcy,qfy,hlty_11⟩:=s5_go HBy_10 hb (by omega)
                     clear hr hb hl H10 G10 HBx_10 HBy_10)
                  | (go_at_call 42;(with_reducible refine (sign_any _ _ _ _ _ _ H11.out).mono ?_);rintro e w12 ⟨rfl,hl⟩
                     have hb:=grown_below hl g
                     have hr:=(H11.out).below hl
                     obtain⟨H12,G12,hrl_12⟩:=st_go hr G11.out hb
                     obtain⟨HBx_12,qcx,qfx,hltx_12⟩:=s5_go HBx_11 hb (by omega)
                     obtain⟨HBy_12,qcy,qfy,hlty_12⟩:=s5_go HBy_11 hb (by omega)
                     obtain⟨_,_,_,c3,_,_⟩:=hr.cells
                     have f3:=hr.blk.frozen 3
                     clear hr hb hl H11 G11 HBx_11 HBy_11)
                  | (go_at_call 16;(with_reducible refine (fails_any _ _ _ _ _ _ (RS.set H12.out 3 (.int .i64 (wrap64 (s.items+1))) (st':={ s with items:=wrap64 (s.items+1) }) rfl H12.out.lt)).mono ?_);rintro e w13 ⟨rfl,hr,hb⟩
                     rw[HI.out] at hr
                     obtain⟨H13,G13,hrl_13⟩:=st_go hr (grown_g G12.out 3 (.int .i64 (wrap64 (s.items+1)))) hb
                     obtain⟨HBx_13,qcx,qfx,hltx_13⟩:=s5_go (Lib.hid (HBx_12.out.far (p:=⟨g,3,none⟩) (show w.heap.size≠g by omega) (.int .i64 (wrap64 (s.items+1))))) hb (by omega)
                     obtain⟨HBy_13,qcy,qfy,hlty_13⟩:=s5_go (Lib.hid (HBy_12.out.far (p:=⟨g,3,none⟩) (show w.heap.size+1≠g by omega) (.int .i64 (wrap64 (s.items+1))))) hb (by omega)
                     clear hr hb H12 G12 HBx_12 HBy_12)
                  | (go_at_call 15;(with_reducible refine (now_any _ _ _ _ _ H13.out).mono ?_);rintro e w14 ⟨rfl,hl⟩
                     have hb:=grown_below hl g
                     have hr:=(H13.out).below hl
                     obtain⟨H14,G14,hrl_14⟩:=st_go hr G13.out hb
                     obtain⟨HBx_14,qcx,qfx,hltx_14⟩:=s5_go HBx_13 hb (by omega)
                     obtain⟨HBy_14,qcy,qfy,hlty_14⟩:=s5_go HBy_13 hb (by omega)
                     clear hr hb hl H13 G13 HBx_13 HBy_13)
                  | (go_at_call 43;(with_reducible refine (may_any _ _ _ _ _ _ H14.out).mono ?_);rintro e w15 ⟨rfl,hr,hb⟩
                     rw[may_same t1k] at hr
                     obtain⟨H15,G15,hrl_15⟩:=st_go hr G14.out hb
                     obtain⟨HBx_15,qcx,qfx,hltx_15⟩:=s5_go HBx_14 hb (by omega)
                     obtain⟨HBy_15,qcy,qfy,hlty_15⟩:=s5_go HBy_14 hb (by omega)
                     clear hr hb H14 G14 HBx_14 HBy_14)
                  | (go_at_call 43;(with_reducible refine (may_any _ _ _ _ _ _ H15.out).mono ?_);rintro e w16 ⟨rfl,hr,hb⟩
                     rw[may_same t2k] at hr
                     obtain⟨H16,G16,hrl_16⟩:=st_go hr G15.out hb
                     obtain⟨HBx_16,qcx,qfx,hltx_16⟩:=s5_go HBx_15 hb (by omega)
                     obtain⟨HBy_16,qcy,qfy,hlty_16⟩:=s5_go HBy_15 hb (by omega)
                     clear hr hb H15 G15 HBx_15 HBy_15)
                  | (go_at_call 42;(with_reducible refine (sign_any _ _ _ _ _ _ H16.out).mono ?_);rintro e w17 ⟨rfl,hl⟩
                     have hb:=grown_below hl g
                     have hr:=(H16.out).below hl
                     obtain⟨H17,G17,hrl_17⟩:=st_go hr G16.out hb
                     obtain⟨HBx_17,qcx,qfx,hltx_17⟩:=s5_go HBx_16 hb (by omega)
                     obtain⟨HBy_17,qcy,qfy,hlty_17⟩:=s5_go HBy_16 hb (by omega)
                     clear hr hb hl H16 G16 HBx_16 HBy_16)
                  | (go_at_call 46;(with_reducible refine (enter_any _ _ _ _ _ H17.out).mono ?_);rintro e w18 ⟨rfl,hr,hb⟩
                     obtain⟨H18,G18,hrl_18⟩:=st_go hr G17.out hb
                     obtain⟨HBx_18,qcx,qfx,hltx_18⟩:=s5_go HBx_17 hb (by omega)
                     obtain⟨HBy_18,qcy,qfy,hlty_18⟩:=s5_go HBy_17 hb (by omega)
                     clear hr hb H17 G17 HBx_17 HBy_17)
                  | (go_at_call 47;(with_reducible refine (take_any _ _ _ _ _ H18.out).mono ?_);rintro e w19 ⟨rfl,hr,hb⟩
                     obtain⟨H19,G19,hrl_19⟩:=st_go hr G18.out hb
                     obtain⟨HBx_19,qcx,qfx,hltx_19⟩:=s5_go HBx_18 hb (by omega)
                     obtain⟨HBy_19,qcy,qfy,hlty_19⟩:=s5_go HBy_18 hb (by omega)
                     clear hr hb H18 G18 HBx_18 HBy_18))
            have hd:Below w19.heap.size w19 w19.drew:=(Below.refl _ _).drew
            have H20:=Lib.hid (H19.out.below hd)
            have G20:=Lib.hid (grown_then G19.out (grown_below hd g))
            have HBx_20:=Lib.hid HBx_19.out.drew
            have HBy_20:=Lib.hid HBy_19.out.drew
            have HWR:Hid (wr.heap.size≤w19.drew.heap.size):=Lib.hid G20.out.size
            clear hd H19 G19 HBx_19 HBy_19
            go_region_law (first
                  | (have HRM:=Lib.hid (HRW.out.grown hgN G21.out)
                     have hwm:wr.heap.size≤w21.heap.size:=G21.out.size
                     refine Kd.R_append_step kComp (w.heap.size+2) (by rfl) (.tmp 74) (.tmp 78) 24 42 (.agg #[.string ⟨#[]⟩,.slice none 0 0,.slice none 0 0,.slice none 0 0,.slice none 0 0,.slice none 0 0,.slice none 0 0,.int .i64 0]) 168 rfl Try.underlying24 infoComp rfl (by decide) (by decide) (.slice pC p.comps.length cC) p.comps q.1 [.string q.1.name,.slice p1 q.1.bases.length c1,.slice p2 q.1.body.types.length c2,.slice p3 q.1.body.decls.length c3,.slice p4 q.1.body.comps.length c4,.slice p5 q.1.body.inits.length c5,.slice p6 q.1.body.clauses.length c6,.int .i64 q.1.at_] (Off (w.heap.size+2) [(.slice pT p.types.length cT),(.slice pD p.decls.length cD),(.slice pI p.inits.length cI),(.slice pL p.clauses.length cL)]) (fun b=>w19.drew.heap.size≤b) ?a1 ?a2 HM.out ?hok ?aF ?aO (Below.refl _ _) ?aS ?aL ?_
                     (try (case a1=>rfl))
                     (try (case a2=>first|rfl|(rw[set_size];rfl)))
                     (case hok=>exact fun b hb=>⟨HRW.out.off HN0.out _ (by simp) b (Nat.le_trans HWR.out hb),fun e=>HRW.out.newer b (Nat.le_trans HWR.out hb) _ (by simp) e.symm⟩)
                     (case aF=>exact fun b hb=>HRW.out.off HN0.out _ (by simp) b (by (try rw[set_size] at hb);omega))
                     (case aO=>exact HRM.out.c)
                     (case aS=>(try rw[set_size]);have:=HN0.out;omega)
                     (case aL=>(have:=HLK.out;have:=HK.out;omega))
                     intro v1 wn ho hb hgr hat
                     obtain⟨p9,c9,rfl⟩:=Kd.R_slice ho
                     have HRN:=Lib.hid (HRM.out.addC (x:=q.1) ho hgr hat)
                     have hOW:∀ X,(Value.ownBlock (.slice pC p.comps.length cC))=some X→w.heap.size+2≤X:=fun X hX=>HRW.out.own _ (by simp) X hX
                     have hBx:=HBx_21.out.grown hgr (fun e=>by have:=hOW _ e.symm;omega)
                     have hBy:=HBy_21.out.grown hgr (fun e=>by have:=hOW _ e.symm;omega)
                     have hS2:=RS.row_ H21.out hgr (fun X hX=>HX.out X (by have:=hOW X hX;omega))
                     have HG2:=Lib.hid (grown_row (grown_then HG.out G21.out) hgr (fun X hX=>by have:=hOW X hX;omega))
                     have HBx_n:=Lib.hid hBx
                     have HBy_n:=Lib.hid hBy
                     have HS2:=Lib.hid hS2
                     obtain⟨_,_,e2,_,_,_⟩:=hS2.cells
                     have fe2:=hS2.blk.frozen 2
                     have hgn:g<wn.heap.size:=hS2.blk.lt
                     have qcx:=five_cells hBx
                     have qfx:=five_frozen hBx
                     have qcy:=five_cells hBy
                     have qfy:=five_frozen hBy
                     have hltx_n:w.heap.size<wn.heap.size:=hBx.lt
                     have hlty_n:w.heap.size+1<wn.heap.size:=hBy.lt
                     clear ho hb hgr hat hBx hBy hS2 hOW G21 H21 HBx_21 HBy_21)
                  | (go_simp;go_wp2_with (first
                        | (go_at_call 48;(with_reducible refine (HIH.out k1 (by have:=HKQ.out;omega) _ _ _ _ q _ H20.out HQ.out).mono ?_);rintro e w21 ⟨vb,uT,uD,uC,uI,uL,rfl,hkb,hR,hr,hb⟩
                           obtain⟨p1,c1,rfl⟩:=Kd.R_slice hkb
                           obtain⟨p2,c2,rfl⟩:=Kd.R_slice hR.t
                           obtain⟨p3,c3,rfl⟩:=Kd.R_slice hR.d
                           obtain⟨p4,c4,rfl⟩:=Kd.R_slice hR.c
                           obtain⟨p5,c5,rfl⟩:=Kd.R_slice hR.i
                           obtain⟨p6,c6,rfl⟩:=Kd.R_slice hR.l
                           have hq:∀ (os:List Value) (b:Nat),Off w19.drew.heap.size os b→w19.drew.heap.size≤b:=fun os b hb=>hb.1
                           have HM:=Lib.hid (kComp.M_lower (Nat.le_trans HN0.out HWR.out) (kComp_mkM _ _ _ q.1 hkb (Kd.R_mono hR.t (hq _)) (Kd.R_mono hR.d (hq _)) (Kd.R_mono hR.c (hq _)) (Kd.R_mono hR.i (hq _)) (Kd.R_mono hR.l (hq _))))
                           clear hkb hR hq
                           obtain⟨H21,G21,hrl_21⟩:=st_go hr G20.out hb
                           obtain⟨HBx_21,qcx,qfx,hltx_21⟩:=s5_go HBx_20 hb (by omega)
                           obtain⟨HBy_21,qcy,qfy,hlty_21⟩:=s5_go HBy_20 hb (by omega)
                           clear hr hb H20 G20 HBx_20 HBy_20))))
            all_goals go_wp2
            all_goals go_roundg k1
            all_goals first
             | omega
             | exact Lib.hid ⟨_,_,pT,cT,pD,cD,p9,c9,pI,cI,pL,cL,Nat.le_of_lt (Nat.lt_of_succ_le HKQ.out),HL1.out,(HRN.out.far (Nat.lt_succ_self _) 2 _).far (show g<w.heap.size+2 by omega) 2 _,RS.set (st':=leave q.2) (RS.other HS2.out (HX.out _ (Nat.le_succ w.heap.size)) 2 (.slice p9 (p.comps.length+1) c9)) 2 (.int .i64 (wrap64 (q.2.deep - 1))) rfl HS2.out.lt,grown_g (grown_new HG2.out (Nat.le_succ _) 2 _) 2 _,(HBx_n.out.far (p:=⟨w.heap.size+1,2,none⟩) (Nat.ne_of_lt (Nat.lt_succ_self _)) _).far (p:=⟨g,2,none⟩) (show w.heap.size≠g by omega) _,by show Blk _ _ _ _;simp only[addC,List.length_append,List.length_cons,List.length_nil];exact (HBy_n.out.set_ 2 _).far (p:=⟨g,2,none⟩) (show w.heap.size+1≠g by omega) _,by rw[set_size,set_size];exact hlty_n,by have:=HLK.out;simp only[addC];(try rw[List.length_append]);(try simp only[List.length_cons,List.length_nil]);omega,by have:=HLK.out;simp only[addC];(try rw[List.length_append]);(try simp only[List.length_cons,List.length_nil]);omega,by have:=HLK.out;simp only[addC];(try rw[List.length_append]);(try simp only[List.length_cons,List.length_nil]);omega,by have:=HLK.out;simp only[addC];(try rw[List.length_append]);(try simp only[List.length_cons,List.length_nil]);omega,by have:=HLK.out;simp only[addC];(try rw[List.length_append]);(try simp only[List.length_cons,List.length_nil]);omega⟩
          rw[if_neg t3] at hL
          have t3:sign ts kwComp s1=false:=by simpa using t3
          have t3k:sign ts (ByteArray.mk #[46,99,111,109,112]).data.toList s1=false:=t3
          by_cases t4:(may ts kwInit s1).1=true
          · rw[if_pos t4] at hL
            have HL1:=Lib.hid hL
            clear hL
            have t4k:(may ts (ByteArray.mk #[46,105,110,105,116]).data.toList s1).1=true:=t4
            clear t4
            go_wp2_with (first
                  | (go_at_call 17;(with_reducible refine (well_is _ _ _ _ _ true hw H10.out).mono ?_);rintro e w' ⟨rfl,rfl⟩)
                  | (go_at_call 15;(with_reducible refine (now_any _ _ _ _ _ H10.out).mono ?_);rintro e w11 ⟨rfl,hl⟩
                     have hb:=grown_below hl g
                     have hr:=(H10.out).below hl
                     obtain⟨H11,G11,hrl_11⟩:=st_go hr G10.out hb
                     obtain⟨HBx_11,qcx,qfx,hltx_11⟩:=s5_go HBx_10 hb (by omega)
                     obtain⟨HBy_11,qcy,qfy,hlty_11⟩:=s5_go HBy_10 hb (by omega)
                     clear hr hb hl H10 G10 HBx_10 HBy_10)
                  | (go_at_call 42;(with_reducible refine (sign_any _ _ _ _ _ _ H11.out).mono ?_);rintro e w12 ⟨rfl,hl⟩
                     have hb:=grown_below hl g
                     have hr:=(H11.out).below hl
                     obtain⟨H12,G12,hrl_12⟩:=st_go hr G11.out hb
                     obtain⟨HBx_12,qcx,qfx,hltx_12⟩:=s5_go HBx_11 hb (by omega)
                     obtain⟨HBy_12,qcy,qfy,hlty_12⟩:=s5_go HBy_11 hb (by omega)
                     obtain⟨_,_,_,c3,_,_⟩:=hr.cells
                     have f3:=hr.blk.frozen 3
                     clear hr hb hl H11 G11 HBx_11 HBy_11)
                  | (go_at_call 16;(with_reducible refine (fails_any _ _ _ _ _ _ (RS.set H12.out 3 (.int .i64 (wrap64 (s.items+1))) (st':={ s with items:=wrap64 (s.items+1) }) rfl H12.out.lt)).mono ?_);rintro e w13 ⟨rfl,hr,hb⟩
                     rw[HI.out] at hr
                     obtain⟨H13,G13,hrl_13⟩:=st_go hr (grown_g G12.out 3 (.int .i64 (wrap64 (s.items+1)))) hb
                     obtain⟨HBx_13,qcx,qfx,hltx_13⟩:=s5_go (Lib.hid (HBx_12.out.far (p:=⟨g,3,none⟩) (show w.heap.size≠g by omega) (.int .i64 (wrap64 (s.items+1))))) hb (by omega)
                     obtain⟨HBy_13,qcy,qfy,hlty_13⟩:=s5_go (Lib.hid (HBy_12.out.far (p:=⟨g,3,none⟩) (show w.heap.size+1≠g by omega) (.int .i64 (wrap64 (s.items+1))))) hb (by omega)
                     clear hr hb H12 G12 HBx_12 HBy_12)
                  | (go_at_call 15;(with_reducible refine (now_any _ _ _ _ _ H13.out).mono ?_);rintro e w14 ⟨rfl,hl⟩
                     have hb:=grown_below hl g
                     have hr:=(H13.out).below hl
                     obtain⟨H14,G14,hrl_14⟩:=st_go hr G13.out hb
                     obtain⟨HBx_14,qcx,qfx,hltx_14⟩:=s5_go HBx_13 hb (by omega)
                     obtain⟨HBy_14,qcy,qfy,hlty_14⟩:=s5_go HBy_13 hb (by omega)
                     clear hr hb hl H13 G13 HBx_13 HBy_13)
                  | (go_at_call 43;(with_reducible refine (may_any _ _ _ _ _ _ H14.out).mono ?_);rintro e w15 ⟨rfl,hr,hb⟩
                     rw[may_same t1k] at hr
                     obtain⟨H15,G15,hrl_15⟩:=st_go hr G14.out hb
                     obtain⟨HBx_15,qcx,qfx,hltx_15⟩:=s5_go HBx_14 hb (by omega)
                     obtain⟨HBy_15,qcy,qfy,hlty_15⟩:=s5_go HBy_14 hb (by omega)
                     clear hr hb H14 G14 HBx_14 HBy_14)
                  | (go_at_call 43;(with_reducible refine (may_any _ _ _ _ _ _ H15.out).mono ?_);rintro e w16 ⟨rfl,hr,hb⟩
                     rw[may_same t2k] at hr
                     obtain⟨H16,G16,hrl_16⟩:=st_go hr G15.out hb
                     obtain⟨HBx_16,qcx,qfx,hltx_16⟩:=s5_go HBx_15 hb (by omega)
                     obtain⟨HBy_16,qcy,qfy,hlty_16⟩:=s5_go HBy_15 hb (by omega)
                     clear hr hb H15 G15 HBx_15 HBy_15)
                  | (go_at_call 42;(with_reducible refine (sign_any _ _ _ _ _ _ H16.out).mono ?_);rintro e w17 ⟨rfl,hl⟩
                     have hb:=grown_below hl g
                     have hr:=(H16.out).below hl
                     obtain⟨H17,G17,hrl_17⟩:=st_go hr G16.out hb
                     obtain⟨HBx_17,qcx,qfx,hltx_17⟩:=s5_go HBx_16 hb (by omega)
                     obtain⟨HBy_17,qcy,qfy,hlty_17⟩:=s5_go HBy_16 hb (by omega)
                     clear hr hb hl H16 G16 HBx_16 HBy_16)
                  | (go_at_call 43;(with_reducible refine (may_any _ _ _ _ _ _ H17.out).mono ?_);rintro e w18 ⟨rfl,hr,hb⟩
                     obtain⟨H18,G18,hrl_18⟩:=st_go hr G17.out hb
                     obtain⟨HBx_18,qcx,qfx,hltx_18⟩:=s5_go HBx_17 hb (by omega)
                     obtain⟨HBy_18,qcy,qfy,hlty_18⟩:=s5_go HBy_17 hb (by omega)
                     clear hr hb H17 G17 HBx_17 HBy_17)
                  | (go_at_call 49;(with_reducible refine (word_any _ _ _ _ _ H18.out).mono ?_);rintro e w19 ⟨rfl,hr,hb⟩
                     obtain⟨H19,G19,hrl_19⟩:=st_goA (.cells #[.string (word ts (may ts (ByteArray.mk #[46,105,110,105,116]).data.toList s1).2).1,.string ⟨#[]⟩,.int .i64 ((cur ts s1).at_:Int)] 48) hr G18.out hb
                     obtain⟨HBx_19,qcx,qfx,hltx_19⟩:=s5_goA (.cells #[.string (word ts (may ts (ByteArray.mk #[46,105,110,105,116]).data.toList s1).2).1,.string ⟨#[]⟩,.int .i64 ((cur ts s1).at_:Int)] 48) HBx_18 hb (by omega)
                     obtain⟨HBy_19,qcy,qfy,hlty_19⟩:=s5_goA (.cells #[.string (word ts (may ts (ByteArray.mk #[46,105,110,105,116]).data.toList s1).2).1,.string ⟨#[]⟩,.int .i64 ((cur ts s1).at_:Int)] 48) HBy_18 hb (by omega)
                     have HBz_19:=Lib.hid (Blk.new w19 48 #[.string (word ts (may ts (ByteArray.mk #[46,105,110,105,116]).data.toList s1).2).1,.string ⟨#[]⟩,.int .i64 ((cur ts s1).at_:Int)])
                     have GXC:Hid (wr.heap.size≤w19.heap.size):=Lib.hid (grown_then G18.out hb).size
                     clear hr hb H18 G18 HBx_18 HBy_18)
                  | (go_at_call 50;(with_reducible refine (must_any _ _ _ _ _ _ H19.out).mono ?_);rintro e w20 ⟨rfl,hr,hb⟩
                     obtain⟨H20,G20,hrl_20⟩:=st_go hr G19.out hb
                     obtain⟨HBx_20,qcx,qfx,hltx_20⟩:=s5_go HBx_19 hb (by omega)
                     obtain⟨HBy_20,qcy,qfy,hlty_20⟩:=s5_go HBy_19 hb (by omega)
                     obtain⟨HBz_20,qcz,qfz,hltz_20⟩:=s3_go HBz_19 hb (by omega)
                     clear hr hb H19 G19 HBx_19 HBy_19 HBz_19)
                  | (go_at_call 51;(with_reducible refine (name_any _ _ _ _ _ H20.out).mono ?_);rintro e w21 ⟨rfl,hr,hb⟩
                     obtain⟨H21,G21,hrl_21⟩:=st_go hr G20.out hb
                     obtain⟨HBx_21,qcx,qfx,hltx_21⟩:=s5_go HBx_20 hb (by omega)
                     obtain⟨HBy_21,qcy,qfy,hlty_21⟩:=s5_go HBy_20 hb (by omega)
                     obtain⟨HBz_21,qcz,qfz,hltz_21⟩:=s3_go HBz_20 hb (by omega)
                     clear hr hb H20 G20 HBx_20 HBy_20 HBz_20)
                  | ((with_reducible refine gate_builtin (b:=.append) (xs:=#[.tmp 101,.tmp 103]) rfl ?_);at_builtin
                     have HRM:=Lib.hid (rows_ready HRW.out hgN G21.out GXC.out 1 (.string (name ts (must ts (ByteArray.mk #[61]).data.toList (word ts (may ts (ByteArray.mk #[46,105,110,105,116]).data.toList s1).2).2)).1))
                     have hwm:wr.heap.size≤w21.heap.size:=G21.out.size
                     have hn0:=HN0.out
                     have hxw:wr.heap.size≤w19.heap.size:=GXC.out
                     refine Kd.R_append kInit (w.heap.size+2) rfl (.tmp 101) (.tmp 103) 25 48 (.agg #[.string ⟨#[]⟩,.string ⟨#[]⟩,.int .i64 0]) 40 rfl Try.underlying25 infoInit rfl (by decide) (by decide) (.slice pI p.inits.length cI) p.inits (initOf ts (cur ts s1).at_ (may ts (ByteArray.mk #[46,105,110,105,116]).data.toList s1).2).1 [.string (word ts (may ts (ByteArray.mk #[46,105,110,105,116]).data.toList s1).2).1,.string (name ts (must ts (ByteArray.mk #[61]).data.toList (word ts (may ts (ByteArray.mk #[46,105,110,105,116]).data.toList s1).2).2)).1,.int .i64 ((cur ts s1).at_:Int)] (Off (w.heap.size+2) [(.slice pT p.types.length cT),(.slice pD p.decls.length cD),(.slice pC p.comps.length cC),(.slice pL p.clauses.length cL)]) (fun b=>w19.heap.size≤b) ?a1 ?a2 (kInit_mkM _ _ _ (initOf ts (cur ts s1).at_ (may ts (ByteArray.mk #[46,105,110,105,116]).data.toList s1).2).1) ?hok ?aF ?aO (Below.refl _ _) ?aS ?aL ?_
                     (try (case a1=>rfl))
                     (try (case a2=>first|rfl|(rw[set_size];rfl)))
                     (case hok=>exact fun b hb=>⟨HRW.out.off HN0.out _ (by simp) b (Nat.le_trans GXC.out hb),fun e=>HRW.out.newer b (Nat.le_trans GXC.out hb) _ (by simp) e.symm⟩)
                     (case aF=>exact fun b hb=>HRW.out.off HN0.out _ (by simp) b (by (try rw[set_size] at hb);omega))
                     (case aO=>exact HRM.out.i)
                     (case aS=>(try rw[set_size]);have:=HN0.out;omega)
                     (case aL=>(have:=HLK.out;have:=HK.out;omega))
                     intro v1 wn ho hb hgr hat
                     obtain⟨p9,c9,rfl⟩:=Kd.R_slice ho
                     have HRN:=Lib.hid (HRM.out.addI (x:=(initOf ts (cur ts s1).at_ (may ts (ByteArray.mk #[46,105,110,105,116]).data.toList s1).2).1) ho hgr hat)
                     have hOW:∀ X,(Value.ownBlock (.slice pI p.inits.length cI))=some X→w.heap.size+2≤X:=fun X hX=>HRW.out.own _ (by simp) X hX
                     have hBx:=(HBx_21.out.far (p:=⟨w19.heap.size,1,none⟩) (show w.heap.size≠w19.heap.size by omega) (.string (name ts (must ts (ByteArray.mk #[61]).data.toList (word ts (may ts (ByteArray.mk #[46,105,110,105,116]).data.toList s1).2).2)).1)).grown hgr (fun e=>by have:=hOW _ e.symm;omega)
                     have hBy:=(HBy_21.out.far (p:=⟨w19.heap.size,1,none⟩) (show w.heap.size+1≠w19.heap.size by omega) (.string (name ts (must ts (ByteArray.mk #[61]).data.toList (word ts (may ts (ByteArray.mk #[46,105,110,105,116]).data.toList s1).2).2)).1)).grown hgr (fun e=>by have:=hOW _ e.symm;omega)
                     have hS2:=RS.row_ (RS.other H21.out (HX.out _ (by omega)) 1 (.string (name ts (must ts (ByteArray.mk #[61]).data.toList (word ts (may ts (ByteArray.mk #[46,105,110,105,116]).data.toList s1).2).2)).1)) hgr (fun X hX=>HX.out X (by have:=hOW X hX;omega))
                     have HG2:=Lib.hid (grown_row (grown_new (grown_then HG.out G21.out) (show w.heap.size≤w19.heap.size by omega) 1 (.string (name ts (must ts (ByteArray.mk #[61]).data.toList (word ts (may ts (ByteArray.mk #[46,105,110,105,116]).data.toList s1).2).2)).1)) hgr (fun X hX=>by have:=hOW X hX;omega))
                     have HBx_n:=Lib.hid hBx
                     have HBy_n:=Lib.hid hBy
                     have HS2:=Lib.hid hS2
                     obtain⟨_,_,e2,_,_,_⟩:=hS2.cells
                     have fe2:=hS2.blk.frozen 2
                     have hgn:g<wn.heap.size:=hS2.blk.lt
                     have qcx:=five_cells hBx
                     have qfx:=five_frozen hBx
                     have qcy:=five_cells hBy
                     have qfy:=five_frozen hBy
                     have hltx_n:w.heap.size<wn.heap.size:=hBx.lt
                     have hlty_n:w.heap.size+1<wn.heap.size:=hBy.lt
                     clear ho hb hgr hat hBx hBy hS2 hOW G21 H21 HBx_21 HBy_21))
            go_roundg k1
            case measure=>omega
            case rel=>exact Lib.hid ⟨_,_,pT,cT,pD,cD,pC,cC,p9,c9,pL,cL,Nat.le_of_lt (Nat.lt_of_succ_le HKQ.out),HL1.out,HRN.out.far (Nat.lt_succ_self _) 3 _,RS.other HS2.out (HX.out _ (Nat.le_succ _)) 3 _,grown_new HG2.out (Nat.le_succ _) 3 _,HBx_n.out.far (p:=⟨w.heap.size+1,3,none⟩) (Nat.ne_of_lt (Nat.lt_succ_self _)) _,by show Blk _ _ _ _;simp only[addI,List.length_append,List.length_cons,List.length_nil];exact HBy_n.out.set_ 3 _,by rw[set_size];exact hlty_n,by have:=HLK.out;simp only[addI];(try rw[List.length_append]);(try simp only[List.length_cons,List.length_nil]);omega,by have:=HLK.out;simp only[addI];(try rw[List.length_append]);(try simp only[List.length_cons,List.length_nil]);omega,by have:=HLK.out;simp only[addI];(try rw[List.length_append]);(try simp only[List.length_cons,List.length_nil]);omega,by have:=HLK.out;simp only[addI];(try rw[List.length_append]);(try simp only[List.length_cons,List.length_nil]);omega,by have:=HLK.out;simp only[addI];(try rw[List.length_append]);(try simp only[List.length_cons,List.length_nil]);omega⟩
          rw[if_neg t4] at hL
          have t4:(may ts kwInit s1).1=false:=by simpa using t4
          have t4k:(may ts (ByteArray.mk #[46,105,110,105,116]).data.toList s1).1=false:=t4
          obtain⟨q,hq,hL⟩:=Option.bind_eq_some_iff.1 hL
          have HL1:=Lib.hid hL
          have HQ:=Lib.hid hq
          clear hL hq
          go_wp2_with (first
                | (go_at_call 17;(with_reducible refine (well_is _ _ _ _ _ true hw H10.out).mono ?_);rintro e w' ⟨rfl,rfl⟩)
                | (go_at_call 15;(with_reducible refine (now_any _ _ _ _ _ H10.out).mono ?_);rintro e w11 ⟨rfl,hl⟩
                   have hb:=grown_below hl g
                   have hr:=(H10.out).below hl
                   obtain⟨H11,G11,hrl_11⟩:=st_go hr G10.out hb
                   obtain⟨HBx_11,qcx,qfx,hltx_11⟩:=s5_go HBx_10 hb (by omega)
                   obtain⟨HBy_11,qcy,qfy,hlty_11⟩:=s5_go HBy_10 hb (by omega)
                   clear hr hb hl H10 G10 HBx_10 HBy_10)
                | (go_at_call 42;(with_reducible refine (sign_any _ _ _ _ _ _ H11.out).mono ?_);rintro e w12 ⟨rfl,hl⟩
                   have hb:=grown_below hl g
                   have hr:=(H11.out).below hl
                   obtain⟨H12,G12,hrl_12⟩:=st_go hr G11.out hb
                   obtain⟨HBx_12,qcx,qfx,hltx_12⟩:=s5_go HBx_11 hb (by omega)
                   obtain⟨HBy_12,qcy,qfy,hlty_12⟩:=s5_go HBy_11 hb (by omega)
                   obtain⟨_,_,_,c3,_,_⟩:=hr.cells
                   have f3:=hr.blk.frozen 3
                   clear hr hb hl H11 G11 HBx_11 HBy_11)
                | (go_at_call 16;(with_reducible refine (fails_any _ _ _ _ _ _ (RS.set H12.out 3 (.int .i64 (wrap64 (s.items+1))) (st':={ s with items:=wrap64 (s.items+1) }) rfl H12.out.lt)).mono ?_);rintro e w13 ⟨rfl,hr,hb⟩
                   rw[HI.out] at hr
                   obtain⟨H13,G13,hrl_13⟩:=st_go hr (grown_g G12.out 3 (.int .i64 (wrap64 (s.items+1)))) hb
                   obtain⟨HBx_13,qcx,qfx,hltx_13⟩:=s5_go (Lib.hid (HBx_12.out.far (p:=⟨g,3,none⟩) (show w.heap.size≠g by omega) (.int .i64 (wrap64 (s.items+1))))) hb (by omega)
                   obtain⟨HBy_13,qcy,qfy,hlty_13⟩:=s5_go (Lib.hid (HBy_12.out.far (p:=⟨g,3,none⟩) (show w.heap.size+1≠g by omega) (.int .i64 (wrap64 (s.items+1))))) hb (by omega)
                   clear hr hb H12 G12 HBx_12 HBy_12)
                | (go_at_call 15;(with_reducible refine (now_any _ _ _ _ _ H13.out).mono ?_);rintro e w14 ⟨rfl,hl⟩
                   have hb:=grown_below hl g
                   have hr:=(H13.out).below hl
                   obtain⟨H14,G14,hrl_14⟩:=st_go hr G13.out hb
                   obtain⟨HBx_14,qcx,qfx,hltx_14⟩:=s5_go HBx_13 hb (by omega)
                   obtain⟨HBy_14,qcy,qfy,hlty_14⟩:=s5_go HBy_13 hb (by omega)
                   clear hr hb hl H13 G13 HBx_13 HBy_13)
                | (go_at_call 43;(with_reducible refine (may_any _ _ _ _ _ _ H14.out).mono ?_);rintro e w15 ⟨rfl,hr,hb⟩
                   rw[may_same t1k] at hr
                   obtain⟨H15,G15,hrl_15⟩:=st_go hr G14.out hb
                   obtain⟨HBx_15,qcx,qfx,hltx_15⟩:=s5_go HBx_14 hb (by omega)
                   obtain⟨HBy_15,qcy,qfy,hlty_15⟩:=s5_go HBy_14 hb (by omega)
                   clear hr hb H14 G14 HBx_14 HBy_14)
                | (go_at_call 43;(with_reducible refine (may_any _ _ _ _ _ _ H15.out).mono ?_);rintro e w16 ⟨rfl,hr,hb⟩
                   rw[may_same t2k] at hr
                   obtain⟨H16,G16,hrl_16⟩:=st_go hr G15.out hb
                   obtain⟨HBx_16,qcx,qfx,hltx_16⟩:=s5_go HBx_15 hb (by omega)
                   obtain⟨HBy_16,qcy,qfy,hlty_16⟩:=s5_go HBy_15 hb (by omega)
                   clear hr hb H15 G15 HBx_15 HBy_15)
                | (go_at_call 42;(with_reducible refine (sign_any _ _ _ _ _ _ H16.out).mono ?_);rintro e w17 ⟨rfl,hl⟩
                   have hb:=grown_below hl g
                   have hr:=(H16.out).below hl
                   obtain⟨H17,G17,hrl_17⟩:=st_go hr G16.out hb
                   obtain⟨HBx_17,qcx,qfx,hltx_17⟩:=s5_go HBx_16 hb (by omega)
                   obtain⟨HBy_17,qcy,qfy,hlty_17⟩:=s5_go HBy_16 hb (by omega)
                   clear hr hb hl H16 G16 HBx_16 HBy_16)
                | (go_at_call 43;(with_reducible refine (may_any _ _ _ _ _ _ H17.out).mono ?_);rintro e w18 ⟨rfl,hr,hb⟩
                   rw[may_same t4k] at hr
                   obtain⟨H18,G18,hrl_18⟩:=st_go hr G17.out hb
                   obtain⟨HBx_18,qcx,qfx,hltx_18⟩:=s5_go HBx_17 hb (by omega)
                   obtain⟨HBy_18,qcy,qfy,hlty_18⟩:=s5_go HBy_17 hb (by omega)
                   clear hr hb H17 G17 HBx_17 HBy_17))
          have hd:Below w18.heap.size w18 w18.drew:=(Below.refl _ _).drew
          have H19:=Lib.hid (H18.out.below hd)
          have G19:=Lib.hid (grown_then G18.out (grown_below hd g))
          have HBx_19:=Lib.hid HBx_18.out.drew
          have HBy_19:=Lib.hid HBy_18.out.drew
          have HWR:Hid (wr.heap.size≤w18.drew.heap.size):=Lib.hid G19.out.size
          clear hd H18 G18 HBx_18 HBy_18
          go_region_law (first
                | (have HRM:=Lib.hid (HRW.out.grown hgN G20.out)
                   have hwm:wr.heap.size≤w20.heap.size:=G20.out.size
                   refine Kd.R_append_step kClause (w.heap.size+2) (by rfl) (.tmp 38) (.tmp 41) 26 54 (.agg #[.string ⟨#[]⟩,.slice none 0 0,.int .i64 0,.slice none 0 0,.int .i64 0]) 80 rfl Try.underlying26 infoClause rfl (by decide) (by decide) (.slice pL p.clauses.length cL) p.clauses q.1 [.string q.1.head.rel,.slice p1 q.1.head.args.length c1,.int .i64 q.1.head.at_,.slice p2 q.1.body.length c2,.int .i64 q.1.at_] (Off (w.heap.size+2) [(.slice pT p.types.length cT),(.slice pD p.decls.length cD),(.slice pC p.comps.length cC),(.slice pI p.inits.length cI)]) (fun b=>w18.drew.heap.size≤b) ?a1 ?a2 HM.out ?hok ?aF ?aO (Below.refl _ _) ?aS ?aL ?_
                   (try (case a1=>rfl))
                   (try (case a2=>first|rfl|(rw[set_size];rfl)))
                   (case hok=>exact fun b hb=>⟨HRW.out.off HN0.out _ (by simp) b (Nat.le_trans HWR.out hb),fun e=>HRW.out.newer b (Nat.le_trans HWR.out hb) _ (by simp) e.symm⟩)
                   (case aF=>exact fun b hb=>HRW.out.off HN0.out _ (by simp) b (by (try rw[set_size] at hb);omega))
                   (case aO=>exact HRM.out.l)
                   (case aS=>(try rw[set_size]);have:=HN0.out;omega)
                   (case aL=>(have:=HLK.out;have:=HK.out;omega))
                   intro v1 wn ho hb hgr hat
                   obtain⟨p9,c9,rfl⟩:=Kd.R_slice ho
                   have HRN:=Lib.hid (HRM.out.addCl (x:=q.1) ho hgr hat)
                   have hOW:∀ X,(Value.ownBlock (.slice pL p.clauses.length cL))=some X→w.heap.size+2≤X:=fun X hX=>HRW.out.own _ (by simp) X hX
                   have hBx:=HBx_20.out.grown hgr (fun e=>by have:=hOW _ e.symm;omega)
                   have hBy:=HBy_20.out.grown hgr (fun e=>by have:=hOW _ e.symm;omega)
                   have hS2:=RS.row_ H20.out hgr (fun X hX=>HX.out X (by have:=hOW X hX;omega))
                   have HG2:=Lib.hid (grown_row (grown_then HG.out G20.out) hgr (fun X hX=>by have:=hOW X hX;omega))
                   have HBx_n:=Lib.hid hBx
                   have HBy_n:=Lib.hid hBy
                   have HS2:=Lib.hid hS2
                   obtain⟨_,_,e2,_,_,_⟩:=hS2.cells
                   have fe2:=hS2.blk.frozen 2
                   have hgn:g<wn.heap.size:=hS2.blk.lt
                   have qcx:=five_cells hBx
                   have qfx:=five_frozen hBx
                   have qcy:=five_cells hBy
                   have qfy:=five_frozen hBy
                   have hltx_n:w.heap.size<wn.heap.size:=hBx.lt
                   have hlty_n:w.heap.size+1<wn.heap.size:=hBy.lt
                   clear ho hb hgr hat hBx hBy hS2 hOW G20 H20 HBx_20 HBy_20)
                | (go_simp;go_wp2_with (first
                      | (go_at_call 52;(with_reducible refine (RefProgS.clause_any ts k1 (by have:=HKQ.out;have:=HK.out;omega) _ _ _ _ q H19.out HQ.out).mono ?_);rintro e w20 ⟨va,vb,rfl,hka,hkb,hne,hr,hb⟩
                         obtain⟨p1,c1,rfl⟩:=Kd.R_slice hka
                         obtain⟨p2,c2,rfl⟩:=Kd.R_slice hkb
                         have HM:=Lib.hid (kClause.M_lower (Nat.le_trans HN0.out HWR.out) (kClause_mkM _ _ _ q.1 hka hkb))
                         clear hka hkb hne
                         obtain⟨H20,G20,hrl_20⟩:=st_go hr G19.out hb
                         obtain⟨HBx_20,qcx,qfx,hltx_20⟩:=s5_go HBx_19 hb (by omega)
                         obtain⟨HBy_20,qcy,qfy,hlty_20⟩:=s5_go HBy_19 hb (by omega)
                         clear hr hb H19 G19 HBx_19 HBy_19))))
          all_goals go_wp2
          all_goals go_roundg k1
          all_goals first
           | omega
           | exact Lib.hid ⟨_,_,pT,cT,pD,cD,pC,cC,pI,cI,p9,c9,Nat.le_of_lt (Nat.lt_of_succ_le HKQ.out),HL1.out,HRN.out.far (Nat.lt_succ_self _) 4 _,RS.other HS2.out (HX.out _ (Nat.le_succ _)) 4 _,grown_new HG2.out (Nat.le_succ _) 4 _,HBx_n.out.far (p:=⟨w.heap.size+1,4,none⟩) (Nat.ne_of_lt (Nat.lt_succ_self _)) _,by show Blk _ _ _ _;simp only[addCl,List.length_append,List.length_cons,List.length_nil];exact HBy_n.out.set_ 4 _,by rw[set_size];exact hlty_n,by have:=HLK.out;simp only[addCl];(try rw[List.length_append]);(try simp only[List.length_cons,List.length_nil]);omega,by have:=HLK.out;simp only[addCl];(try rw[List.length_append]);(try simp only[List.length_cons,List.length_nil]);omega,by have:=HLK.out;simp only[addCl];(try rw[List.length_append]);(try simp only[List.length_cons,List.length_nil]);omega,by have:=HLK.out;simp only[addCl];(try rw[List.length_append]);(try simp only[List.length_cons,List.length_nil]);omega,by have:=HLK.out;simp only[addCl];(try rw[List.length_append]);(try simp only[List.length_cons,List.length_nil]);omega⟩
        · have hIb:decide (96<wrap64 (s.items+1))=false:=decide_eq_false hI
          have HI:Hid ({ s with items:=wrap64 (s.items+1) }=s1):=Lib.hid (by rw[← hs1];unfold item;rw[if_neg hI])
          clear hI hs1
          by_cases t1:(may ts kwType s1).1=true
          · rw[if_pos t1] at hL
            obtain⟨q,hq,hL⟩:=Option.bind_eq_some_iff.1 hL
            have HL1:=Lib.hid hL
            have HQ:=Lib.hid hq
            clear hL hq
            have t1k:(may ts (ByteArray.mk #[46,116,121,112,101]).data.toList s1).1=true:=t1
            clear t1
            go_wp2_with (first
                  | (go_at_call 17;(with_reducible refine (well_is _ _ _ _ _ true hw H10.out).mono ?_);rintro e w' ⟨rfl,rfl⟩)
                  | (go_at_call 15;(with_reducible refine (now_any _ _ _ _ _ H10.out).mono ?_);rintro e w11 ⟨rfl,hl⟩
                     have hb:=grown_below hl g
                     have hr:=(H10.out).below hl
                     obtain⟨H11,G11,hrl_11⟩:=st_go hr G10.out hb
                     obtain⟨HBx_11,qcx,qfx,hltx_11⟩:=s5_go HBx_10 hb (by omega)
                     obtain⟨HBy_11,qcy,qfy,hlty_11⟩:=s5_go HBy_10 hb (by omega)
                     clear hr hb hl H10 G10 HBx_10 HBy_10)
                  | (go_at_call 42;(with_reducible refine (sign_any _ _ _ _ _ _ H11.out).mono ?_);rintro e w12 ⟨rfl,hl⟩
                     have hb:=grown_below hl g
                     have hr:=(H11.out).below hl
                     obtain⟨H12,G12,hrl_12⟩:=st_go hr G11.out hb
                     obtain⟨HBx_12,qcx,qfx,hltx_12⟩:=s5_go HBx_11 hb (by omega)
                     obtain⟨HBy_12,qcy,qfy,hlty_12⟩:=s5_go HBy_11 hb (by omega)
                     obtain⟨_,_,_,c3,_,_⟩:=hr.cells
                     have f3:=hr.blk.frozen 3
                     clear hr hb hl H11 G11 HBx_11 HBy_11)
                  | (go_at_call 15;(with_reducible refine (now_any _ _ _ _ _ (HI.out▸RS.set H12.out 3 (.int .i64 (wrap64 (s.items+1))) (st':={ s with items:=wrap64 (s.items+1) }) rfl H12.out.lt)).mono ?_);rintro e w14 ⟨rfl,hl⟩
                     have hb:=grown_below hl g
                     have hr:=((HI.out▸(RS.set H12.out 3 (.int .i64 (wrap64 (s.items+1))) (st':={ s with items:=wrap64 (s.items+1) }) rfl H12.out.lt):RS _ g v ts s1)).below hl
                     obtain⟨H14,G14,hrl_14⟩:=st_go hr (grown_g G12.out 3 (.int .i64 (wrap64 (s.items+1)))) hb
                     obtain⟨HBx_14,qcx,qfx,hltx_14⟩:=s5_go (Lib.hid (HBx_12.out.far (p:=⟨g,3,none⟩) (show w.heap.size≠g by omega) (.int .i64 (wrap64 (s.items+1))))) hb (by omega)
                     obtain⟨HBy_14,qcy,qfy,hlty_14⟩:=s5_go (Lib.hid (HBy_12.out.far (p:=⟨g,3,none⟩) (show w.heap.size+1≠g by omega) (.int .i64 (wrap64 (s.items+1))))) hb (by omega)
                     clear hr hb hl H12 G12 HBx_12 HBy_12)
                  | (go_at_call 43;(with_reducible refine (may_any _ _ _ _ _ _ H14.out).mono ?_);rintro e w15 ⟨rfl,hr,hb⟩
                     obtain⟨H15,G15,hrl_15⟩:=st_go hr G14.out hb
                     obtain⟨HBx_15,qcx,qfx,hltx_15⟩:=s5_go HBx_14 hb (by omega)
                     obtain⟨HBy_15,qcy,qfy,hlty_15⟩:=s5_go HBy_14 hb (by omega)
                     clear hr hb H14 G14 HBx_14 HBy_14))
            have hd:Below w15.heap.size w15 w15.drew:=(Below.refl _ _).drew
            have H16:=Lib.hid (H15.out.below hd)
            have G16:=Lib.hid (grown_then G15.out (grown_below hd g))
            have HBx_16:=Lib.hid HBx_15.out.drew
            have HBy_16:=Lib.hid HBy_15.out.drew
            have HWR:Hid (wr.heap.size≤w15.drew.heap.size):=Lib.hid G16.out.size
            clear hd H15 G15 HBx_15 HBy_15
            go_region_law (first
                  | (have HRM:=Lib.hid (HRW.out.grown hgN G17.out)
                     have hwm:wr.heap.size≤w17.heap.size:=G17.out.size
                     refine Kd.R_append_step kTDecl (w.heap.size+2) (by rfl) (.tmp 48) (.tmp 52) 22 73 (.agg #[.string ⟨#[]⟩,.string ⟨#[]⟩,.slice none 0 0,.int .i64 0]) 64 rfl Try.underlying22 infoTDecl rfl (by decide) (by decide) (.slice pT p.types.length cT) p.types q.1 [.string q.1.name,.string q.1.sub,.slice p1 q.1.ctors.length c1,.int .i64 q.1.at_] (Off (w.heap.size+2) [(.slice pD p.decls.length cD),(.slice pC p.comps.length cC),(.slice pI p.inits.length cI),(.slice pL p.clauses.length cL)]) (fun b=>w15.drew.heap.size≤b) ?a1 ?a2 HM.out ?hok ?aF ?aO (Below.refl _ _) ?aS ?aL ?_
                     (try (case a1=>rfl))
                     (try (case a2=>first|rfl|(rw[set_size];rfl)))
                     (case hok=>exact fun b hb=>⟨HRW.out.off HN0.out _ (by simp) b (Nat.le_trans HWR.out hb),fun e=>HRW.out.newer b (Nat.le_trans HWR.out hb) _ (by simp) e.symm⟩)
                     (case aF=>exact fun b hb=>HRW.out.off HN0.out _ (by simp) b (by (try rw[set_size] at hb);omega))
                     (case aO=>exact HRM.out.t)
                     (case aS=>(try rw[set_size]);have:=HN0.out;omega)
                     (case aL=>(have:=HLK.out;have:=HK.out;omega))
                     intro v1 wn ho hb hgr hat
                     obtain⟨p9,c9,rfl⟩:=Kd.R_slice ho
                     have HRN:=Lib.hid (HRM.out.addT (x:=q.1) ho hgr hat)
                     have hOW:∀ X,(Value.ownBlock (.slice pT p.types.length cT))=some X→w.heap.size+2≤X:=fun X hX=>HRW.out.own _ (by simp) X hX
                     have hBx:=HBx_17.out.grown hgr (fun e=>by have:=hOW _ e.symm;omega)
                     have hBy:=HBy_17.out.grown hgr (fun e=>by have:=hOW _ e.symm;omega)
                     have hS2:=RS.row_ H17.out hgr (fun X hX=>HX.out X (by have:=hOW X hX;omega))
                     have HG2:=Lib.hid (grown_row (grown_then HG.out G17.out) hgr (fun X hX=>by have:=hOW X hX;omega))
                     have HBx_n:=Lib.hid hBx
                     have HBy_n:=Lib.hid hBy
                     have HS2:=Lib.hid hS2
                     obtain⟨_,_,e2,_,_,_⟩:=hS2.cells
                     have fe2:=hS2.blk.frozen 2
                     have hgn:g<wn.heap.size:=hS2.blk.lt
                     have qcx:=five_cells hBx
                     have qfx:=five_frozen hBx
                     have qcy:=five_cells hBy
                     have qfy:=five_frozen hBy
                     have hltx_n:w.heap.size<wn.heap.size:=hBx.lt
                     have hlty_n:w.heap.size+1<wn.heap.size:=hBy.lt
                     clear ho hb hgr hat hBx hBy hS2 hOW G17 H17 HBx_17 HBy_17)
                  | (go_simp;go_wp2_with (first
                        | (go_at_call 44;(with_reducible refine (RefProgS.kind_any ts k1 (by have:=HKQ.out;have:=HK.out;omega) _ _ _ _ _ q H16.out HQ.out).mono ?_);rintro e w17 ⟨vk,rfl,hk,hr,hb⟩
                           obtain⟨p1,c1,rfl⟩:=Kd.R_slice hk
                           have HM:=Lib.hid (kTDecl.M_lower (Nat.le_trans HN0.out HWR.out) (kTDecl_mkM _ _ _ q.1 hk))
                           clear hk
                           obtain⟨H17,G17,hrl_17⟩:=st_go hr G16.out hb
                           obtain⟨HBx_17,qcx,qfx,hltx_17⟩:=s5_go HBx_16 hb (by omega)
                           obtain⟨HBy_17,qcy,qfy,hlty_17⟩:=s5_go HBy_16 hb (by omega)
                           clear hr hb H16 G16 HBx_16 HBy_16))))
            all_goals go_wp2
            all_goals go_roundg k1
            all_goals first
             | omega
             | exact Lib.hid ⟨_,_,p9,c9,pD,cD,pC,cC,pI,cI,pL,cL,Nat.le_of_lt (Nat.lt_of_succ_le HKQ.out),HL1.out,HRN.out.far (Nat.lt_succ_self _) 0 _,RS.other HS2.out (HX.out _ (Nat.le_succ _)) 0 _,grown_new HG2.out (Nat.le_succ _) 0 _,HBx_n.out.far (p:=⟨w.heap.size+1,0,none⟩) (Nat.ne_of_lt (Nat.lt_succ_self _)) _,by show Blk _ _ _ _;simp only[addT,List.length_append,List.length_cons,List.length_nil];exact HBy_n.out.set_ 0 _,by rw[set_size];exact hlty_n,by have:=HLK.out;simp only[addT];(try rw[List.length_append]);(try simp only[List.length_cons,List.length_nil]);omega,by have:=HLK.out;simp only[addT];(try rw[List.length_append]);(try simp only[List.length_cons,List.length_nil]);omega,by have:=HLK.out;simp only[addT];(try rw[List.length_append]);(try simp only[List.length_cons,List.length_nil]);omega,by have:=HLK.out;simp only[addT];(try rw[List.length_append]);(try simp only[List.length_cons,List.length_nil]);omega,by have:=HLK.out;simp only[addT];(try rw[List.length_append]);(try simp only[List.length_cons,List.length_nil]);omega⟩
          rw[if_neg t1] at hL
          have t1:(may ts kwType s1).1=false:=by simpa using t1
          have t1k:(may ts (ByteArray.mk #[46,116,121,112,101]).data.toList s1).1=false:=t1
          by_cases t2:(may ts kwDecl s1).1=true
          · rw[if_pos t2] at hL
            obtain⟨q,hq,hL⟩:=Option.bind_eq_some_iff.1 hL
            have HL1:=Lib.hid hL
            have HQ:=Lib.hid hq
            clear hL hq
            have t2k:(may ts (ByteArray.mk #[46,100,101,99,108]).data.toList s1).1=true:=t2
            clear t2
            go_wp2_with (first
                  | (go_at_call 17;(with_reducible refine (well_is _ _ _ _ _ true hw H10.out).mono ?_);rintro e w' ⟨rfl,rfl⟩)
                  | (go_at_call 15;(with_reducible refine (now_any _ _ _ _ _ H10.out).mono ?_);rintro e w11 ⟨rfl,hl⟩
                     have hb:=grown_below hl g
                     have hr:=(H10.out).below hl
                     obtain⟨H11,G11,hrl_11⟩:=st_go hr G10.out hb
                     obtain⟨HBx_11,qcx,qfx,hltx_11⟩:=s5_go HBx_10 hb (by omega)
                     obtain⟨HBy_11,qcy,qfy,hlty_11⟩:=s5_go HBy_10 hb (by omega)
                     clear hr hb hl H10 G10 HBx_10 HBy_10)
                  | (go_at_call 42;(with_reducible refine (sign_any _ _ _ _ _ _ H11.out).mono ?_);rintro e w12 ⟨rfl,hl⟩
                     have hb:=grown_below hl g
                     have hr:=(H11.out).below hl
                     obtain⟨H12,G12,hrl_12⟩:=st_go hr G11.out hb
                     obtain⟨HBx_12,qcx,qfx,hltx_12⟩:=s5_go HBx_11 hb (by omega)
                     obtain⟨HBy_12,qcy,qfy,hlty_12⟩:=s5_go HBy_11 hb (by omega)
                     obtain⟨_,_,_,c3,_,_⟩:=hr.cells
                     have f3:=hr.blk.frozen 3
                     clear hr hb hl H11 G11 HBx_11 HBy_11)
                  | (go_at_call 15;(with_reducible refine (now_any _ _ _ _ _ (HI.out▸RS.set H12.out 3 (.int .i64 (wrap64 (s.items+1))) (st':={ s with items:=wrap64 (s.items+1) }) rfl H12.out.lt)).mono ?_);rintro e w14 ⟨rfl,hl⟩
                     have hb:=grown_below hl g
                     have hr:=((HI.out▸(RS.set H12.out 3 (.int .i64 (wrap64 (s.items+1))) (st':={ s with items:=wrap64 (s.items+1) }) rfl H12.out.lt):RS _ g v ts s1)).below hl
                     obtain⟨H14,G14,hrl_14⟩:=st_go hr (grown_g G12.out 3 (.int .i64 (wrap64 (s.items+1)))) hb
                     obtain⟨HBx_14,qcx,qfx,hltx_14⟩:=s5_go (Lib.hid (HBx_12.out.far (p:=⟨g,3,none⟩) (show w.heap.size≠g by omega) (.int .i64 (wrap64 (s.items+1))))) hb (by omega)
                     obtain⟨HBy_14,qcy,qfy,hlty_14⟩:=s5_go (Lib.hid (HBy_12.out.far (p:=⟨g,3,none⟩) (show w.heap.size+1≠g by omega) (.int .i64 (wrap64 (s.items+1))))) hb (by omega)
                     clear hr hb hl H12 G12 HBx_12 HBy_12)
                  | (go_at_call 43;(with_reducible refine (may_any _ _ _ _ _ _ H14.out).mono ?_);rintro e w15 ⟨rfl,hr,hb⟩
                     rw[may_same t1k] at hr
                     obtain⟨H15,G15,hrl_15⟩:=st_go hr G14.out hb
                     obtain⟨HBx_15,qcx,qfx,hltx_15⟩:=s5_go HBx_14 hb (by omega)
                     obtain⟨HBy_15,qcy,qfy,hlty_15⟩:=s5_go HBy_14 hb (by omega)
                     clear hr hb H14 G14 HBx_14 HBy_14)
                  | (go_at_call 43;(with_reducible refine (may_any _ _ _ _ _ _ H15.out).mono ?_);rintro e w16 ⟨rfl,hr,hb⟩
                     obtain⟨H16,G16,hrl_16⟩:=st_go hr G15.out hb
                     obtain⟨HBx_16,qcx,qfx,hltx_16⟩:=s5_go HBx_15 hb (by omega)
                     obtain⟨HBy_16,qcy,qfy,hlty_16⟩:=s5_go HBy_15 hb (by omega)
                     clear hr hb H15 G15 HBx_15 HBy_15))
            have hd:Below w16.heap.size w16 w16.drew:=(Below.refl _ _).drew
            have H17:=Lib.hid (H16.out.below hd)
            have G17:=Lib.hid (grown_then G16.out (grown_below hd g))
            have HBx_17:=Lib.hid HBx_16.out.drew
            have HBy_17:=Lib.hid HBy_16.out.drew
            have HWR:Hid (wr.heap.size≤w16.drew.heap.size):=Lib.hid G17.out.size
            clear hd H16 G16 HBx_16 HBy_16
            go_region_law (first
                  | (have HRM:=Lib.hid (HRW.out.grown hgN G18.out)
                     have hwm:wr.heap.size≤w18.heap.size:=G18.out.size
                     refine Kd.R_append_step kDecl (w.heap.size+2) (by rfl) (.tmp 59) (.tmp 63) 23 46 (.agg #[.string ⟨#[]⟩,.slice none 0 0,.bool false,.bool false,.int .i64 0]) 56 rfl Try.underlying23 infoDecl rfl (by decide) (by decide) (.slice pD p.decls.length cD) p.decls q.1 [.string q.1.name,.slice p1 q.1.cols.length c1,.bool q.1.input,.bool q.1.output,.int .i64 q.1.at_] (Off (w.heap.size+2) [(.slice pT p.types.length cT),(.slice pC p.comps.length cC),(.slice pI p.inits.length cI),(.slice pL p.clauses.length cL)]) (fun b=>w16.drew.heap.size≤b) ?a1 ?a2 HM.out ?hok ?aF ?aO (Below.refl _ _) ?aS ?aL ?_
                     (try (case a1=>rfl))
                     (try (case a2=>first|rfl|(rw[set_size];rfl)))
                     (case hok=>exact fun b hb=>⟨HRW.out.off HN0.out _ (by simp) b (Nat.le_trans HWR.out hb),fun e=>HRW.out.newer b (Nat.le_trans HWR.out hb) _ (by simp) e.symm⟩)
                     (case aF=>exact fun b hb=>HRW.out.off HN0.out _ (by simp) b (by (try rw[set_size] at hb);omega))
                     (case aO=>exact HRM.out.d)
                     (case aS=>(try rw[set_size]);have:=HN0.out;omega)
                     (case aL=>(have:=HLK.out;have:=HK.out;omega))
                     intro v1 wn ho hb hgr hat
                     obtain⟨p9,c9,rfl⟩:=Kd.R_slice ho
                     have HRN:=Lib.hid (HRM.out.addD (x:=q.1) ho hgr hat)
                     have hOW:∀ X,(Value.ownBlock (.slice pD p.decls.length cD))=some X→w.heap.size+2≤X:=fun X hX=>HRW.out.own _ (by simp) X hX
                     have hBx:=HBx_18.out.grown hgr (fun e=>by have:=hOW _ e.symm;omega)
                     have hBy:=HBy_18.out.grown hgr (fun e=>by have:=hOW _ e.symm;omega)
                     have hS2:=RS.row_ H18.out hgr (fun X hX=>HX.out X (by have:=hOW X hX;omega))
                     have HG2:=Lib.hid (grown_row (grown_then HG.out G18.out) hgr (fun X hX=>by have:=hOW X hX;omega))
                     have HBx_n:=Lib.hid hBx
                     have HBy_n:=Lib.hid hBy
                     have HS2:=Lib.hid hS2
                     obtain⟨_,_,e2,_,_,_⟩:=hS2.cells
                     have fe2:=hS2.blk.frozen 2
                     have hgn:g<wn.heap.size:=hS2.blk.lt
                     have qcx:=five_cells hBx
                     have qfx:=five_frozen hBx
                     have qcy:=five_cells hBy
                     have qfy:=five_frozen hBy
                     have hltx_n:w.heap.size<wn.heap.size:=hBx.lt
                     have hlty_n:w.heap.size+1<wn.heap.size:=hBy.lt
                     clear ho hb hgr hat hBx hBy hS2 hOW G18 H18 HBx_18 HBy_18)
                  | (go_simp;go_wp2_with (first
                        | (go_at_call 45;(with_reducible refine (RefDecl.decl_any ts k1 (by have:=HKQ.out;have:=HK.out;omega) _ _ _ _ _ q H17.out HQ.out).mono ?_);rintro e w18 ⟨vk,rfl,hk,hr,hb⟩
                           obtain⟨p1,c1,rfl⟩:=Kd.R_slice hk
                           have HM:=Lib.hid (kDecl.M_lower (Nat.le_trans HN0.out HWR.out) (kDecl_mkM _ _ _ q.1 hk))
                           clear hk
                           obtain⟨H18,G18,hrl_18⟩:=st_go hr G17.out hb
                           obtain⟨HBx_18,qcx,qfx,hltx_18⟩:=s5_go HBx_17 hb (by omega)
                           obtain⟨HBy_18,qcy,qfy,hlty_18⟩:=s5_go HBy_17 hb (by omega)
                           clear hr hb H17 G17 HBx_17 HBy_17))))
            all_goals go_wp2
            all_goals go_roundg k1
            all_goals first
             | omega
             | exact Lib.hid ⟨_,_,pT,cT,p9,c9,pC,cC,pI,cI,pL,cL,Nat.le_of_lt (Nat.lt_of_succ_le HKQ.out),HL1.out,HRN.out.far (Nat.lt_succ_self _) 1 _,RS.other HS2.out (HX.out _ (Nat.le_succ _)) 1 _,grown_new HG2.out (Nat.le_succ _) 1 _,HBx_n.out.far (p:=⟨w.heap.size+1,1,none⟩) (Nat.ne_of_lt (Nat.lt_succ_self _)) _,by show Blk _ _ _ _;simp only[addD,List.length_append,List.length_cons,List.length_nil];exact HBy_n.out.set_ 1 _,by rw[set_size];exact hlty_n,by have:=HLK.out;simp only[addD];(try rw[List.length_append]);(try simp only[List.length_cons,List.length_nil]);omega,by have:=HLK.out;simp only[addD];(try rw[List.length_append]);(try simp only[List.length_cons,List.length_nil]);omega,by have:=HLK.out;simp only[addD];(try rw[List.length_append]);(try simp only[List.length_cons,List.length_nil]);omega,by have:=HLK.out;simp only[addD];(try rw[List.length_append]);(try simp only[List.length_cons,List.length_nil]);omega,by have:=HLK.out;simp only[addD];(try rw[List.length_append]);(try simp only[List.length_cons,List.length_nil]);omega⟩
          rw[if_neg t2] at hL
          have t2:(may ts kwDecl s1).1=false:=by simpa using t2
          have t2k:(may ts (ByteArray.mk #[46,100,101,99,108]).data.toList s1).1=false:=t2
          by_cases t3:sign ts kwComp s1=true
          · rw[if_pos t3] at hL
            obtain⟨q,hq,hL⟩:=Option.bind_eq_some_iff.1 hL
            have HL1:=Lib.hid hL
            have HQ:=Lib.hid hq
            clear hL hq
            have t3k:sign ts (ByteArray.mk #[46,99,111,109,112]).data.toList s1=true:=t3
            clear t3
            go_wp2_with (first
                  | (go_at_call 17;(with_reducible refine (well_is _ _ _ _ _ true hw H10.out).mono ?_);rintro e w' ⟨rfl,rfl⟩)
                  | (go_at_call 15;(with_reducible refine (now_any _ _ _ _ _ H10.out).mono ?_);rintro e w11 ⟨rfl,hl⟩
                     have hb:=grown_below hl g
                     have hr:=(H10.out).below hl
                     obtain⟨H11,G11,hrl_11⟩:=st_go hr G10.out hb
                     obtain⟨HBx_11,qcx,qfx,hltx_11⟩:=s5_go HBx_10 hb (by omega)
                     obtain⟨HBy_11,qcy,qfy,hlty_11⟩:=s5_go HBy_10 hb (by omega)
                     clear hr hb hl H10 G10 HBx_10 HBy_10)
                  | (go_at_call 42;(with_reducible refine (sign_any _ _ _ _ _ _ H11.out).mono ?_);rintro e w12 ⟨rfl,hl⟩
                     have hb:=grown_below hl g
                     have hr:=(H11.out).below hl
                     obtain⟨H12,G12,hrl_12⟩:=st_go hr G11.out hb
                     obtain⟨HBx_12,qcx,qfx,hltx_12⟩:=s5_go HBx_11 hb (by omega)
                     obtain⟨HBy_12,qcy,qfy,hlty_12⟩:=s5_go HBy_11 hb (by omega)
                     obtain⟨_,_,_,c3,_,_⟩:=hr.cells
                     have f3:=hr.blk.frozen 3
                     clear hr hb hl H11 G11 HBx_11 HBy_11)
                  | (go_at_call 15;(with_reducible refine (now_any _ _ _ _ _ (HI.out▸RS.set H12.out 3 (.int .i64 (wrap64 (s.items+1))) (st':={ s with items:=wrap64 (s.items+1) }) rfl H12.out.lt)).mono ?_);rintro e w14 ⟨rfl,hl⟩
                     have hb:=grown_below hl g
                     have hr:=((HI.out▸(RS.set H12.out 3 (.int .i64 (wrap64 (s.items+1))) (st':={ s with items:=wrap64 (s.items+1) }) rfl H12.out.lt):RS _ g v ts s1)).below hl
                     obtain⟨H14,G14,hrl_14⟩:=st_go hr (grown_g G12.out 3 (.int .i64 (wrap64 (s.items+1)))) hb
                     obtain⟨HBx_14,qcx,qfx,hltx_14⟩:=s5_go (Lib.hid (HBx_12.out.far (p:=⟨g,3,none⟩) (show w.heap.size≠g by omega) (.int .i64 (wrap64 (s.items+1))))) hb (by omega)
                     obtain⟨HBy_14,qcy,qfy,hlty_14⟩:=s5_go (Lib.hid (HBy_12.out.far (p:=⟨g,3,none⟩) (show w.heap.size+1≠g by omega) (.int .i64 (wrap64 (s.items+1))))) hb (by omega)
                     clear hr hb hl H12 G12 HBx_12 HBy_12)
                  | (go_at_call 43;(with_reducible refine (may_any _ _ _ _ _ _ H14.out).mono ?_);rintro e w15 ⟨rfl,hr,hb⟩
                     rw[may_same t1k] at hr
                     obtain⟨H15,G15,hrl_15⟩:=st_go hr G14.out hb
                     obtain⟨HBx_15,qcx,qfx,hltx_15⟩:=s5_go HBx_14 hb (by omega)
                     obtain⟨HBy_15,qcy,qfy,hlty_15⟩:=s5_go HBy_14 hb (by omega)
                     clear hr hb H14 G14 HBx_14 HBy_14)
                  | (go_at_call 43;(with_reducible refine (may_any _ _ _ _ _ _ H15.out).mono ?_);rintro e w16 ⟨rfl,hr,hb⟩
                     rw[may_same t2k] at hr
                     obtain⟨H16,G16,hrl_16⟩:=st_go hr G15.out hb
                     obtain⟨HBx_16,qcx,qfx,hltx_16⟩:=s5_go HBx_15 hb (by omega)
                     obtain⟨HBy_16,qcy,qfy,hlty_16⟩:=s5_go HBy_15 hb (by omega)
                     clear hr hb H15 G15 HBx_15 HBy_15)
                  | (go_at_call 42;(with_reducible refine (sign_any _ _ _ _ _ _ H16.out).mono ?_);rintro e w17 ⟨rfl,hl⟩
                     have hb:=grown_below hl g
                     have hr:=(H16.out).below hl
                     obtain⟨H17,G17,hrl_17⟩:=st_go hr G16.out hb
                     obtain⟨HBx_17,qcx,qfx,hltx_17⟩:=s5_go HBx_16 hb (by omega)
                     obtain⟨HBy_17,qcy,qfy,hlty_17⟩:=s5_go HBy_16 hb (by omega)
                     clear hr hb hl H16 G16 HBx_16 HBy_16)
                  | (go_at_call 46;(with_reducible refine (enter_any _ _ _ _ _ H17.out).mono ?_);rintro e w18 ⟨rfl,hr,hb⟩
                     obtain⟨H18,G18,hrl_18⟩:=st_go hr G17.out hb
                     obtain⟨HBx_18,qcx,qfx,hltx_18⟩:=s5_go HBx_17 hb (by omega)
                     obtain⟨HBy_18,qcy,qfy,hlty_18⟩:=s5_go HBy_17 hb (by omega)
                     clear hr hb H17 G17 HBx_17 HBy_17)
                  | (go_at_call 47;(with_reducible refine (take_any _ _ _ _ _ H18.out).mono ?_);rintro e w19 ⟨rfl,hr,hb⟩
                     obtain⟨H19,G19,hrl_19⟩:=st_go hr G18.out hb
                     obtain⟨HBx_19,qcx,qfx,hltx_19⟩:=s5_go HBx_18 hb (by omega)
                     obtain⟨HBy_19,qcy,qfy,hlty_19⟩:=s5_go HBy_18 hb (by omega)
                     clear hr hb H18 G18 HBx_18 HBy_18))
            have hd:Below w19.heap.size w19 w19.drew:=(Below.refl _ _).drew
            have H20:=Lib.hid (H19.out.below hd)
            have G20:=Lib.hid (grown_then G19.out (grown_below hd g))
            have HBx_20:=Lib.hid HBx_19.out.drew
            have HBy_20:=Lib.hid HBy_19.out.drew
            have HWR:Hid (wr.heap.size≤w19.drew.heap.size):=Lib.hid G20.out.size
            clear hd H19 G19 HBx_19 HBy_19
            go_region_law (first
                  | (have HRM:=Lib.hid (HRW.out.grown hgN G21.out)
                     have hwm:wr.heap.size≤w21.heap.size:=G21.out.size
                     refine Kd.R_append_step kComp (w.heap.size+2) (by rfl) (.tmp 74) (.tmp 78) 24 42 (.agg #[.string ⟨#[]⟩,.slice none 0 0,.slice none 0 0,.slice none 0 0,.slice none 0 0,.slice none 0 0,.slice none 0 0,.int .i64 0]) 168 rfl Try.underlying24 infoComp rfl (by decide) (by decide) (.slice pC p.comps.length cC) p.comps q.1 [.string q.1.name,.slice p1 q.1.bases.length c1,.slice p2 q.1.body.types.length c2,.slice p3 q.1.body.decls.length c3,.slice p4 q.1.body.comps.length c4,.slice p5 q.1.body.inits.length c5,.slice p6 q.1.body.clauses.length c6,.int .i64 q.1.at_] (Off (w.heap.size+2) [(.slice pT p.types.length cT),(.slice pD p.decls.length cD),(.slice pI p.inits.length cI),(.slice pL p.clauses.length cL)]) (fun b=>w19.drew.heap.size≤b) ?a1 ?a2 HM.out ?hok ?aF ?aO (Below.refl _ _) ?aS ?aL ?_
                     (try (case a1=>rfl))
                     (try (case a2=>first|rfl|(rw[set_size];rfl)))
                     (case hok=>exact fun b hb=>⟨HRW.out.off HN0.out _ (by simp) b (Nat.le_trans HWR.out hb),fun e=>HRW.out.newer b (Nat.le_trans HWR.out hb) _ (by simp) e.symm⟩)
                     (case aF=>exact fun b hb=>HRW.out.off HN0.out _ (by simp) b (by (try rw[set_size] at hb);omega))
                     (case aO=>exact HRM.out.c)
                     (case aS=>(try rw[set_size]);have:=HN0.out;omega)
                     (case aL=>(have:=HLK.out;have:=HK.out;omega))
                     intro v1 wn ho hb hgr hat
                     obtain⟨p9,c9,rfl⟩:=Kd.R_slice ho
                     have HRN:=Lib.hid (HRM.out.addC (x:=q.1) ho hgr hat)
                     have hOW:∀ X,(Value.ownBlock (.slice pC p.comps.length cC))=some X→w.heap.size+2≤X:=fun X hX=>HRW.out.own _ (by simp) X hX
                     have hBx:=HBx_21.out.grown hgr (fun e=>by have:=hOW _ e.symm;omega)
                     have hBy:=HBy_21.out.grown hgr (fun e=>by have:=hOW _ e.symm;omega)
                     have hS2:=RS.row_ H21.out hgr (fun X hX=>HX.out X (by have:=hOW X hX;omega))
                     have HG2:=Lib.hid (grown_row (grown_then HG.out G21.out) hgr (fun X hX=>by have:=hOW X hX;omega))
                     have HBx_n:=Lib.hid hBx
                     have HBy_n:=Lib.hid hBy
                     have HS2:=Lib.hid hS2
                     obtain⟨_,_,e2,_,_,_⟩:=hS2.cells
                     have fe2:=hS2.blk.frozen 2
                     have hgn:g<wn.heap.size:=hS2.blk.lt
                     have qcx:=five_cells hBx
                     have qfx:=five_frozen hBx
                     have qcy:=five_cells hBy
                     have qfy:=five_frozen hBy
                     have hltx_n:w.heap.size<wn.heap.size:=hBx.lt
                     have hlty_n:w.heap.size+1<wn.heap.size:=hBy.lt
                     clear ho hb hgr hat hBx hBy hS2 hOW G21 H21 HBx_21 HBy_21)
                  | (go_simp;go_wp2_with (first
                        | (go_at_call 48;(with_reducible refine (HIH.out k1 (by have:=HKQ.out;omega) _ _ _ _ q _ H20.out HQ.out).mono ?_);rintro e w21 ⟨vb,uT,uD,uC,uI,uL,rfl,hkb,hR,hr,hb⟩
                           obtain⟨p1,c1,rfl⟩:=Kd.R_slice hkb
                           obtain⟨p2,c2,rfl⟩:=Kd.R_slice hR.t
                           obtain⟨p3,c3,rfl⟩:=Kd.R_slice hR.d
                           obtain⟨p4,c4,rfl⟩:=Kd.R_slice hR.c
                           obtain⟨p5,c5,rfl⟩:=Kd.R_slice hR.i
                           obtain⟨p6,c6,rfl⟩:=Kd.R_slice hR.l
                           have hq:∀ (os:List Value) (b:Nat),Off w19.drew.heap.size os b→w19.drew.heap.size≤b:=fun os b hb=>hb.1
                           have HM:=Lib.hid (kComp.M_lower (Nat.le_trans HN0.out HWR.out) (kComp_mkM _ _ _ q.1 hkb (Kd.R_mono hR.t (hq _)) (Kd.R_mono hR.d (hq _)) (Kd.R_mono hR.c (hq _)) (Kd.R_mono hR.i (hq _)) (Kd.R_mono hR.l (hq _))))
                           clear hkb hR hq
                           obtain⟨H21,G21,hrl_21⟩:=st_go hr G20.out hb
                           obtain⟨HBx_21,qcx,qfx,hltx_21⟩:=s5_go HBx_20 hb (by omega)
                           obtain⟨HBy_21,qcy,qfy,hlty_21⟩:=s5_go HBy_20 hb (by omega)
                           clear hr hb H20 G20 HBx_20 HBy_20))))
            all_goals go_wp2
            all_goals go_roundg k1
            all_goals first
             | omega
             | exact Lib.hid ⟨_,_,pT,cT,pD,cD,p9,c9,pI,cI,pL,cL,Nat.le_of_lt (Nat.lt_of_succ_le HKQ.out),HL1.out,(HRN.out.far (Nat.lt_succ_self _) 2 _).far (show g<w.heap.size+2 by omega) 2 _,RS.set (st':=leave q.2) (RS.other HS2.out (HX.out _ (Nat.le_succ w.heap.size)) 2 (.slice p9 (p.comps.length+1) c9)) 2 (.int .i64 (wrap64 (q.2.deep - 1))) rfl HS2.out.lt,grown_g (grown_new HG2.out (Nat.le_succ _) 2 _) 2 _,(HBx_n.out.far (p:=⟨w.heap.size+1,2,none⟩) (Nat.ne_of_lt (Nat.lt_succ_self _)) _).far (p:=⟨g,2,none⟩) (show w.heap.size≠g by omega) _,by show Blk _ _ _ _;simp only[addC,List.length_append,List.length_cons,List.length_nil];exact (HBy_n.out.set_ 2 _).far (p:=⟨g,2,none⟩) (show w.heap.size+1≠g by omega) _,by rw[set_size,set_size];exact hlty_n,by have:=HLK.out;simp only[addC];(try rw[List.length_append]);(try simp only[List.length_cons,List.length_nil]);omega,by have:=HLK.out;simp only[addC];(try rw[List.length_append]);(try simp only[List.length_cons,List.length_nil]);omega,by have:=HLK.out;simp only[addC];(try rw[List.length_append]);(try simp only[List.length_cons,List.length_nil]);omega,by have:=HLK.out;simp only[addC];(try rw[List.length_append]);(try simp only[List.length_cons,List.length_nil]);omega,by have:=HLK.out;simp only[addC];(try rw[List.length_append]);(try simp only[List.length_cons,List.length_nil]);omega⟩
          rw[if_neg t3] at hL
          have t3:sign ts kwComp s1=false:=by simpa using t3
          have t3k:sign ts (ByteArray.mk #[46,99,111,109,112]).data.toList s1=false:=t3
          by_cases t4:(may ts kwInit s1).1=true
          · rw[if_pos t4] at hL
            have HL1:=Lib.hid hL
            clear hL
            have t4k:(may ts (ByteArray.mk #[46,105,110,105,116]).data.toList s1).1=true:=t4
            clear t4
            go_wp2_with (first
                  | (go_at_call 17;(with_reducible refine (well_is _ _ _ _ _ true hw H10.out).mono ?_);rintro e w' ⟨rfl,rfl⟩)
                  | (go_at_call 15;(with_reducible refine (now_any _ _ _ _ _ H10.out).mono ?_);rintro e w11 ⟨rfl,hl⟩
                     have hb:=grown_below hl g
                     have hr:=(H10.out).below hl
                     obtain⟨H11,G11,hrl_11⟩:=st_go hr G10.out hb
                     obtain⟨HBx_11,qcx,qfx,hltx_11⟩:=s5_go HBx_10 hb (by omega)
                     obtain⟨HBy_11,qcy,qfy,hlty_11⟩:=s5_go HBy_10 hb (by omega)
                     clear hr hb hl H10 G10 HBx_10 HBy_10)
                  | (go_at_call 42;(with_reducible refine (sign_any _ _ _ _ _ _ H11.out).mono ?_);rintro e w12 ⟨rfl,hl⟩
                     have hb:=grown_below hl g
                     have hr:=(H11.out).below hl
                     obtain⟨H12,G12,hrl_12⟩:=st_go hr G11.out hb
                     obtain⟨HBx_12,qcx,qfx,hltx_12⟩:=s5_go HBx_11 hb (by omega)
                     obtain⟨HBy_12,qcy,qfy,hlty_12⟩:=s5_go HBy_11 hb (by omega)
                     obtain⟨_,_,_,c3,_,_⟩:=hr.cells
                     have f3:=hr.blk.frozen 3
                     clear hr hb hl H11 G11 HBx_11 HBy_11)
                  | (go_at_call 15;(with_reducible refine (now_any _ _ _ _ _ (HI.out▸RS.set H12.out 3 (.int .i64 (wrap64 (s.items+1))) (st':={ s with items:=wrap64 (s.items+1) }) rfl H12.out.lt)).mono ?_);rintro e w14 ⟨rfl,hl⟩
                     have hb:=grown_below hl g
                     have hr:=((HI.out▸(RS.set H12.out 3 (.int .i64 (wrap64 (s.items+1))) (st':={ s with items:=wrap64 (s.items+1) }) rfl H12.out.lt):RS _ g v ts s1)).below hl
                     obtain⟨H14,G14,hrl_14⟩:=st_go hr (grown_g G12.out 3 (.int .i64 (wrap64 (s.items+1)))) hb
                     obtain⟨HBx_14,qcx,qfx,hltx_14⟩:=s5_go (Lib.hid (HBx_12.out.far (p:=⟨g,3,none⟩) (show w.heap.size≠g by omega) (.int .i64 (wrap64 (s.items+1))))) hb (by omega)
                     obtain⟨HBy_14,qcy,qfy,hlty_14⟩:=s5_go (Lib.hid (HBy_12.out.far (p:=⟨g,3,none⟩) (show w.heap.size+1≠g by omega) (.int .i64 (wrap64 (s.items+1))))) hb (by omega)
                     clear hr hb hl H12 G12 HBx_12 HBy_12)
                  | (go_at_call 43;(with_reducible refine (may_any _ _ _ _ _ _ H14.out).mono ?_);rintro e w15 ⟨rfl,hr,hb⟩
                     rw[may_same t1k] at hr
                     obtain⟨H15,G15,hrl_15⟩:=st_go hr G14.out hb
                     obtain⟨HBx_15,qcx,qfx,hltx_15⟩:=s5_go HBx_14 hb (by omega)
                     obtain⟨HBy_15,qcy,qfy,hlty_15⟩:=s5_go HBy_14 hb (by omega)
                     clear hr hb H14 G14 HBx_14 HBy_14)
                  | (go_at_call 43;(with_reducible refine (may_any _ _ _ _ _ _ H15.out).mono ?_);rintro e w16 ⟨rfl,hr,hb⟩
                     rw[may_same t2k] at hr
                     obtain⟨H16,G16,hrl_16⟩:=st_go hr G15.out hb
                     obtain⟨HBx_16,qcx,qfx,hltx_16⟩:=s5_go HBx_15 hb (by omega)
                     obtain⟨HBy_16,qcy,qfy,hlty_16⟩:=s5_go HBy_15 hb (by omega)
                     clear hr hb H15 G15 HBx_15 HBy_15)
                  | (go_at_call 42;(with_reducible refine (sign_any _ _ _ _ _ _ H16.out).mono ?_);rintro e w17 ⟨rfl,hl⟩
                     have hb:=grown_below hl g
                     have hr:=(H16.out).below hl
                     obtain⟨H17,G17,hrl_17⟩:=st_go hr G16.out hb
                     obtain⟨HBx_17,qcx,qfx,hltx_17⟩:=s5_go HBx_16 hb (by omega)
                     obtain⟨HBy_17,qcy,qfy,hlty_17⟩:=s5_go HBy_16 hb (by omega)
                     clear hr hb hl H16 G16 HBx_16 HBy_16)
                  | (go_at_call 43;(with_reducible refine (may_any _ _ _ _ _ _ H17.out).mono ?_);rintro e w18 ⟨rfl,hr,hb⟩
                     obtain⟨H18,G18,hrl_18⟩:=st_go hr G17.out hb
                     obtain⟨HBx_18,qcx,qfx,hltx_18⟩:=s5_go HBx_17 hb (by omega)
                     obtain⟨HBy_18,qcy,qfy,hlty_18⟩:=s5_go HBy_17 hb (by omega)
                     clear hr hb H17 G17 HBx_17 HBy_17)
                  | (go_at_call 49;(with_reducible refine (word_any _ _ _ _ _ H18.out).mono ?_);rintro e w19 ⟨rfl,hr,hb⟩
                     obtain⟨H19,G19,hrl_19⟩:=st_goA (.cells #[.string (word ts (may ts (ByteArray.mk #[46,105,110,105,116]).data.toList s1).2).1,.string ⟨#[]⟩,.int .i64 ((cur ts s1).at_:Int)] 48) hr G18.out hb
                     obtain⟨HBx_19,qcx,qfx,hltx_19⟩:=s5_goA (.cells #[.string (word ts (may ts (ByteArray.mk #[46,105,110,105,116]).data.toList s1).2).1,.string ⟨#[]⟩,.int .i64 ((cur ts s1).at_:Int)] 48) HBx_18 hb (by omega)
                     obtain⟨HBy_19,qcy,qfy,hlty_19⟩:=s5_goA (.cells #[.string (word ts (may ts (ByteArray.mk #[46,105,110,105,116]).data.toList s1).2).1,.string ⟨#[]⟩,.int .i64 ((cur ts s1).at_:Int)] 48) HBy_18 hb (by omega)
                     have HBz_19:=Lib.hid (Blk.new w19 48 #[.string (word ts (may ts (ByteArray.mk #[46,105,110,105,116]).data.toList s1).2).1,.string ⟨#[]⟩,.int .i64 ((cur ts s1).at_:Int)])
                     have GXC:Hid (wr.heap.size≤w19.heap.size):=Lib.hid (grown_then G18.out hb).size
                     clear hr hb H18 G18 HBx_18 HBy_18)
                  | (go_at_call 50;(with_reducible refine (must_any _ _ _ _ _ _ H19.out).mono ?_);rintro e w20 ⟨rfl,hr,hb⟩
                     obtain⟨H20,G20,hrl_20⟩:=st_go hr G19.out hb
                     obtain⟨HBx_20,qcx,qfx,hltx_20⟩:=s5_go HBx_19 hb (by omega)
                     obtain⟨HBy_20,qcy,qfy,hlty_20⟩:=s5_go HBy_19 hb (by omega)
                     obtain⟨HBz_20,qcz,qfz,hltz_20⟩:=s3_go HBz_19 hb (by omega)
                     clear hr hb H19 G19 HBx_19 HBy_19 HBz_19)
                  | (go_at_call 51;(with_reducible refine (name_any _ _ _ _ _ H20.out).mono ?_);rintro e w21 ⟨rfl,hr,hb⟩
                     obtain⟨H21,G21,hrl_21⟩:=st_go hr G20.out hb
                     obtain⟨HBx_21,qcx,qfx,hltx_21⟩:=s5_go HBx_20 hb (by omega)
                     obtain⟨HBy_21,qcy,qfy,hlty_21⟩:=s5_go HBy_20 hb (by omega)
                     obtain⟨HBz_21,qcz,qfz,hltz_21⟩:=s3_go HBz_20 hb (by omega)
                     clear hr hb H20 G20 HBx_20 HBy_20 HBz_20)
                  | ((with_reducible refine gate_builtin (b:=.append) (xs:=#[.tmp 101,.tmp 103]) rfl ?_);at_builtin
                     have HRM:=Lib.hid (rows_ready HRW.out hgN G21.out GXC.out 1 (.string (name ts (must ts (ByteArray.mk #[61]).data.toList (word ts (may ts (ByteArray.mk #[46,105,110,105,116]).data.toList s1).2).2)).1))
                     have hwm:wr.heap.size≤w21.heap.size:=G21.out.size
                     have hn0:=HN0.out
                     have hxw:wr.heap.size≤w19.heap.size:=GXC.out
                     refine Kd.R_append kInit (w.heap.size+2) rfl (.tmp 101) (.tmp 103) 25 48 (.agg #[.string ⟨#[]⟩,.string ⟨#[]⟩,.int .i64 0]) 40 rfl Try.underlying25 infoInit rfl (by decide) (by decide) (.slice pI p.inits.length cI) p.inits (initOf ts (cur ts s1).at_ (may ts (ByteArray.mk #[46,105,110,105,116]).data.toList s1).2).1 [.string (word ts (may ts (ByteArray.mk #[46,105,110,105,116]).data.toList s1).2).1,.string (name ts (must ts (ByteArray.mk #[61]).data.toList (word ts (may ts (ByteArray.mk #[46,105,110,105,116]).data.toList s1).2).2)).1,.int .i64 ((cur ts s1).at_:Int)] (Off (w.heap.size+2) [(.slice pT p.types.length cT),(.slice pD p.decls.length cD),(.slice pC p.comps.length cC),(.slice pL p.clauses.length cL)]) (fun b=>w19.heap.size≤b) ?a1 ?a2 (kInit_mkM _ _ _ (initOf ts (cur ts s1).at_ (may ts (ByteArray.mk #[46,105,110,105,116]).data.toList s1).2).1) ?hok ?aF ?aO (Below.refl _ _) ?aS ?aL ?_
                     (try (case a1=>rfl))
                     (try (case a2=>first|rfl|(rw[set_size];rfl)))
                     (case hok=>exact fun b hb=>⟨HRW.out.off HN0.out _ (by simp) b (Nat.le_trans GXC.out hb),fun e=>HRW.out.newer b (Nat.le_trans GXC.out hb) _ (by simp) e.symm⟩)
                     (case aF=>exact fun b hb=>HRW.out.off HN0.out _ (by simp) b (by (try rw[set_size] at hb);omega))
                     (case aO=>exact HRM.out.i)
                     (case aS=>(try rw[set_size]);have:=HN0.out;omega)
                     (case aL=>(have:=HLK.out;have:=HK.out;omega))
                     intro v1 wn ho hb hgr hat
                     obtain⟨p9,c9,rfl⟩:=Kd.R_slice ho
                     have HRN:=Lib.hid (HRM.out.addI (x:=(initOf ts (cur ts s1).at_ (may ts (ByteArray.mk #[46,105,110,105,116]).data.toList s1).2).1) ho hgr hat)
                     have hOW:∀ X,(Value.ownBlock (.slice pI p.inits.length cI))=some X→w.heap.size+2≤X:=fun X hX=>HRW.out.own _ (by simp) X hX
                     have hBx:=(HBx_21.out.far (p:=⟨w19.heap.size,1,none⟩) (show w.heap.size≠w19.heap.size by omega) (.string (name ts (must ts (ByteArray.mk #[61]).data.toList (word ts (may ts (ByteArray.mk #[46,105,110,105,116]).data.toList s1).2).2)).1)).grown hgr (fun e=>by have:=hOW _ e.symm;omega)
                     have hBy:=(HBy_21.out.far (p:=⟨w19.heap.size,1,none⟩) (show w.heap.size+1≠w19.heap.size by omega) (.string (name ts (must ts (ByteArray.mk #[61]).data.toList (word ts (may ts (ByteArray.mk #[46,105,110,105,116]).data.toList s1).2).2)).1)).grown hgr (fun e=>by have:=hOW _ e.symm;omega)
                     have hS2:=RS.row_ (RS.other H21.out (HX.out _ (by omega)) 1 (.string (name ts (must ts (ByteArray.mk #[61]).data.toList (word ts (may ts (ByteArray.mk #[46,105,110,105,116]).data.toList s1).2).2)).1)) hgr (fun X hX=>HX.out X (by have:=hOW X hX;omega))
                     have HG2:=Lib.hid (grown_row (grown_new (grown_then HG.out G21.out) (show w.heap.size≤w19.heap.size by omega) 1 (.string (name ts (must ts (ByteArray.mk #[61]).data.toList (word ts (may ts (ByteArray.mk #[46,105,110,105,116]).data.toList s1).2).2)).1)) hgr (fun X hX=>by have:=hOW X hX;omega))
                     have HBx_n:=Lib.hid hBx
                     have HBy_n:=Lib.hid hBy
                     have HS2:=Lib.hid hS2
                     obtain⟨_,_,e2,_,_,_⟩:=hS2.cells
                     have fe2:=hS2.blk.frozen 2
                     have hgn:g<wn.heap.size:=hS2.blk.lt
                     have qcx:=five_cells hBx
                     have qfx:=five_frozen hBx
                     have qcy:=five_cells hBy
                     have qfy:=five_frozen hBy
                     have hltx_n:w.heap.size<wn.heap.size:=hBx.lt
                     have hlty_n:w.heap.size+1<wn.heap.size:=hBy.lt
                     clear ho hb hgr hat hBx hBy hS2 hOW G21 H21 HBx_21 HBy_21))
            go_roundg k1
            case measure=>omega
            case rel=>exact Lib.hid ⟨_,_,pT,cT,pD,cD,pC,cC,p9,c9,pL,cL,Nat.le_of_lt (Nat.lt_of_succ_le HKQ.out),HL1.out,HRN.out.far (Nat.lt_succ_self _) 3 _,RS.other HS2.out (HX.out _ (Nat.le_succ _)) 3 _,grown_new HG2.out (Nat.le_succ _) 3 _,HBx_n.out.far (p:=⟨w.heap.size+1,3,none⟩) (Nat.ne_of_lt (Nat.lt_succ_self _)) _,by show Blk _ _ _ _;simp only[addI,List.length_append,List.length_cons,List.length_nil];exact HBy_n.out.set_ 3 _,by rw[set_size];exact hlty_n,by have:=HLK.out;simp only[addI];(try rw[List.length_append]);(try simp only[List.length_cons,List.length_nil]);omega,by have:=HLK.out;simp only[addI];(try rw[List.length_append]);(try simp only[List.length_cons,List.length_nil]);omega,by have:=HLK.out;simp only[addI];(try rw[List.length_append]);(try simp only[List.length_cons,List.length_nil]);omega,by have:=HLK.out;simp only[addI];(try rw[List.length_append]);(try simp only[List.length_cons,List.length_nil]);omega,by have:=HLK.out;simp only[addI];(try rw[List.length_append]);(try simp only[List.length_cons,List.length_nil]);omega⟩
          rw[if_neg t4] at hL
          have t4:(may ts kwInit s1).1=false:=by simpa using t4
          have t4k:(may ts (ByteArray.mk #[46,105,110,105,116]).data.toList s1).1=false:=t4
          obtain⟨q,hq,hL⟩:=Option.bind_eq_some_iff.1 hL
          have HL1:=Lib.hid hL
          have HQ:=Lib.hid hq
          clear hL hq
          go_wp2_with (first
                | (go_at_call 17;(with_reducible refine (well_is _ _ _ _ _ true hw H10.out).mono ?_);rintro e w' ⟨rfl,rfl⟩)
                | (go_at_call 15;(with_reducible refine (now_any _ _ _ _ _ H10.out).mono ?_);rintro e w11 ⟨rfl,hl⟩
                   have hb:=grown_below hl g
                   have hr:=(H10.out).below hl
                   obtain⟨H11,G11,hrl_11⟩:=st_go hr G10.out hb
                   obtain⟨HBx_11,qcx,qfx,hltx_11⟩:=s5_go HBx_10 hb (by omega)
                   obtain⟨HBy_11,qcy,qfy,hlty_11⟩:=s5_go HBy_10 hb (by omega)
                   clear hr hb hl H10 G10 HBx_10 HBy_10)
                | (go_at_call 42;(with_reducible refine (sign_any _ _ _ _ _ _ H11.out).mono ?_);rintro e w12 ⟨rfl,hl⟩
                   have hb:=grown_below hl g
                   have hr:=(H11.out).below hl
                   obtain⟨H12,G12,hrl_12⟩:=st_go hr G11.out hb
                   obtain⟨HBx_12,qcx,qfx,hltx_12⟩:=s5_go HBx_11 hb (by omega)
                   obtain⟨HBy_12,qcy,qfy,hlty_12⟩:=s5_go HBy_11 hb (by omega)
                   obtain⟨_,_,_,c3,_,_⟩:=hr.cells
                   have f3:=hr.blk.frozen 3
                   clear hr hb hl H11 G11 HBx_11 HBy_11)
                | (go_at_call 15;(with_reducible refine (now_any _ _ _ _ _ (HI.out▸RS.set H12.out 3 (.int .i64 (wrap64 (s.items+1))) (st':={ s with items:=wrap64 (s.items+1) }) rfl H12.out.lt)).mono ?_);rintro e w14 ⟨rfl,hl⟩
                   have hb:=grown_below hl g
                   have hr:=((HI.out▸(RS.set H12.out 3 (.int .i64 (wrap64 (s.items+1))) (st':={ s with items:=wrap64 (s.items+1) }) rfl H12.out.lt):RS _ g v ts s1)).below hl
                   obtain⟨H14,G14,hrl_14⟩:=st_go hr (grown_g G12.out 3 (.int .i64 (wrap64 (s.items+1)))) hb
                   obtain⟨HBx_14,qcx,qfx,hltx_14⟩:=s5_go (Lib.hid (HBx_12.out.far (p:=⟨g,3,none⟩) (show w.heap.size≠g by omega) (.int .i64 (wrap64 (s.items+1))))) hb (by omega)
                   obtain⟨HBy_14,qcy,qfy,hlty_14⟩:=s5_go (Lib.hid (HBy_12.out.far (p:=⟨g,3,none⟩) (show w.heap.size+1≠g by omega) (.int .i64 (wrap64 (s.items+1))))) hb (by omega)
                   clear hr hb hl H12 G12 HBx_12 HBy_12)
                | (go_at_call 43;(with_reducible refine (may_any _ _ _ _ _ _ H14.out).mono ?_);rintro e w15 ⟨rfl,hr,hb⟩
                   rw[may_same t1k] at hr
                   obtain⟨H15,G15,hrl_15⟩:=st_go hr G14.out hb
                   obtain⟨HBx_15,qcx,qfx,hltx_15⟩:=s5_go HBx_14 hb (by omega)
                   obtain⟨HBy_15,qcy,qfy,hlty_15⟩:=s5_go HBy_14 hb (by omega)
                   clear hr hb H14 G14 HBx_14 HBy_14)
                | (go_at_call 43;(with_reducible refine (may_any _ _ _ _ _ _ H15.out).mono ?_);rintro e w16 ⟨rfl,hr,hb⟩
                   rw[may_same t2k] at hr
                   obtain⟨H16,G16,hrl_16⟩:=st_go hr G15.out hb
                   obtain⟨HBx_16,qcx,qfx,hltx_16⟩:=s5_go HBx_15 hb (by omega)
                   obtain⟨HBy_16,qcy,qfy,hlty_16⟩:=s5_go HBy_15 hb (by omega)
                   clear hr hb H15 G15 HBx_15 HBy_15)
                | (go_at_call 42;(with_reducible refine (sign_any _ _ _ _ _ _ H16.out).mono ?_);rintro e w17 ⟨rfl,hl⟩
                   have hb:=grown_below hl g
                   have hr:=(H16.out).below hl
                   obtain⟨H17,G17,hrl_17⟩:=st_go hr G16.out hb
                   obtain⟨HBx_17,qcx,qfx,hltx_17⟩:=s5_go HBx_16 hb (by omega)
                   obtain⟨HBy_17,qcy,qfy,hlty_17⟩:=s5_go HBy_16 hb (by omega)
                   clear hr hb hl H16 G16 HBx_16 HBy_16)
                | (go_at_call 43;(with_reducible refine (may_any _ _ _ _ _ _ H17.out).mono ?_);rintro e w18 ⟨rfl,hr,hb⟩
                   rw[may_same t4k] at hr
                   obtain⟨H18,G18,hrl_18⟩:=st_go hr G17.out hb
                   obtain⟨HBx_18,qcx,qfx,hltx_18⟩:=s5_go HBx_17 hb (by omega)
                   obtain⟨HBy_18,qcy,qfy,hlty_18⟩:=s5_go HBy_17 hb (by omega)
                   clear hr hb H17 G17 HBx_17 HBy_17))
          have hd:Below w18.heap.size w18 w18.drew:=(Below.refl _ _).drew
          have H19:=Lib.hid (H18.out.below hd)
          have G19:=Lib.hid (grown_then G18.out (grown_below hd g))
          have HBx_19:=Lib.hid HBx_18.out.drew
          have HBy_19:=Lib.hid HBy_18.out.drew
          have HWR:Hid (wr.heap.size≤w18.drew.heap.size):=Lib.hid G19.out.size
          clear hd H18 G18 HBx_18 HBy_18
          go_region_law (first
                | (have HRM:=Lib.hid (HRW.out.grown hgN G20.out)
                   have hwm:wr.heap.size≤w20.heap.size:=G20.out.size
                   refine Kd.R_append_step kClause (w.heap.size+2) (by rfl) (.tmp 38) (.tmp 41) 26 54 (.agg #[.string ⟨#[]⟩,.slice none 0 0,.int .i64 0,.slice none 0 0,.int .i64 0]) 80 rfl Try.underlying26 infoClause rfl (by decide) (by decide) (.slice pL p.clauses.length cL) p.clauses q.1 [.string q.1.head.rel,.slice p1 q.1.head.args.length c1,.int .i64 q.1.head.at_,.slice p2 q.1.body.length c2,.int .i64 q.1.at_] (Off (w.heap.size+2) [(.slice pT p.types.length cT),(.slice pD p.decls.length cD),(.slice pC p.comps.length cC),(.slice pI p.inits.length cI)]) (fun b=>w18.drew.heap.size≤b) ?a1 ?a2 HM.out ?hok ?aF ?aO (Below.refl _ _) ?aS ?aL ?_
                   (try (case a1=>rfl))
                   (try (case a2=>first|rfl|(rw[set_size];rfl)))
                   (case hok=>exact fun b hb=>⟨HRW.out.off HN0.out _ (by simp) b (Nat.le_trans HWR.out hb),fun e=>HRW.out.newer b (Nat.le_trans HWR.out hb) _ (by simp) e.symm⟩)
                   (case aF=>exact fun b hb=>HRW.out.off HN0.out _ (by simp) b (by (try rw[set_size] at hb);omega))
                   (case aO=>exact HRM.out.l)
                   (case aS=>(try rw[set_size]);have:=HN0.out;omega)
                   (case aL=>(have:=HLK.out;have:=HK.out;omega))
                   intro v1 wn ho hb hgr hat
                   obtain⟨p9,c9,rfl⟩:=Kd.R_slice ho
                   have HRN:=Lib.hid (HRM.out.addCl (x:=q.1) ho hgr hat)
                   have hOW:∀ X,(Value.ownBlock (.slice pL p.clauses.length cL))=some X→w.heap.size+2≤X:=fun X hX=>HRW.out.own _ (by simp) X hX
                   have hBx:=HBx_20.out.grown hgr (fun e=>by have:=hOW _ e.symm;omega)
                   have hBy:=HBy_20.out.grown hgr (fun e=>by have:=hOW _ e.symm;omega)
                   have hS2:=RS.row_ H20.out hgr (fun X hX=>HX.out X (by have:=hOW X hX;omega))
                   have HG2:=Lib.hid (grown_row (grown_then HG.out G20.out) hgr (fun X hX=>by have:=hOW X hX;omega))
                   have HBx_n:=Lib.hid hBx
                   have HBy_n:=Lib.hid hBy
                   have HS2:=Lib.hid hS2
                   obtain⟨_,_,e2,_,_,_⟩:=hS2.cells
                   have fe2:=hS2.blk.frozen 2
                   have hgn:g<wn.heap.size:=hS2.blk.lt
                   have qcx:=five_cells hBx
                   have qfx:=five_frozen hBx
                   have qcy:=five_cells hBy
                   have qfy:=five_frozen hBy
                   have hltx_n:w.heap.size<wn.heap.size:=hBx.lt
                   have hlty_n:w.heap.size+1<wn.heap.size:=hBy.lt
                   clear ho hb hgr hat hBx hBy hS2 hOW G20 H20 HBx_20 HBy_20)
                | (go_simp;go_wp2_with (first
                      | (go_at_call 52;(with_reducible refine (RefProgS.clause_any ts k1 (by have:=HKQ.out;have:=HK.out;omega) _ _ _ _ q H19.out HQ.out).mono ?_);rintro e w20 ⟨va,vb,rfl,hka,hkb,hne,hr,hb⟩
                         obtain⟨p1,c1,rfl⟩:=Kd.R_slice hka
                         obtain⟨p2,c2,rfl⟩:=Kd.R_slice hkb
                         have HM:=Lib.hid (kClause.M_lower (Nat.le_trans HN0.out HWR.out) (kClause_mkM _ _ _ q.1 hka hkb))
                         clear hka hkb hne
                         obtain⟨H20,G20,hrl_20⟩:=st_go hr G19.out hb
                         obtain⟨HBx_20,qcx,qfx,hltx_20⟩:=s5_go HBx_19 hb (by omega)
                         obtain⟨HBy_20,qcy,qfy,hlty_20⟩:=s5_go HBy_19 hb (by omega)
                         clear hr hb H19 G19 HBx_19 HBy_19))))
          all_goals go_wp2
          all_goals go_roundg k1
          all_goals first
           | omega
           | exact Lib.hid ⟨_,_,pT,cT,pD,cD,pC,cC,pI,cI,p9,c9,Nat.le_of_lt (Nat.lt_of_succ_le HKQ.out),HL1.out,HRN.out.far (Nat.lt_succ_self _) 4 _,RS.other HS2.out (HX.out _ (Nat.le_succ _)) 4 _,grown_new HG2.out (Nat.le_succ _) 4 _,HBx_n.out.far (p:=⟨w.heap.size+1,4,none⟩) (Nat.ne_of_lt (Nat.lt_succ_self _)) _,by show Blk _ _ _ _;simp only[addCl,List.length_append,List.length_cons,List.length_nil];exact HBy_n.out.set_ 4 _,by rw[set_size];exact hlty_n,by have:=HLK.out;simp only[addCl];(try rw[List.length_append]);(try simp only[List.length_cons,List.length_nil]);omega,by have:=HLK.out;simp only[addCl];(try rw[List.length_append]);(try simp only[List.length_cons,List.length_nil]);omega,by have:=HLK.out;simp only[addCl];(try rw[List.length_append]);(try simp only[List.length_cons,List.length_nil]);omega,by have:=HLK.out;simp only[addCl];(try rw[List.length_append]);(try simp only[List.length_cons,List.length_nil]);omega,by have:=HLK.out;simp only[addCl];(try rw[List.length_append]);(try simp only[List.length_cons,List.length_nil]);omega⟩
  · have hw2:well s=false:=by simpa using hw
    have hio:progGoes ts s=false:=by simp[progGoes,hw2]
    rw[prog_stop ts hio] at hL
    injection hL with hL
    subst hL
    clear hio
    go_wp2_with (first
          | (go_at_call 17;(with_reducible refine (well_is _ _ _ _ _ false hw2 H10.out).mono ?_);rintro e w' ⟨rfl,rfl⟩))
    refine bodyPost_ret (results_cell_row rfl _ _ w.heap.size 28 #[.slice pT p.types.length cT,.slice pD p.decls.length cD,.slice pC p.comps.length cC,.slice pI p.inits.length cI,.slice pL p.clauses.length cL] (0,0) _ rfl ?_ Try.underlying28 rfl (by kernel_rfl)) rfl ?_
    · exact five_blk HBx_10.out
    · refine⟨.slice pT p.types.length cT,.slice pD p.decls.length cD,.slice pC p.comps.length cC,.slice pI p.inits.length cI,.slice pL p.clauses.length cL,rfl,?_,?_,?_⟩
      · exact RefProgS.Rows.lower (RefProgS.Rows.far (RefProgS.Rows.far (RefProgS.Rows.far (RefProgS.Rows.far (RefProgS.Rows.far (HRW.out.grown hgN G10.out) (show w.heap.size<w.heap.size+2 by omega) 0 _) (show w.heap.size<w.heap.size+2 by omega) 1 _) (show w.heap.size<w.heap.size+2 by omega) 2 _) (show w.heap.size<w.heap.size+2 by omega) 3 _) (show w.heap.size<w.heap.size+2 by omega) 4 _) (by omega)
      · exact five_RS H10.out (HX.out _ (Nat.le_refl _))
      · exact five_gr (grown_then HG.out G10.out) (Nat.le_refl _)
end
end Go.Proofs.Ytddmceldglelkaa.RefItems
