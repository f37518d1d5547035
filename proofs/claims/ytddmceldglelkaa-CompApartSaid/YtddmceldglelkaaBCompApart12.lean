/- A claim's texts, in the order of what they need: RefOne. -/
import Derived.Test.YtddmceldglelkaaBCompApart11
set_option maxRecDepth 100000
set_option maxHeartbeats 8000000
set_option linter.unusedVariables false
set_option linter.unusedSimpArgs false
set_option linter.unusedSectionVars false
namespace Go.Proofs.Ytddmceldglelkaa.RefOne
open Go Go.RowKit RefPure RefKinds RefMem RefTake RefSmall RefFields RefExprs RefExpr YtddmceldglelkaaW.PrintWords
open LexPure (T lex)
attribute [local go_sem] fld0 fld1 fld2 fld3
theorem may_same {ts:List T} {s:List UInt8} {st:St} (h:(may ts s st).1=false):(may ts s st).2=st:=by
 unfold may at h ⊢
 by_cases hs:sign ts s st=true
 · rw[if_pos hs] at h;cases h
 · rw[if_neg hs]
section
variable (ts:List T)
theorem one_num (k:Nat) (w:World) (g:Nat) (v:Value) (st:St) (r:Ex×St) (h:RS w g v ts st) (hF:one ts (k+1) st=some r) (h2:(cur ts st).kind=2):Calls Try.prog 93 #[.pointer (some ⟨g,0,none⟩)] w (ExPost w g v ts r):=by
 have H0:=Lib.hid h
 have G0:=Lib.hid (grown_refl w g)
 have hg:=h.blk.lt
 have HX:=Lib.hid (fun X (hX:w.heap.size≤X)=>h.elder hX)
 rw[one,if_pos h2] at hF
 injection hF with hF
 have HF:=Lib.hid hF.symm
 clear hF
 have hk2:((cur ts st).kind==2)=true:=beq_iff_eq.mpr h2
 clear h2
 clear h
 go_enter Try.func93,Try.ntmps93
 go_wp2_with (first
       | (go_at_call 15;(with_reducible refine (now_any _ _ _ _ _ (H0.out.alloc _)).mono ?_);rintro e w1 ⟨rfl,hb⟩
          have hr:=((H0.out.alloc (.cells #[.int .i64 0,.int .i64 0,.string ⟨#[]⟩,.slice none 0 0,.int .i64 0] 56)).below hb)
          have H1:=Lib.hid ((hr.alloc (.cells #[.int .i64 (cur ts st).kind,.string (str (cur ts st).text),.int .i64 (cur ts st).n,.int .i64 ((cur ts st).at_:Int)] 63)).alloc (.cells #[.int .i64 0,.int .i64 0,.string ⟨#[]⟩,.slice none 0 0,.int .i64 ((cur ts st).at_:Int)] 56))
          have G1:=Lib.hid (grown_alloc (grown_alloc (grown_then (grown_alloc G0.out _) (grown_below hb g)) (.cells #[.int .i64 (cur ts st).kind,.string (str (cur ts st).text),.int .i64 (cur ts st).n,.int .i64 ((cur ts st).at_:Int)] 63)) (.cells #[.int .i64 0,.int .i64 0,.string ⟨#[]⟩,.slice none 0 0,.int .i64 ((cur ts st).at_:Int)] 56))
          have hlt1:w.heap.size<w1.heap.size:=(by have:=hb.size;simp at this;omega)
          have hB2:=(Blk.new w 56 #[.int .i64 0,.int .i64 0,.string ⟨#[]⟩,.slice none 0 0,.int .i64 0]).grown (grown_below hb g) (fun e=>Nat.ne_of_gt hg (Option.some.inj e))
          have HB21:=Lib.hid ((hB2.alloc (.cells #[.int .i64 (cur ts st).kind,.string (str (cur ts st).text),.int .i64 (cur ts st).n,.int .i64 ((cur ts st).at_:Int)] 63)).alloc (.cells #[.int .i64 0,.int .i64 0,.string ⟨#[]⟩,.slice none 0 0,.int .i64 ((cur ts st).at_:Int)] 56))
          have HB31:=Lib.hid ((Blk.new w1 63 #[.int .i64 (cur ts st).kind,.string (str (cur ts st).text),.int .i64 (cur ts st).n,.int .i64 ((cur ts st).at_:Int)]).alloc (.cells #[.int .i64 0,.int .i64 0,.string ⟨#[]⟩,.slice none 0 0,.int .i64 ((cur ts st).at_:Int)] 56))
          have HB41:Hid (Blk ((w1.alloc (.cells #[.int .i64 (cur ts st).kind,.string (str (cur ts st).text),.int .i64 (cur ts st).n,.int .i64 ((cur ts st).at_:Int)] 63)).alloc (.cells #[.int .i64 0,.int .i64 0,.string ⟨#[]⟩,.slice none 0 0,.int .i64 ((cur ts st).at_:Int)] 56)) (w1.heap.size+1) 56 #[.int .i64 0,.int .i64 0,.string ⟨#[]⟩,.slice none 0 0,.int .i64 ((cur ts st).at_:Int)]):=Lib.hid (by have:=Blk.new (w1.alloc (.cells #[.int .i64 (cur ts st).kind,.string (str (cur ts st).text),.int .i64 (cur ts st).n,.int .i64 ((cur ts st).at_:Int)] 63)) 56 #[.int .i64 0,.int .i64 0,.string ⟨#[]⟩,.slice none 0 0,.int .i64 ((cur ts st).at_:Int)];simpa using this)
          have hr1:=hr.blk.lt
          obtain⟨z0,z1,z2,z3,z4⟩:=five_cells hB2
          obtain⟨fz0,fz1,fz2,fz3,fz4⟩:=five_frozen hB2
          clear hr hb hB2 H0 G0)
       | (go_at_call 47;(with_reducible refine (take_any _ _ _ _ _ H1.out).mono ?_);rintro e w2 ⟨rfl,hr,hb⟩
          have H2:=Lib.hid hr
          have G2:=Lib.hid (grown_then G1.out hb)
          have hB2:=HB21.out.grown hb (fun e=>Nat.ne_of_gt hg (Option.some.inj e))
          have hB3:=HB31.out.grown hb (fun e=>Nat.ne_of_gt hr1 (Option.some.inj e))
          have hB4:=HB41.out.grown hb (fun e=>by have:=Option.some.inj e;omega)
          have HB22:=Lib.hid hB2
          have HB32:=Lib.hid hB3
          have HB42:=Lib.hid hB4
          obtain⟨z0,z1,z2,z3,z4⟩:=five_cells hB2
          obtain⟨fz0,fz1,fz2,fz3,fz4⟩:=five_frozen hB2
          obtain⟨y0,y1,y2,y3,y4⟩:=five_cells hB4
          obtain⟨fy0,fy1,fy2,fy3,fy4⟩:=five_frozen hB4
          have q0:=hB3.cell 0
          have q1:=hB3.cell 1
          have q2:=hB3.cell 2
          have q3:=hB3.cell 3
          simp at q0 q1 q2 q3
          have hlt2:w1.heap.size+1<w2.heap.size:=hB4.lt
          clear hr hb hB2 hB3 hB4 H1 G1 HB21 HB31 HB41))
 have hne4:w.heap.size≠w1.heap.size+1:=by omega
 have hle4:w.heap.size≤w1.heap.size+1:=by omega
 refine bodyPost_ret (results_cell_row rfl _ _ w.heap.size 56 #[.int .i64 2,.int .i64 (cur ts st).n,.string ⟨#[]⟩,.slice none 0 0,.int .i64 ((cur ts st).at_:Int)] (0,0) _ rfl ?_ Try.underlying56 rfl (by kernel_rfl)) rfl ?_
 · exact five_blk ((HB22.out.far (p:=⟨w1.heap.size+1,0,none⟩) hne4 _).far (p:=⟨w1.heap.size+1,1,none⟩) hne4 _)
 · rw[HF.out]
   refine⟨.slice none 0 0,rfl,?_,?_,?_⟩
   · exact Kd.R_nil _ _ _ _ _
   · refine five_RS ?_ (HX.out _ (Nat.le_refl _))
     exact (RS.other (RS.other H2.out (HX.out _ hle4) 0 _) (HX.out _ hle4) 1 _)
   · refine five_gr ?_ (Nat.le_refl _)
     exact (grown_new (grown_new G2.out hle4 0 _) hle4 1 _)
theorem one_text (k:Nat) (w:World) (g:Nat) (v:Value) (st:St) (r:Ex×St) (h:RS w g v ts st) (hF:one ts (k+1) st=some r) (h2:¬(cur ts st).kind=2) (h3:(cur ts st).kind=3):Calls Try.prog 93 #[.pointer (some ⟨g,0,none⟩)] w (ExPost w g v ts r):=by
 have H0:=Lib.hid h
 have G0:=Lib.hid (grown_refl w g)
 have hg:=h.blk.lt
 have HX:=Lib.hid (fun X (hX:w.heap.size≤X)=>h.elder hX)
 rw[one,if_neg h2,if_pos h3] at hF
 injection hF with hF
 have HF:=Lib.hid hF.symm
 clear hF
 have hk2:((cur ts st).kind==2)=false:=beq_eq_false_iff_ne.mpr h2
 have hk3:((cur ts st).kind==3)=true:=beq_iff_eq.mpr h3
 clear h2 h3
 clear h
 go_enter Try.func93,Try.ntmps93
 go_wp2_with (first
       | (go_at_call 15;(with_reducible refine (now_any _ _ _ _ _ (H0.out.alloc _)).mono ?_);rintro e w1 ⟨rfl,hb⟩
          have hr:=((H0.out.alloc (.cells #[.int .i64 0,.int .i64 0,.string ⟨#[]⟩,.slice none 0 0,.int .i64 0] 56)).below hb)
          have H1:=Lib.hid ((hr.alloc (.cells #[.int .i64 (cur ts st).kind,.string (str (cur ts st).text),.int .i64 (cur ts st).n,.int .i64 ((cur ts st).at_:Int)] 63)).alloc (.cells #[.int .i64 0,.int .i64 0,.string ⟨#[]⟩,.slice none 0 0,.int .i64 ((cur ts st).at_:Int)] 56))
          have G1:=Lib.hid (grown_alloc (grown_alloc (grown_then (grown_alloc G0.out _) (grown_below hb g)) (.cells #[.int .i64 (cur ts st).kind,.string (str (cur ts st).text),.int .i64 (cur ts st).n,.int .i64 ((cur ts st).at_:Int)] 63)) (.cells #[.int .i64 0,.int .i64 0,.string ⟨#[]⟩,.slice none 0 0,.int .i64 ((cur ts st).at_:Int)] 56))
          have hlt1:w.heap.size<w1.heap.size:=(by have:=hb.size;simp at this;omega)
          have hB2:=(Blk.new w 56 #[.int .i64 0,.int .i64 0,.string ⟨#[]⟩,.slice none 0 0,.int .i64 0]).grown (grown_below hb g) (fun e=>Nat.ne_of_gt hg (Option.some.inj e))
          have HB21:=Lib.hid ((hB2.alloc (.cells #[.int .i64 (cur ts st).kind,.string (str (cur ts st).text),.int .i64 (cur ts st).n,.int .i64 ((cur ts st).at_:Int)] 63)).alloc (.cells #[.int .i64 0,.int .i64 0,.string ⟨#[]⟩,.slice none 0 0,.int .i64 ((cur ts st).at_:Int)] 56))
          have HB31:=Lib.hid ((Blk.new w1 63 #[.int .i64 (cur ts st).kind,.string (str (cur ts st).text),.int .i64 (cur ts st).n,.int .i64 ((cur ts st).at_:Int)]).alloc (.cells #[.int .i64 0,.int .i64 0,.string ⟨#[]⟩,.slice none 0 0,.int .i64 ((cur ts st).at_:Int)] 56))
          have HB41:Hid (Blk ((w1.alloc (.cells #[.int .i64 (cur ts st).kind,.string (str (cur ts st).text),.int .i64 (cur ts st).n,.int .i64 ((cur ts st).at_:Int)] 63)).alloc (.cells #[.int .i64 0,.int .i64 0,.string ⟨#[]⟩,.slice none 0 0,.int .i64 ((cur ts st).at_:Int)] 56)) (w1.heap.size+1) 56 #[.int .i64 0,.int .i64 0,.string ⟨#[]⟩,.slice none 0 0,.int .i64 ((cur ts st).at_:Int)]):=Lib.hid (by have:=Blk.new (w1.alloc (.cells #[.int .i64 (cur ts st).kind,.string (str (cur ts st).text),.int .i64 (cur ts st).n,.int .i64 ((cur ts st).at_:Int)] 63)) 56 #[.int .i64 0,.int .i64 0,.string ⟨#[]⟩,.slice none 0 0,.int .i64 ((cur ts st).at_:Int)];simpa using this)
          have hr1:=hr.blk.lt
          obtain⟨z0,z1,z2,z3,z4⟩:=five_cells hB2
          obtain⟨fz0,fz1,fz2,fz3,fz4⟩:=five_frozen hB2
          clear hr hb hB2 H0 G0)
       | (go_at_call 47;(with_reducible refine (take_any _ _ _ _ _ H1.out).mono ?_);rintro e w2 ⟨rfl,hr,hb⟩
          have H2:=Lib.hid hr
          have G2:=Lib.hid (grown_then G1.out hb)
          have hB2:=HB21.out.grown hb (fun e=>Nat.ne_of_gt hg (Option.some.inj e))
          have hB3:=HB31.out.grown hb (fun e=>Nat.ne_of_gt hr1 (Option.some.inj e))
          have hB4:=HB41.out.grown hb (fun e=>by have:=Option.some.inj e;omega)
          have HB22:=Lib.hid hB2
          have HB32:=Lib.hid hB3
          have HB42:=Lib.hid hB4
          obtain⟨z0,z1,z2,z3,z4⟩:=five_cells hB2
          obtain⟨fz0,fz1,fz2,fz3,fz4⟩:=five_frozen hB2
          obtain⟨y0,y1,y2,y3,y4⟩:=five_cells hB4
          obtain⟨fy0,fy1,fy2,fy3,fy4⟩:=five_frozen hB4
          have q0:=hB3.cell 0
          have q1:=hB3.cell 1
          have q2:=hB3.cell 2
          have q3:=hB3.cell 3
          simp at q0 q1 q2 q3
          have hlt2:w1.heap.size+1<w2.heap.size:=hB4.lt
          clear hr hb hB2 hB3 hB4 H1 G1 HB21 HB31 HB41))
 have hne4:w.heap.size≠w1.heap.size+1:=by omega
 have hle4:w.heap.size≤w1.heap.size+1:=by omega
 refine bodyPost_ret (results_cell_row rfl _ _ w.heap.size 56 #[.int .i64 3,.int .i64 0,.string (str (cur ts st).text),.slice none 0 0,.int .i64 ((cur ts st).at_:Int)] (0,0) _ rfl ?_ Try.underlying56 rfl (by kernel_rfl)) rfl ?_
 · exact five_blk ((HB22.out.far (p:=⟨w1.heap.size+1,0,none⟩) hne4 _).far (p:=⟨w1.heap.size+1,2,none⟩) hne4 _)
 · rw[HF.out]
   refine⟨.slice none 0 0,rfl,?_,?_,?_⟩
   · exact Kd.R_nil _ _ _ _ _
   · refine five_RS ?_ (HX.out _ (Nat.le_refl _))
     exact (RS.other (RS.other H2.out (HX.out _ hle4) 0 _) (HX.out _ hle4) 2 _)
   · refine five_gr ?_ (Nat.le_refl _)
     exact (grown_new (grown_new G2.out hle4 0 _) hle4 2 _)
theorem one_any (k:Nat) (w:World) (g:Nat) (v:Value) (st:St) (r:Ex×St) (h:RS w g v ts st) (hF:one ts (k+1) st=some r) (h2:¬(cur ts st).kind=2) (h3:¬(cur ts st).kind=3) (h1:(cur ts st).kind=1) (hU:(cur ts st).text=[95]):Calls Try.prog 93 #[.pointer (some ⟨g,0,none⟩)] w (ExPost w g v ts r):=by
 have H0:=Lib.hid h
 have G0:=Lib.hid (grown_refl w g)
 have hg:=h.blk.lt
 have HX:=Lib.hid (fun X (hX:w.heap.size≤X)=>h.elder hX)
 rw[one,if_neg h2,if_neg h3,if_pos h1,if_pos hU] at hF
 injection hF with hF
 have HF:=Lib.hid hF.symm
 clear hF
 have hk2:((cur ts st).kind==2)=false:=beq_eq_false_iff_ne.mpr h2
 have hk3:((cur ts st).kind==3)=false:=beq_eq_false_iff_ne.mpr h3
 have hk1:((cur ts st).kind==1)=true:=beq_iff_eq.mpr h1
 have hub:((str (cur ts st).text).toList==ByteArray.toList ⟨#[95]⟩)=true:=by rw[str_eq];exact decide_eq_true hU
 have hub2:((str (cur ts st).text).toList==[95])=true:=by rw[Lib.toList_data];simp[str,hU]
 clear h2 h3 h1 hU
 clear h
 go_enter Try.func93,Try.ntmps93
 go_wp2_with (first
       | (go_at_call 15;(with_reducible refine (now_any _ _ _ _ _ (H0.out.alloc _)).mono ?_);rintro e w1 ⟨rfl,hb⟩
          have hr:=((H0.out.alloc (.cells #[.int .i64 0,.int .i64 0,.string ⟨#[]⟩,.slice none 0 0,.int .i64 0] 56)).below hb)
          have H1:=Lib.hid ((hr.alloc (.cells #[.int .i64 (cur ts st).kind,.string (str (cur ts st).text),.int .i64 (cur ts st).n,.int .i64 ((cur ts st).at_:Int)] 63)).alloc (.cells #[.int .i64 0,.int .i64 0,.string ⟨#[]⟩,.slice none 0 0,.int .i64 ((cur ts st).at_:Int)] 56))
          have G1:=Lib.hid (grown_alloc (grown_alloc (grown_then (grown_alloc G0.out _) (grown_below hb g)) (.cells #[.int .i64 (cur ts st).kind,.string (str (cur ts st).text),.int .i64 (cur ts st).n,.int .i64 ((cur ts st).at_:Int)] 63)) (.cells #[.int .i64 0,.int .i64 0,.string ⟨#[]⟩,.slice none 0 0,.int .i64 ((cur ts st).at_:Int)] 56))
          have hlt1:w.heap.size<w1.heap.size:=(by have:=hb.size;simp at this;omega)
          have hB2:=(Blk.new w 56 #[.int .i64 0,.int .i64 0,.string ⟨#[]⟩,.slice none 0 0,.int .i64 0]).grown (grown_below hb g) (fun e=>Nat.ne_of_gt hg (Option.some.inj e))
          have HB21:=Lib.hid ((hB2.alloc (.cells #[.int .i64 (cur ts st).kind,.string (str (cur ts st).text),.int .i64 (cur ts st).n,.int .i64 ((cur ts st).at_:Int)] 63)).alloc (.cells #[.int .i64 0,.int .i64 0,.string ⟨#[]⟩,.slice none 0 0,.int .i64 ((cur ts st).at_:Int)] 56))
          have HB31:=Lib.hid ((Blk.new w1 63 #[.int .i64 (cur ts st).kind,.string (str (cur ts st).text),.int .i64 (cur ts st).n,.int .i64 ((cur ts st).at_:Int)]).alloc (.cells #[.int .i64 0,.int .i64 0,.string ⟨#[]⟩,.slice none 0 0,.int .i64 ((cur ts st).at_:Int)] 56))
          have HB41:Hid (Blk ((w1.alloc (.cells #[.int .i64 (cur ts st).kind,.string (str (cur ts st).text),.int .i64 (cur ts st).n,.int .i64 ((cur ts st).at_:Int)] 63)).alloc (.cells #[.int .i64 0,.int .i64 0,.string ⟨#[]⟩,.slice none 0 0,.int .i64 ((cur ts st).at_:Int)] 56)) (w1.heap.size+1) 56 #[.int .i64 0,.int .i64 0,.string ⟨#[]⟩,.slice none 0 0,.int .i64 ((cur ts st).at_:Int)]):=Lib.hid (by have:=Blk.new (w1.alloc (.cells #[.int .i64 (cur ts st).kind,.string (str (cur ts st).text),.int .i64 (cur ts st).n,.int .i64 ((cur ts st).at_:Int)] 63)) 56 #[.int .i64 0,.int .i64 0,.string ⟨#[]⟩,.slice none 0 0,.int .i64 ((cur ts st).at_:Int)];simpa using this)
          have hr1:=hr.blk.lt
          obtain⟨z0,z1,z2,z3,z4⟩:=five_cells hB2
          obtain⟨fz0,fz1,fz2,fz3,fz4⟩:=five_frozen hB2
          clear hr hb hB2 H0 G0)
       | (go_at_call 47;(with_reducible refine (take_any _ _ _ _ _ H1.out).mono ?_);rintro e w2 ⟨rfl,hr,hb⟩
          have H2:=Lib.hid hr
          have G2:=Lib.hid (grown_then G1.out hb)
          have hB2:=HB21.out.grown hb (fun e=>Nat.ne_of_gt hg (Option.some.inj e))
          have hB3:=HB31.out.grown hb (fun e=>Nat.ne_of_gt hr1 (Option.some.inj e))
          have hB4:=HB41.out.grown hb (fun e=>by have:=Option.some.inj e;omega)
          have HB22:=Lib.hid hB2
          have HB32:=Lib.hid hB3
          have HB42:=Lib.hid hB4
          obtain⟨z0,z1,z2,z3,z4⟩:=five_cells hB2
          obtain⟨fz0,fz1,fz2,fz3,fz4⟩:=five_frozen hB2
          obtain⟨y0,y1,y2,y3,y4⟩:=five_cells hB4
          obtain⟨fy0,fy1,fy2,fy3,fy4⟩:=five_frozen hB4
          have q0:=hB3.cell 0
          have q1:=hB3.cell 1
          have q2:=hB3.cell 2
          have q3:=hB3.cell 3
          simp at q0 q1 q2 q3
          have hlt2:w1.heap.size+1<w2.heap.size:=hB4.lt
          clear hr hb hB2 hB3 hB4 H1 G1 HB21 HB31 HB41))
 have hne4:w.heap.size≠w1.heap.size+1:=by omega
 have hle4:w.heap.size≤w1.heap.size+1:=by omega
 refine bodyPost_ret (results_cell_row rfl _ _ w.heap.size 56 #[.int .i64 4,.int .i64 0,.string ⟨#[]⟩,.slice none 0 0,.int .i64 ((cur ts st).at_:Int)] (0,0) _ rfl ?_ Try.underlying56 rfl (by kernel_rfl)) rfl ?_
 · exact five_blk (HB22.out.far (p:=⟨w1.heap.size+1,0,none⟩) hne4 _)
 · rw[HF.out]
   refine⟨.slice none 0 0,rfl,?_,?_,?_⟩
   · exact Kd.R_nil _ _ _ _ _
   · refine five_RS ?_ (HX.out _ (Nat.le_refl _))
     exact (RS.other H2.out (HX.out _ hle4) 0 _)
   · refine five_gr ?_ (Nat.le_refl _)
     exact (grown_new G2.out hle4 0 _)
theorem one_var (k:Nat) (w:World) (g:Nat) (v:Value) (st:St) (r:Ex×St) (h:RS w g v ts st) (hF:one ts (k+1) st=some r) (h2:¬(cur ts st).kind=2) (h3:¬(cur ts st).kind=3) (h1:(cur ts st).kind=1) (hU:¬(cur ts st).text=[95]):Calls Try.prog 93 #[.pointer (some ⟨g,0,none⟩)] w (ExPost w g v ts r):=by
 have H0:=Lib.hid h
 have G0:=Lib.hid (grown_refl w g)
 have hg:=h.blk.lt
 have HX:=Lib.hid (fun X (hX:w.heap.size≤X)=>h.elder hX)
 rw[one,if_neg h2,if_neg h3,if_pos h1,if_neg hU] at hF
 injection hF with hF
 have HF:=Lib.hid hF.symm
 clear hF
 have hk2:((cur ts st).kind==2)=false:=beq_eq_false_iff_ne.mpr h2
 have hk3:((cur ts st).kind==3)=false:=beq_eq_false_iff_ne.mpr h3
 have hk1:((cur ts st).kind==1)=true:=beq_iff_eq.mpr h1
 have hub:((str (cur ts st).text).toList==ByteArray.toList ⟨#[95]⟩)=false:=by rw[str_eq];exact decide_eq_false hU
 have hub2:((str (cur ts st).text).toList==[95])=false:=by rw[Lib.toList_data];simp[str,hU]
 clear h2 h3 h1 hU
 clear h
 go_enter Try.func93,Try.ntmps93
 go_wp2_with (first
       | (go_at_call 15;(with_reducible refine (now_any _ _ _ _ _ (H0.out.alloc _)).mono ?_);rintro e w1 ⟨rfl,hb⟩
          have hr:=((H0.out.alloc (.cells #[.int .i64 0,.int .i64 0,.string ⟨#[]⟩,.slice none 0 0,.int .i64 0] 56)).below hb)
          have H1:=Lib.hid ((hr.alloc (.cells #[.int .i64 (cur ts st).kind,.string (str (cur ts st).text),.int .i64 (cur ts st).n,.int .i64 ((cur ts st).at_:Int)] 63)).alloc (.cells #[.int .i64 0,.int .i64 0,.string ⟨#[]⟩,.slice none 0 0,.int .i64 ((cur ts st).at_:Int)] 56))
          have G1:=Lib.hid (grown_alloc (grown_alloc (grown_then (grown_alloc G0.out _) (grown_below hb g)) (.cells #[.int .i64 (cur ts st).kind,.string (str (cur ts st).text),.int .i64 (cur ts st).n,.int .i64 ((cur ts st).at_:Int)] 63)) (.cells #[.int .i64 0,.int .i64 0,.string ⟨#[]⟩,.slice none 0 0,.int .i64 ((cur ts st).at_:Int)] 56))
          have hlt1:w.heap.size<w1.heap.size:=(by have:=hb.size;simp at this;omega)
          have hB2:=(Blk.new w 56 #[.int .i64 0,.int .i64 0,.string ⟨#[]⟩,.slice none 0 0,.int .i64 0]).grown (grown_below hb g) (fun e=>Nat.ne_of_gt hg (Option.some.inj e))
          have HB21:=Lib.hid ((hB2.alloc (.cells #[.int .i64 (cur ts st).kind,.string (str (cur ts st).text),.int .i64 (cur ts st).n,.int .i64 ((cur ts st).at_:Int)] 63)).alloc (.cells #[.int .i64 0,.int .i64 0,.string ⟨#[]⟩,.slice none 0 0,.int .i64 ((cur ts st).at_:Int)] 56))
          have HB31:=Lib.hid ((Blk.new w1 63 #[.int .i64 (cur ts st).kind,.string (str (cur ts st).text),.int .i64 (cur ts st).n,.int .i64 ((cur ts st).at_:Int)]).alloc (.cells #[.int .i64 0,.int .i64 0,.string ⟨#[]⟩,.slice none 0 0,.int .i64 ((cur ts st).at_:Int)] 56))
          have HB41:Hid (Blk ((w1.alloc (.cells #[.int .i64 (cur ts st).kind,.string (str (cur ts st).text),.int .i64 (cur ts st).n,.int .i64 ((cur ts st).at_:Int)] 63)).alloc (.cells #[.int .i64 0,.int .i64 0,.string ⟨#[]⟩,.slice none 0 0,.int .i64 ((cur ts st).at_:Int)] 56)) (w1.heap.size+1) 56 #[.int .i64 0,.int .i64 0,.string ⟨#[]⟩,.slice none 0 0,.int .i64 ((cur ts st).at_:Int)]):=Lib.hid (by have:=Blk.new (w1.alloc (.cells #[.int .i64 (cur ts st).kind,.string (str (cur ts st).text),.int .i64 (cur ts st).n,.int .i64 ((cur ts st).at_:Int)] 63)) 56 #[.int .i64 0,.int .i64 0,.string ⟨#[]⟩,.slice none 0 0,.int .i64 ((cur ts st).at_:Int)];simpa using this)
          have hr1:=hr.blk.lt
          obtain⟨z0,z1,z2,z3,z4⟩:=five_cells hB2
          obtain⟨fz0,fz1,fz2,fz3,fz4⟩:=five_frozen hB2
          clear hr hb hB2 H0 G0)
       | (go_at_call 49;(with_reducible refine (word_any _ _ _ _ _ H1.out).mono ?_);rintro e w2 ⟨rfl,hr,hb⟩
          have H2:=Lib.hid hr
          have G2:=Lib.hid (grown_then G1.out hb)
          have hB2:=HB21.out.grown hb (fun e=>Nat.ne_of_gt hg (Option.some.inj e))
          have hB3:=HB31.out.grown hb (fun e=>Nat.ne_of_gt hr1 (Option.some.inj e))
          have hB4:=HB41.out.grown hb (fun e=>by have:=Option.some.inj e;omega)
          have HB22:=Lib.hid hB2
          have HB32:=Lib.hid hB3
          have HB42:=Lib.hid hB4
          obtain⟨z0,z1,z2,z3,z4⟩:=five_cells hB2
          obtain⟨fz0,fz1,fz2,fz3,fz4⟩:=five_frozen hB2
          obtain⟨y0,y1,y2,y3,y4⟩:=five_cells hB4
          obtain⟨fy0,fy1,fy2,fy3,fy4⟩:=five_frozen hB4
          have q0:=hB3.cell 0
          have q1:=hB3.cell 1
          have q2:=hB3.cell 2
          have q3:=hB3.cell 3
          simp at q0 q1 q2 q3
          have hlt2:w1.heap.size+1<w2.heap.size:=hB4.lt
          clear hr hb hB2 hB3 hB4 H1 G1 HB21 HB31 HB41))
 have hne4:w.heap.size≠w1.heap.size+1:=by omega
 have hle4:w.heap.size≤w1.heap.size+1:=by omega
 refine bodyPost_ret (results_cell_row rfl _ _ w.heap.size 56 #[.int .i64 1,.int .i64 0,.string (word ts st).1,.slice none 0 0,.int .i64 ((cur ts st).at_:Int)] (0,0) _ rfl ?_ Try.underlying56 rfl (by kernel_rfl)) rfl ?_
 · exact five_blk ((HB22.out.far (p:=⟨w1.heap.size+1,0,none⟩) hne4 _).far (p:=⟨w1.heap.size+1,2,none⟩) hne4 _)
 · rw[HF.out]
   refine⟨.slice none 0 0,rfl,?_,?_,?_⟩
   · exact Kd.R_nil _ _ _ _ _
   · refine five_RS ?_ (HX.out _ (Nat.le_refl _))
     exact (RS.other (RS.other H2.out (HX.out _ hle4) 0 _) (HX.out _ hle4) 2 _)
   · refine five_gr ?_ (Nat.le_refl _)
     exact (grown_new (grown_new G2.out hle4 0 _) hle4 2 _)
theorem one_neg (k:Nat) (w:World) (g:Nat) (v:Value) (st:St) (r:Ex×St) (h:RS w g v ts st) (hF:one ts (k+1) st=some r) (h2:¬(cur ts st).kind=2) (h3:¬(cur ts st).kind=3) (h1:¬(cur ts st).kind=1) (hy1:(may ts [45] st).1=true) (hn2:(cur ts (may ts [45] st).2).kind=2):Calls Try.prog 93 #[.pointer (some ⟨g,0,none⟩)] w (ExPost w g v ts r):=by
 have H0:=Lib.hid h
 have G0:=Lib.hid (grown_refl w g)
 have hg:=h.blk.lt
 have HX:=Lib.hid (fun X (hX:w.heap.size≤X)=>h.elder hX)
 rw[one,if_neg h2,if_neg h3,if_neg h1,if_pos hy1,if_pos hn2] at hF
 injection hF with hF
 have HF:=Lib.hid hF.symm
 clear hF
 have hk2:((cur ts st).kind==2)=false:=beq_eq_false_iff_ne.mpr h2
 have hk3:((cur ts st).kind==3)=false:=beq_eq_false_iff_ne.mpr h3
 have hk1:((cur ts st).kind==1)=false:=beq_eq_false_iff_ne.mpr h1
 have hm1:(may ts (ByteArray.mk #[45]).data.toList st).1=true:=hy1
 have hk2b:((cur ts (may ts (ByteArray.mk #[45]).data.toList st).2).kind==2)=true:=beq_iff_eq.mpr hn2
 clear h2 h3 h1 hy1 hn2
 clear h
 go_enter Try.func93,Try.ntmps93
 go_wp2_with (first
       | (go_at_call 15;(with_reducible refine (now_any _ _ _ _ _ (H0.out.alloc _)).mono ?_);rintro e w1 ⟨rfl,hb⟩
          have hr:=((H0.out.alloc (.cells #[.int .i64 0,.int .i64 0,.string ⟨#[]⟩,.slice none 0 0,.int .i64 0] 56)).below hb)
          have H1:=Lib.hid ((hr.alloc (.cells #[.int .i64 (cur ts st).kind,.string (str (cur ts st).text),.int .i64 (cur ts st).n,.int .i64 ((cur ts st).at_:Int)] 63)).alloc (.cells #[.int .i64 0,.int .i64 0,.string ⟨#[]⟩,.slice none 0 0,.int .i64 ((cur ts st).at_:Int)] 56))
          have G1:=Lib.hid (grown_alloc (grown_alloc (grown_then (grown_alloc G0.out _) (grown_below hb g)) (.cells #[.int .i64 (cur ts st).kind,.string (str (cur ts st).text),.int .i64 (cur ts st).n,.int .i64 ((cur ts st).at_:Int)] 63)) (.cells #[.int .i64 0,.int .i64 0,.string ⟨#[]⟩,.slice none 0 0,.int .i64 ((cur ts st).at_:Int)] 56))
          have hlt1:w.heap.size<w1.heap.size:=(by have:=hb.size;simp at this;omega)
          have hB2:=(Blk.new w 56 #[.int .i64 0,.int .i64 0,.string ⟨#[]⟩,.slice none 0 0,.int .i64 0]).grown (grown_below hb g) (fun e=>Nat.ne_of_gt hg (Option.some.inj e))
          have HB21:=Lib.hid ((hB2.alloc (.cells #[.int .i64 (cur ts st).kind,.string (str (cur ts st).text),.int .i64 (cur ts st).n,.int .i64 ((cur ts st).at_:Int)] 63)).alloc (.cells #[.int .i64 0,.int .i64 0,.string ⟨#[]⟩,.slice none 0 0,.int .i64 ((cur ts st).at_:Int)] 56))
          have HB31:=Lib.hid ((Blk.new w1 63 #[.int .i64 (cur ts st).kind,.string (str (cur ts st).text),.int .i64 (cur ts st).n,.int .i64 ((cur ts st).at_:Int)]).alloc (.cells #[.int .i64 0,.int .i64 0,.string ⟨#[]⟩,.slice none 0 0,.int .i64 ((cur ts st).at_:Int)] 56))
          have HB41:Hid (Blk ((w1.alloc (.cells #[.int .i64 (cur ts st).kind,.string (str (cur ts st).text),.int .i64 (cur ts st).n,.int .i64 ((cur ts st).at_:Int)] 63)).alloc (.cells #[.int .i64 0,.int .i64 0,.string ⟨#[]⟩,.slice none 0 0,.int .i64 ((cur ts st).at_:Int)] 56)) (w1.heap.size+1) 56 #[.int .i64 0,.int .i64 0,.string ⟨#[]⟩,.slice none 0 0,.int .i64 ((cur ts st).at_:Int)]):=Lib.hid (by have:=Blk.new (w1.alloc (.cells #[.int .i64 (cur ts st).kind,.string (str (cur ts st).text),.int .i64 (cur ts st).n,.int .i64 ((cur ts st).at_:Int)] 63)) 56 #[.int .i64 0,.int .i64 0,.string ⟨#[]⟩,.slice none 0 0,.int .i64 ((cur ts st).at_:Int)];simpa using this)
          have hr1:=hr.blk.lt
          obtain⟨z0,z1,z2,z3,z4⟩:=five_cells hB2
          obtain⟨fz0,fz1,fz2,fz3,fz4⟩:=five_frozen hB2
          clear hr hb hB2 H0 G0)
       | (go_at_call 43;(with_reducible refine (may_any _ _ _ _ _ _ H1.out).mono ?_);rintro e w2 ⟨rfl,hr,hb⟩
          have H2:=Lib.hid hr
          have G2:=Lib.hid (grown_then G1.out hb)
          have hB2:=HB21.out.grown hb (fun e=>Nat.ne_of_gt hg (Option.some.inj e))
          have hB3:=HB31.out.grown hb (fun e=>Nat.ne_of_gt hr1 (Option.some.inj e))
          have hB4:=HB41.out.grown hb (fun e=>by have:=Option.some.inj e;omega)
          have HB22:=Lib.hid hB2
          have HB32:=Lib.hid hB3
          have HB42:=Lib.hid hB4
          obtain⟨z0,z1,z2,z3,z4⟩:=five_cells hB2
          obtain⟨fz0,fz1,fz2,fz3,fz4⟩:=five_frozen hB2
          obtain⟨y0,y1,y2,y3,y4⟩:=five_cells hB4
          obtain⟨fy0,fy1,fy2,fy3,fy4⟩:=five_frozen hB4
          have q0:=hB3.cell 0
          have q1:=hB3.cell 1
          have q2:=hB3.cell 2
          have q3:=hB3.cell 3
          simp at q0 q1 q2 q3
          have hlt2:w1.heap.size+1<w2.heap.size:=hB4.lt
          clear hr hb hB2 hB3 hB4 H1 G1 HB21 HB31 HB41)
       | (go_at_call 15;(with_reducible refine (now_any _ _ _ _ _ H2.out).mono ?_);rintro e w3 ⟨rfl,hl⟩
          have hb:=grown_below hl g
          have hr:=H2.out.below hl
          have H3:=Lib.hid hr
          have G3:=Lib.hid (grown_then G2.out hb)
          have hB2:=HB22.out.grown hb (fun e=>Nat.ne_of_gt hg (Option.some.inj e))
          have hB3:=HB32.out.grown hb (fun e=>Nat.ne_of_gt hr1 (Option.some.inj e))
          have hB4:=HB42.out.grown hb (fun e=>by have:=Option.some.inj e;omega)
          have HB23:=Lib.hid hB2
          have HB33:=Lib.hid hB3
          have HB43:=Lib.hid hB4
          obtain⟨z0,z1,z2,z3,z4⟩:=five_cells hB2
          obtain⟨fz0,fz1,fz2,fz3,fz4⟩:=five_frozen hB2
          obtain⟨y0,y1,y2,y3,y4⟩:=five_cells hB4
          obtain⟨fy0,fy1,fy2,fy3,fy4⟩:=five_frozen hB4
          have q0:=hB3.cell 0
          have q1:=hB3.cell 1
          have q2:=hB3.cell 2
          have q3:=hB3.cell 3
          simp at q0 q1 q2 q3
          have hlt3:w1.heap.size+1<w3.heap.size:=hB4.lt
          clear hr hb hB2 hB3 hB4 hl H2 G2 HB22 HB32 HB42)
       | (go_at_call 47;(with_reducible refine (take_any _ _ _ _ _ H3.out).mono ?_);rintro e w4 ⟨rfl,hr,hb⟩
          have H4:=Lib.hid hr
          have G4:=Lib.hid (grown_then G3.out hb)
          have hB2:=HB23.out.grown hb (fun e=>Nat.ne_of_gt hg (Option.some.inj e))
          have hB3:=HB33.out.grown hb (fun e=>Nat.ne_of_gt hr1 (Option.some.inj e))
          have hB4:=HB43.out.grown hb (fun e=>by have:=Option.some.inj e;omega)
          have HB24:=Lib.hid hB2
          have HB34:=Lib.hid hB3
          have HB44:=Lib.hid hB4
          obtain⟨z0,z1,z2,z3,z4⟩:=five_cells hB2
          obtain⟨fz0,fz1,fz2,fz3,fz4⟩:=five_frozen hB2
          obtain⟨y0,y1,y2,y3,y4⟩:=five_cells hB4
          obtain⟨fy0,fy1,fy2,fy3,fy4⟩:=five_frozen hB4
          have q0:=hB3.cell 0
          have q1:=hB3.cell 1
          have q2:=hB3.cell 2
          have q3:=hB3.cell 3
          simp at q0 q1 q2 q3
          have hlt4:w1.heap.size+1<w4.heap.size:=hB4.lt
          clear hr hb hB2 hB3 hB4 H3 G3 HB23 HB33 HB43))
 have hne4:w.heap.size≠w1.heap.size+1:=by omega
 have hle4:w.heap.size≤w1.heap.size+1:=by omega
 refine bodyPost_ret (results_cell_row rfl _ _ w.heap.size 56 #[.int .i64 2,.int .i64 (wrap64 (-(cur ts (may ts [45] st).2).n)),.string ⟨#[]⟩,.slice none 0 0,.int .i64 ((cur ts st).at_:Int)] (0,0) _ rfl ?_ Try.underlying56 rfl (by kernel_rfl)) rfl ?_
 · exact five_blk ((HB24.out.far (p:=⟨w1.heap.size+1,0,none⟩) hne4 _).far (p:=⟨w1.heap.size+1,1,none⟩) hne4 _)
 · rw[HF.out]
   refine⟨.slice none 0 0,rfl,?_,?_,?_⟩
   · exact Kd.R_nil _ _ _ _ _
   · refine five_RS ?_ (HX.out _ (Nat.le_refl _))
     exact (RS.other (RS.other H4.out (HX.out _ hle4) 0 _) (HX.out _ hle4) 1 _)
   · refine five_gr ?_ (Nat.le_refl _)
     exact (grown_new (grown_new G4.out hle4 0 _) hle4 1 _)
theorem one_bad (k:Nat) (w:World) (g:Nat) (v:Value) (st:St) (r:Ex×St) (h:RS w g v ts st) (hF:one ts (k+1) st=some r) (h2:¬(cur ts st).kind=2) (h3:¬(cur ts st).kind=3) (h1:¬(cur ts st).kind=1) (hy1:(may ts [45] st).1=false) (hy2:(may ts [40] st).1=false) (hy3:(may ts [36] st).1=false):Calls Try.prog 93 #[.pointer (some ⟨g,0,none⟩)] w (ExPost w g v ts r):=by
 have H0:=Lib.hid h
 have G0:=Lib.hid (grown_refl w g)
 have hg:=h.blk.lt
 have HX:=Lib.hid (fun X (hX:w.heap.size≤X)=>h.elder hX)
 rw[one,if_neg h2,if_neg h3,if_neg h1,if_neg (by simp[hy1]),if_neg (by simp[hy2]),if_neg (by simp[hy3])] at hF
 injection hF with hF
 have HF:=Lib.hid hF.symm
 clear hF
 have hk2:((cur ts st).kind==2)=false:=beq_eq_false_iff_ne.mpr h2
 have hk3:((cur ts st).kind==3)=false:=beq_eq_false_iff_ne.mpr h3
 have hk1:((cur ts st).kind==1)=false:=beq_eq_false_iff_ne.mpr h1
 have hm1:(may ts (ByteArray.mk #[45]).data.toList st).1=false:=hy1
 have hm2:(may ts (ByteArray.mk #[40]).data.toList st).1=false:=hy2
 have hm3:(may ts (ByteArray.mk #[36]).data.toList st).1=false:=hy3
 clear h2 h3 h1 hy1 hy2 hy3
 clear h
 go_enter Try.func93,Try.ntmps93
 go_wp2_with (first
       | (go_at_call 15;(with_reducible refine (now_any _ _ _ _ _ (H0.out.alloc _)).mono ?_);rintro e w1 ⟨rfl,hb⟩
          have hr:=((H0.out.alloc (.cells #[.int .i64 0,.int .i64 0,.string ⟨#[]⟩,.slice none 0 0,.int .i64 0] 56)).below hb)
          have H1:=Lib.hid ((hr.alloc (.cells #[.int .i64 (cur ts st).kind,.string (str (cur ts st).text),.int .i64 (cur ts st).n,.int .i64 ((cur ts st).at_:Int)] 63)).alloc (.cells #[.int .i64 0,.int .i64 0,.string ⟨#[]⟩,.slice none 0 0,.int .i64 ((cur ts st).at_:Int)] 56))
          have G1:=Lib.hid (grown_alloc (grown_alloc (grown_then (grown_alloc G0.out _) (grown_below hb g)) (.cells #[.int .i64 (cur ts st).kind,.string (str (cur ts st).text),.int .i64 (cur ts st).n,.int .i64 ((cur ts st).at_:Int)] 63)) (.cells #[.int .i64 0,.int .i64 0,.string ⟨#[]⟩,.slice none 0 0,.int .i64 ((cur ts st).at_:Int)] 56))
          have hlt1:w.heap.size<w1.heap.size:=(by have:=hb.size;simp at this;omega)
          have hB2:=(Blk.new w 56 #[.int .i64 0,.int .i64 0,.string ⟨#[]⟩,.slice none 0 0,.int .i64 0]).grown (grown_below hb g) (fun e=>Nat.ne_of_gt hg (Option.some.inj e))
          have HB21:=Lib.hid ((hB2.alloc (.cells #[.int .i64 (cur ts st).kind,.string (str (cur ts st).text),.int .i64 (cur ts st).n,.int .i64 ((cur ts st).at_:Int)] 63)).alloc (.cells #[.int .i64 0,.int .i64 0,.string ⟨#[]⟩,.slice none 0 0,.int .i64 ((cur ts st).at_:Int)] 56))
          have HB31:=Lib.hid ((Blk.new w1 63 #[.int .i64 (cur ts st).kind,.string (str (cur ts st).text),.int .i64 (cur ts st).n,.int .i64 ((cur ts st).at_:Int)]).alloc (.cells #[.int .i64 0,.int .i64 0,.string ⟨#[]⟩,.slice none 0 0,.int .i64 ((cur ts st).at_:Int)] 56))
          have HB41:Hid (Blk ((w1.alloc (.cells #[.int .i64 (cur ts st).kind,.string (str (cur ts st).text),.int .i64 (cur ts st).n,.int .i64 ((cur ts st).at_:Int)] 63)).alloc (.cells #[.int .i64 0,.int .i64 0,.string ⟨#[]⟩,.slice none 0 0,.int .i64 ((cur ts st).at_:Int)] 56)) (w1.heap.size+1) 56 #[.int .i64 0,.int .i64 0,.string ⟨#[]⟩,.slice none 0 0,.int .i64 ((cur ts st).at_:Int)]):=Lib.hid (by have:=Blk.new (w1.alloc (.cells #[.int .i64 (cur ts st).kind,.string (str (cur ts st).text),.int .i64 (cur ts st).n,.int .i64 ((cur ts st).at_:Int)] 63)) 56 #[.int .i64 0,.int .i64 0,.string ⟨#[]⟩,.slice none 0 0,.int .i64 ((cur ts st).at_:Int)];simpa using this)
          have hr1:=hr.blk.lt
          obtain⟨z0,z1,z2,z3,z4⟩:=five_cells hB2
          obtain⟨fz0,fz1,fz2,fz3,fz4⟩:=five_frozen hB2
          clear hr hb hB2 H0 G0)
       | (go_at_call 43;(with_reducible refine (may_any _ _ _ _ _ _ H1.out).mono ?_);rintro e w2 ⟨rfl,hr,hb⟩
          rw[may_same hm1] at hr
          have H2:=Lib.hid hr
          have G2:=Lib.hid (grown_then G1.out hb)
          have hB2:=HB21.out.grown hb (fun e=>Nat.ne_of_gt hg (Option.some.inj e))
          have hB3:=HB31.out.grown hb (fun e=>Nat.ne_of_gt hr1 (Option.some.inj e))
          have hB4:=HB41.out.grown hb (fun e=>by have:=Option.some.inj e;omega)
          have HB22:=Lib.hid hB2
          have HB32:=Lib.hid hB3
          have HB42:=Lib.hid hB4
          obtain⟨z0,z1,z2,z3,z4⟩:=five_cells hB2
          obtain⟨fz0,fz1,fz2,fz3,fz4⟩:=five_frozen hB2
          obtain⟨y0,y1,y2,y3,y4⟩:=five_cells hB4
          obtain⟨fy0,fy1,fy2,fy3,fy4⟩:=five_frozen hB4
          have q0:=hB3.cell 0
          have q1:=hB3.cell 1
          have q2:=hB3.cell 2
          have q3:=hB3.cell 3
          simp at q0 q1 q2 q3
          have hlt2:w1.heap.size+1<w2.heap.size:=hB4.lt
          clear hr hb hB2 hB3 hB4 H1 G1 HB21 HB31 HB41)
       | (go_at_call 43;(with_reducible refine (may_any _ _ _ _ _ _ H2.out).mono ?_);rintro e w3 ⟨rfl,hr,hb⟩
          rw[may_same hm2] at hr
          have H3:=Lib.hid hr
          have G3:=Lib.hid (grown_then G2.out hb)
          have hB2:=HB22.out.grown hb (fun e=>Nat.ne_of_gt hg (Option.some.inj e))
          have hB3:=HB32.out.grown hb (fun e=>Nat.ne_of_gt hr1 (Option.some.inj e))
          have hB4:=HB42.out.grown hb (fun e=>by have:=Option.some.inj e;omega)
          have HB23:=Lib.hid hB2
          have HB33:=Lib.hid hB3
          have HB43:=Lib.hid hB4
          obtain⟨z0,z1,z2,z3,z4⟩:=five_cells hB2
          obtain⟨fz0,fz1,fz2,fz3,fz4⟩:=five_frozen hB2
          obtain⟨y0,y1,y2,y3,y4⟩:=five_cells hB4
          obtain⟨fy0,fy1,fy2,fy3,fy4⟩:=five_frozen hB4
          have q0:=hB3.cell 0
          have q1:=hB3.cell 1
          have q2:=hB3.cell 2
          have q3:=hB3.cell 3
          simp at q0 q1 q2 q3
          have hlt3:w1.heap.size+1<w3.heap.size:=hB4.lt
          clear hr hb hB2 hB3 hB4 H2 G2 HB22 HB32 HB42)
       | (go_at_call 43;(with_reducible refine (may_any _ _ _ _ _ _ H3.out).mono ?_);rintro e w4 ⟨rfl,hr,hb⟩
          rw[may_same hm3] at hr
          have H4:=Lib.hid hr
          have G4:=Lib.hid (grown_then G3.out hb)
          have hB2:=HB23.out.grown hb (fun e=>Nat.ne_of_gt hg (Option.some.inj e))
          have hB3:=HB33.out.grown hb (fun e=>Nat.ne_of_gt hr1 (Option.some.inj e))
          have hB4:=HB43.out.grown hb (fun e=>by have:=Option.some.inj e;omega)
          have HB24:=Lib.hid hB2
          have HB34:=Lib.hid hB3
          have HB44:=Lib.hid hB4
          obtain⟨z0,z1,z2,z3,z4⟩:=five_cells hB2
          obtain⟨fz0,fz1,fz2,fz3,fz4⟩:=five_frozen hB2
          obtain⟨y0,y1,y2,y3,y4⟩:=five_cells hB4
          obtain⟨fy0,fy1,fy2,fy3,fy4⟩:=five_frozen hB4
          have q0:=hB3.cell 0
          have q1:=hB3.cell 1
          have q2:=hB3.cell 2
          have q3:=hB3.cell 3
          simp at q0 q1 q2 q3
          have hlt4:w1.heap.size+1<w4.heap.size:=hB4.lt
          clear hr hb hB2 hB3 hB4 H3 G3 HB23 HB33 HB43)
       | (go_at_call 16;(with_reducible refine (fails_any _ _ _ _ _ _ H4.out).mono ?_);rintro e w5 ⟨rfl,hr,hb⟩
          have H5:=Lib.hid hr
          have G5:=Lib.hid (grown_then G4.out hb)
          have hB2:=HB24.out.grown hb (fun e=>Nat.ne_of_gt hg (Option.some.inj e))
          have hB3:=HB34.out.grown hb (fun e=>Nat.ne_of_gt hr1 (Option.some.inj e))
          have hB4:=HB44.out.grown hb (fun e=>by have:=Option.some.inj e;omega)
          have HB25:=Lib.hid hB2
          have HB35:=Lib.hid hB3
          have HB45:=Lib.hid hB4
          obtain⟨z0,z1,z2,z3,z4⟩:=five_cells hB2
          obtain⟨fz0,fz1,fz2,fz3,fz4⟩:=five_frozen hB2
          obtain⟨y0,y1,y2,y3,y4⟩:=five_cells hB4
          obtain⟨fy0,fy1,fy2,fy3,fy4⟩:=five_frozen hB4
          have q0:=hB3.cell 0
          have q1:=hB3.cell 1
          have q2:=hB3.cell 2
          have q3:=hB3.cell 3
          simp at q0 q1 q2 q3
          have hlt5:w1.heap.size+1<w5.heap.size:=hB4.lt
          clear hr hb hB2 hB3 hB4 H4 G4 HB24 HB34 HB44))
 have hne4:w.heap.size≠w1.heap.size+1:=by omega
 have hle4:w.heap.size≤w1.heap.size+1:=by omega
 refine bodyPost_ret (results_cell_row rfl _ _ w.heap.size 56 #[.int .i64 0,.int .i64 0,.string ⟨#[]⟩,.slice none 0 0,.int .i64 ((cur ts st).at_:Int)] (0,0) _ rfl ?_ Try.underlying56 rfl (by kernel_rfl)) rfl ?_
 · exact five_blk HB25.out
 · rw[HF.out]
   refine⟨.slice none 0 0,rfl,?_,?_,?_⟩
   · exact Kd.R_nil _ _ _ _ _
   · refine five_RS ?_ (HX.out _ (Nat.le_refl _))
     exact H5.out
   · refine five_gr ?_ (Nat.le_refl _)
     exact G5.out
theorem one_paren (k:Nat) (w:World) (g:Nat) (v:Value) (st:St) (r:Ex×St) (h:RS w g v ts st) (hF:one ts (k+1) st=some r) (h2:¬(cur ts st).kind=2) (h3:¬(cur ts st).kind=3) (h1:¬(cur ts st).kind=1) (hy1:(may ts [45] st).1=false) (hy2:(may ts [40] st).1=true) (HE:Hid (∀ w g v st r,RS w g v ts st→expr ts k st=some r→Calls Try.prog 84 #[.pointer (some ⟨g,0,none⟩)] w (ExPost w g v ts r))):Calls Try.prog 93 #[.pointer (some ⟨g,0,none⟩)] w (ExPost w g v ts r):=by
 have H0:=Lib.hid h
 have G0:=Lib.hid (grown_refl w g)
 have hg:=h.blk.lt
 have HX:=Lib.hid (fun X (hX:w.heap.size≤X)=>h.elder hX)
 rw[one,if_neg h2,if_neg h3,if_neg h1,if_neg (by simp[hy1]),if_pos hy2] at hF
 obtain⟨x,hx,hr0⟩:=Option.bind_eq_some_iff.1 hF
 injection hr0 with hr0
 have HF:=Lib.hid hr0.symm
 have HX1:Hid (expr ts k (may ts (ByteArray.mk #[40]).data.toList st).2=some x):=Lib.hid hx
 clear hF hx hr0
 have hk2:((cur ts st).kind==2)=false:=beq_eq_false_iff_ne.mpr h2
 have hk3:((cur ts st).kind==3)=false:=beq_eq_false_iff_ne.mpr h3
 have hk1:((cur ts st).kind==1)=false:=beq_eq_false_iff_ne.mpr h1
 have hm1:(may ts (ByteArray.mk #[45]).data.toList st).1=false:=hy1
 have hm2:(may ts (ByteArray.mk #[40]).data.toList st).1=true:=hy2
 clear h2 h3 h1 hy1 hy2
 clear h
 go_enter Try.func93,Try.ntmps93
 go_wp2_with (first
       | (go_at_call 15;(with_reducible refine (now_any _ _ _ _ _ (H0.out.alloc _)).mono ?_);rintro e w1 ⟨rfl,hb⟩
          have hr:=((H0.out.alloc (.cells #[.int .i64 0,.int .i64 0,.string ⟨#[]⟩,.slice none 0 0,.int .i64 0] 56)).below hb)
          have H1:=Lib.hid ((hr.alloc (.cells #[.int .i64 (cur ts st).kind,.string (str (cur ts st).text),.int .i64 (cur ts st).n,.int .i64 ((cur ts st).at_:Int)] 63)).alloc (.cells #[.int .i64 0,.int .i64 0,.string ⟨#[]⟩,.slice none 0 0,.int .i64 ((cur ts st).at_:Int)] 56))
          have G1:=Lib.hid (grown_alloc (grown_alloc (grown_then (grown_alloc G0.out _) (grown_below hb g)) (.cells #[.int .i64 (cur ts st).kind,.string (str (cur ts st).text),.int .i64 (cur ts st).n,.int .i64 ((cur ts st).at_:Int)] 63)) (.cells #[.int .i64 0,.int .i64 0,.string ⟨#[]⟩,.slice none 0 0,.int .i64 ((cur ts st).at_:Int)] 56))
          have hlt1:w.heap.size<w1.heap.size:=(by have:=hb.size;simp at this;omega)
          have hB2:=(Blk.new w 56 #[.int .i64 0,.int .i64 0,.string ⟨#[]⟩,.slice none 0 0,.int .i64 0]).grown (grown_below hb g) (fun e=>Nat.ne_of_gt hg (Option.some.inj e))
          have HB21:=Lib.hid ((hB2.alloc (.cells #[.int .i64 (cur ts st).kind,.string (str (cur ts st).text),.int .i64 (cur ts st).n,.int .i64 ((cur ts st).at_:Int)] 63)).alloc (.cells #[.int .i64 0,.int .i64 0,.string ⟨#[]⟩,.slice none 0 0,.int .i64 ((cur ts st).at_:Int)] 56))
          have HB31:=Lib.hid ((Blk.new w1 63 #[.int .i64 (cur ts st).kind,.string (str (cur ts st).text),.int .i64 (cur ts st).n,.int .i64 ((cur ts st).at_:Int)]).alloc (.cells #[.int .i64 0,.int .i64 0,.string ⟨#[]⟩,.slice none 0 0,.int .i64 ((cur ts st).at_:Int)] 56))
          have HB41:Hid (Blk ((w1.alloc (.cells #[.int .i64 (cur ts st).kind,.string (str (cur ts st).text),.int .i64 (cur ts st).n,.int .i64 ((cur ts st).at_:Int)] 63)).alloc (.cells #[.int .i64 0,.int .i64 0,.string ⟨#[]⟩,.slice none 0 0,.int .i64 ((cur ts st).at_:Int)] 56)) (w1.heap.size+1) 56 #[.int .i64 0,.int .i64 0,.string ⟨#[]⟩,.slice none 0 0,.int .i64 ((cur ts st).at_:Int)]):=Lib.hid (by have:=Blk.new (w1.alloc (.cells #[.int .i64 (cur ts st).kind,.string (str (cur ts st).text),.int .i64 (cur ts st).n,.int .i64 ((cur ts st).at_:Int)] 63)) 56 #[.int .i64 0,.int .i64 0,.string ⟨#[]⟩,.slice none 0 0,.int .i64 ((cur ts st).at_:Int)];simpa using this)
          have hr1:=hr.blk.lt
          obtain⟨z0,z1,z2,z3,z4⟩:=five_cells hB2
          obtain⟨fz0,fz1,fz2,fz3,fz4⟩:=five_frozen hB2
          clear hr hb hB2 H0 G0)
       | (go_at_call 43;(with_reducible refine (may_any _ _ _ _ _ _ H1.out).mono ?_);rintro e w2 ⟨rfl,hr,hb⟩
          rw[may_same hm1] at hr
          have H2:=Lib.hid hr
          have G2:=Lib.hid (grown_then G1.out hb)
          have hB2:=HB21.out.grown hb (fun e=>Nat.ne_of_gt hg (Option.some.inj e))
          have hB3:=HB31.out.grown hb (fun e=>Nat.ne_of_gt hr1 (Option.some.inj e))
          have hB4:=HB41.out.grown hb (fun e=>by have:=Option.some.inj e;omega)
          have HB22:=Lib.hid hB2
          have HB32:=Lib.hid hB3
          have HB42:=Lib.hid hB4
          obtain⟨z0,z1,z2,z3,z4⟩:=five_cells hB2
          obtain⟨fz0,fz1,fz2,fz3,fz4⟩:=five_frozen hB2
          obtain⟨y0,y1,y2,y3,y4⟩:=five_cells hB4
          obtain⟨fy0,fy1,fy2,fy3,fy4⟩:=five_frozen hB4
          have q0:=hB3.cell 0
          have q1:=hB3.cell 1
          have q2:=hB3.cell 2
          have q3:=hB3.cell 3
          simp at q0 q1 q2 q3
          have hlt2:w1.heap.size+1<w2.heap.size:=hB4.lt
          clear hr hb hB2 hB3 hB4 H1 G1 HB21 HB31 HB41)
       | (go_at_call 43;(with_reducible refine (may_any _ _ _ _ _ _ H2.out).mono ?_);rintro e w3 ⟨rfl,hr,hb⟩
          have H3:=Lib.hid hr
          have G3:=Lib.hid (grown_then G2.out hb)
          have hB2:=HB22.out.grown hb (fun e=>Nat.ne_of_gt hg (Option.some.inj e))
          have hB3:=HB32.out.grown hb (fun e=>Nat.ne_of_gt hr1 (Option.some.inj e))
          have hB4:=HB42.out.grown hb (fun e=>by have:=Option.some.inj e;omega)
          have HB23:=Lib.hid hB2
          have HB33:=Lib.hid hB3
          have HB43:=Lib.hid hB4
          obtain⟨z0,z1,z2,z3,z4⟩:=five_cells hB2
          obtain⟨fz0,fz1,fz2,fz3,fz4⟩:=five_frozen hB2
          obtain⟨y0,y1,y2,y3,y4⟩:=five_cells hB4
          obtain⟨fy0,fy1,fy2,fy3,fy4⟩:=five_frozen hB4
          have q0:=hB3.cell 0
          have q1:=hB3.cell 1
          have q2:=hB3.cell 2
          have q3:=hB3.cell 3
          simp at q0 q1 q2 q3
          have hlt3:w1.heap.size+1<w3.heap.size:=hB4.lt
          clear hr hb hB2 hB3 hB4 H2 G2 HB22 HB32 HB42)
       | (go_at_call 84;(with_reducible refine (HE.out _ _ _ _ _ H3.out HX1.out).mono ?_);rintro e w4 ⟨vk,rfl,hk,hr,hb⟩
          obtain⟨pk,ck,rfl⟩:=Kd.R_slice hk
          have HEK:=Lib.hid hk
          have HL3:Hid (w1.heap.size+1<w3.heap.size):=Lib.hid HB43.out.lt
          have H4:=Lib.hid hr
          have G4:=Lib.hid (grown_then G3.out hb)
          have hB2:=HB23.out.grown hb (fun e=>Nat.ne_of_gt hg (Option.some.inj e))
          have hB3:=HB33.out.grown hb (fun e=>Nat.ne_of_gt hr1 (Option.some.inj e))
          have hB4:=HB43.out.grown hb (fun e=>by have:=Option.some.inj e;omega)
          have HB24:=Lib.hid hB2
          have HB34:=Lib.hid hB3
          have HB44:=Lib.hid hB4
          obtain⟨z0,z1,z2,z3,z4⟩:=five_cells hB2
          obtain⟨fz0,fz1,fz2,fz3,fz4⟩:=five_frozen hB2
          obtain⟨y0,y1,y2,y3,y4⟩:=five_cells hB4
          obtain⟨fy0,fy1,fy2,fy3,fy4⟩:=five_frozen hB4
          have q0:=hB3.cell 0
          have q1:=hB3.cell 1
          have q2:=hB3.cell 2
          have q3:=hB3.cell 3
          simp at q0 q1 q2 q3
          have hlt4:w1.heap.size+1<w4.heap.size:=hB4.lt
          clear hr hb hk hB2 hB3 hB4 H3 G3 HB23 HB33 HB43)
       | (go_at_call 50;(with_reducible refine (must_any _ _ _ _ _ _ (five_RS H4.out (HX.out _ (Nat.le_of_lt (Nat.lt_succ_of_lt hlt1))))).mono ?_);rintro e w5 ⟨rfl,hr,hb⟩
          have H5:=Lib.hid hr
          have G5:=Lib.hid (grown_then (five_gr G4.out (Nat.le_of_lt (Nat.lt_succ_of_lt hlt1))) hb)
          have hB2:=(five_far HB24.out (show w.heap.size≠w1.heap.size+1 by omega)).grown hb (fun e=>Nat.ne_of_gt hg (Option.some.inj e))
          have hB4:=(five_blk HB44.out).grown hb (fun e=>by have:=Option.some.inj e;omega)
          have HB25:=Lib.hid hB2
          have HEK2:=Lib.hid (Kd.R_grown (five_R HEK.out (fun b hb=>by have:=HL3.out;omega)) hb (fun b hb e=>by have:=HL3.out;have:=Option.some.inj e;omega))
          obtain⟨z0,z1,z2,z3,z4⟩:=five_cells hB2
          obtain⟨fz0,fz1,fz2,fz3,fz4⟩:=five_frozen hB2
          obtain⟨y0,y1,y2,y3,y4⟩:=five_cells hB4
          have hlt5:w1.heap.size+1<w5.heap.size:=hB4.lt
          clear hr hb hB2 hB4 H4 G4 HB24 HB44 HEK))
 have hne4:w.heap.size≠w1.heap.size+1:=by omega
 have hle4:w.heap.size≤w1.heap.size+1:=by omega
 refine bodyPost_ret (results_cell_row rfl _ _ w.heap.size 56 #[.int .i64 x.1.kind,.int .i64 x.1.n,.string x.1.s,.slice pk x.1.kids.length ck,.int .i64 x.1.at_] (0,0) _ rfl ?_ Try.underlying56 rfl (by kernel_rfl)) rfl ?_
 · exact five_blk HB25.out
 · rw[HF.out]
   refine⟨.slice pk x.1.kids.length ck,rfl,?_,?_,?_⟩
   · exact Kd.R_mono (Kd.R_lower (five_R HEK2.out (fun b hb=>by have:=HL3.out;omega)) (by have:=HL3.out;omega)) (fun b hb=>by have:=HL3.out;omega)
   · refine five_RS ?_ (HX.out _ (Nat.le_refl _))
     exact H5.out
   · refine five_gr ?_ (Nat.le_refl _)
     exact G5.out
theorem one_con (k:Nat) (w:World) (g:Nat) (v:Value) (st:St) (r:Ex×St) (h:RS w g v ts st) (hF:one ts (k+1) st=some r) (h2:¬(cur ts st).kind=2) (h3:¬(cur ts st).kind=3) (h1:¬(cur ts st).kind=1) (hy1:(may ts [45] st).1=false) (hy2:(may ts [40] st).1=false) (hy3:(may ts [36] st).1=true) (HE:Hid (∀ w g v st r,RS w g v ts st→exprs ts k st=some r→Calls Try.prog 83 #[.pointer (some ⟨g,0,none⟩)] w fun e w'=>∃ vl,e=.returned vl∧kEx.R 56 w' w.heap.size (fun b=>w.heap.size≤b) vl r.1∧RS w' g v ts r.2∧w.grownBy w' (some g))):Calls Try.prog 93 #[.pointer (some ⟨g,0,none⟩)] w (ExPost w g v ts r):=by
 have H0:=Lib.hid h
 have G0:=Lib.hid (grown_refl w g)
 have hg:=h.blk.lt
 have HX:=Lib.hid (fun X (hX:w.heap.size≤X)=>h.elder hX)
 rw[one,if_neg h2,if_neg h3,if_neg h1,if_neg (by simp[hy1]),if_neg (by simp[hy2]),if_pos hy3] at hF
 obtain⟨x,hx,hr0⟩:=Option.bind_eq_some_iff.1 hF
 injection hr0 with hr0
 have HF:=Lib.hid hr0.symm
 have HX1:Hid (exprs ts k (word ts (may ts (ByteArray.mk #[36]).data.toList st).2).2=some x):=Lib.hid hx
 clear hF hx hr0
 have hk2:((cur ts st).kind==2)=false:=beq_eq_false_iff_ne.mpr h2
 have hk3:((cur ts st).kind==3)=false:=beq_eq_false_iff_ne.mpr h3
 have hk1:((cur ts st).kind==1)=false:=beq_eq_false_iff_ne.mpr h1
 have hm1:(may ts (ByteArray.mk #[45]).data.toList st).1=false:=hy1
 have hm2:(may ts (ByteArray.mk #[40]).data.toList st).1=false:=hy2
 have hm3:(may ts (ByteArray.mk #[36]).data.toList st).1=true:=hy3
 clear h2 h3 h1 hy1 hy2 hy3
 clear h
 go_enter Try.func93,Try.ntmps93
 go_wp2_with (first
       | (go_at_call 15;(with_reducible refine (now_any _ _ _ _ _ (H0.out.alloc _)).mono ?_);rintro e w1 ⟨rfl,hb⟩
          have hr:=((H0.out.alloc (.cells #[.int .i64 0,.int .i64 0,.string ⟨#[]⟩,.slice none 0 0,.int .i64 0] 56)).below hb)
          have H1:=Lib.hid ((hr.alloc (.cells #[.int .i64 (cur ts st).kind,.string (str (cur ts st).text),.int .i64 (cur ts st).n,.int .i64 ((cur ts st).at_:Int)] 63)).alloc (.cells #[.int .i64 0,.int .i64 0,.string ⟨#[]⟩,.slice none 0 0,.int .i64 ((cur ts st).at_:Int)] 56))
          have G1:=Lib.hid (grown_alloc (grown_alloc (grown_then (grown_alloc G0.out _) (grown_below hb g)) (.cells #[.int .i64 (cur ts st).kind,.string (str (cur ts st).text),.int .i64 (cur ts st).n,.int .i64 ((cur ts st).at_:Int)] 63)) (.cells #[.int .i64 0,.int .i64 0,.string ⟨#[]⟩,.slice none 0 0,.int .i64 ((cur ts st).at_:Int)] 56))
          have hlt1:w.heap.size<w1.heap.size:=(by have:=hb.size;simp at this;omega)
          have hB2:=(Blk.new w 56 #[.int .i64 0,.int .i64 0,.string ⟨#[]⟩,.slice none 0 0,.int .i64 0]).grown (grown_below hb g) (fun e=>Nat.ne_of_gt hg (Option.some.inj e))
          have HB21:=Lib.hid ((hB2.alloc (.cells #[.int .i64 (cur ts st).kind,.string (str (cur ts st).text),.int .i64 (cur ts st).n,.int .i64 ((cur ts st).at_:Int)] 63)).alloc (.cells #[.int .i64 0,.int .i64 0,.string ⟨#[]⟩,.slice none 0 0,.int .i64 ((cur ts st).at_:Int)] 56))
          have HB31:=Lib.hid ((Blk.new w1 63 #[.int .i64 (cur ts st).kind,.string (str (cur ts st).text),.int .i64 (cur ts st).n,.int .i64 ((cur ts st).at_:Int)]).alloc (.cells #[.int .i64 0,.int .i64 0,.string ⟨#[]⟩,.slice none 0 0,.int .i64 ((cur ts st).at_:Int)] 56))
          have HB41:Hid (Blk ((w1.alloc (.cells #[.int .i64 (cur ts st).kind,.string (str (cur ts st).text),.int .i64 (cur ts st).n,.int .i64 ((cur ts st).at_:Int)] 63)).alloc (.cells #[.int .i64 0,.int .i64 0,.string ⟨#[]⟩,.slice none 0 0,.int .i64 ((cur ts st).at_:Int)] 56)) (w1.heap.size+1) 56 #[.int .i64 0,.int .i64 0,.string ⟨#[]⟩,.slice none 0 0,.int .i64 ((cur ts st).at_:Int)]):=Lib.hid (by have:=Blk.new (w1.alloc (.cells #[.int .i64 (cur ts st).kind,.string (str (cur ts st).text),.int .i64 (cur ts st).n,.int .i64 ((cur ts st).at_:Int)] 63)) 56 #[.int .i64 0,.int .i64 0,.string ⟨#[]⟩,.slice none 0 0,.int .i64 ((cur ts st).at_:Int)];simpa using this)
          have hr1:=hr.blk.lt
          obtain⟨z0,z1,z2,z3,z4⟩:=five_cells hB2
          obtain⟨fz0,fz1,fz2,fz3,fz4⟩:=five_frozen hB2
          clear hr hb hB2 H0 G0)
       | (go_at_call 43;(with_reducible refine (may_any _ _ _ _ _ _ H1.out).mono ?_);rintro e w2 ⟨rfl,hr,hb⟩
          rw[may_same hm1] at hr
          have H2:=Lib.hid hr
          have G2:=Lib.hid (grown_then G1.out hb)
          have hB2:=HB21.out.grown hb (fun e=>Nat.ne_of_gt hg (Option.some.inj e))
          have hB3:=HB31.out.grown hb (fun e=>Nat.ne_of_gt hr1 (Option.some.inj e))
          have hB4:=HB41.out.grown hb (fun e=>by have:=Option.some.inj e;omega)
          have HB22:=Lib.hid hB2
          have HB32:=Lib.hid hB3
          have HB42:=Lib.hid hB4
          obtain⟨z0,z1,z2,z3,z4⟩:=five_cells hB2
          obtain⟨fz0,fz1,fz2,fz3,fz4⟩:=five_frozen hB2
          obtain⟨y0,y1,y2,y3,y4⟩:=five_cells hB4
          obtain⟨fy0,fy1,fy2,fy3,fy4⟩:=five_frozen hB4
          have q0:=hB3.cell 0
          have q1:=hB3.cell 1
          have q2:=hB3.cell 2
          have q3:=hB3.cell 3
          simp at q0 q1 q2 q3
          have hlt2:w1.heap.size+1<w2.heap.size:=hB4.lt
          clear hr hb hB2 hB3 hB4 H1 G1 HB21 HB31 HB41)
       | (go_at_call 43;(with_reducible refine (may_any _ _ _ _ _ _ H2.out).mono ?_);rintro e w3 ⟨rfl,hr,hb⟩
          rw[may_same hm2] at hr
          have H3:=Lib.hid hr
          have G3:=Lib.hid (grown_then G2.out hb)
          have hB2:=HB22.out.grown hb (fun e=>Nat.ne_of_gt hg (Option.some.inj e))
          have hB3:=HB32.out.grown hb (fun e=>Nat.ne_of_gt hr1 (Option.some.inj e))
          have hB4:=HB42.out.grown hb (fun e=>by have:=Option.some.inj e;omega)
          have HB23:=Lib.hid hB2
          have HB33:=Lib.hid hB3
          have HB43:=Lib.hid hB4
          obtain⟨z0,z1,z2,z3,z4⟩:=five_cells hB2
          obtain⟨fz0,fz1,fz2,fz3,fz4⟩:=five_frozen hB2
          obtain⟨y0,y1,y2,y3,y4⟩:=five_cells hB4
          obtain⟨fy0,fy1,fy2,fy3,fy4⟩:=five_frozen hB4
          have q0:=hB3.cell 0
          have q1:=hB3.cell 1
          have q2:=hB3.cell 2
          have q3:=hB3.cell 3
          simp at q0 q1 q2 q3
          have hlt3:w1.heap.size+1<w3.heap.size:=hB4.lt
          clear hr hb hB2 hB3 hB4 H2 G2 HB22 HB32 HB42)
       | (go_at_call 43;(with_reducible refine (may_any _ _ _ _ _ _ H3.out).mono ?_);rintro e w4 ⟨rfl,hr,hb⟩
          have H4:=Lib.hid hr
          have G4:=Lib.hid (grown_then G3.out hb)
          have hB2:=HB23.out.grown hb (fun e=>Nat.ne_of_gt hg (Option.some.inj e))
          have hB3:=HB33.out.grown hb (fun e=>Nat.ne_of_gt hr1 (Option.some.inj e))
          have hB4:=HB43.out.grown hb (fun e=>by have:=Option.some.inj e;omega)
          have HB24:=Lib.hid hB2
          have HB34:=Lib.hid hB3
          have HB44:=Lib.hid hB4
          obtain⟨z0,z1,z2,z3,z4⟩:=five_cells hB2
          obtain⟨fz0,fz1,fz2,fz3,fz4⟩:=five_frozen hB2
          obtain⟨y0,y1,y2,y3,y4⟩:=five_cells hB4
          obtain⟨fy0,fy1,fy2,fy3,fy4⟩:=five_frozen hB4
          have q0:=hB3.cell 0
          have q1:=hB3.cell 1
          have q2:=hB3.cell 2
          have q3:=hB3.cell 3
          simp at q0 q1 q2 q3
          have hlt4:w1.heap.size+1<w4.heap.size:=hB4.lt
          clear hr hb hB2 hB3 hB4 H3 G3 HB23 HB33 HB43)
       | (go_at_call 49;(with_reducible refine (word_any _ _ _ _ _ H4.out).mono ?_);rintro e w5 ⟨rfl,hr,hb⟩
          have H5:=Lib.hid hr
          have G5:=Lib.hid (grown_then G4.out hb)
          have hB2:=HB24.out.grown hb (fun e=>Nat.ne_of_gt hg (Option.some.inj e))
          have hB3:=HB34.out.grown hb (fun e=>Nat.ne_of_gt hr1 (Option.some.inj e))
          have hB4:=HB44.out.grown hb (fun e=>by have:=Option.some.inj e;omega)
          have HB25:=Lib.hid hB2
          have HB35:=Lib.hid hB3
          have HB45:=Lib.hid hB4
          obtain⟨z0,z1,z2,z3,z4⟩:=five_cells hB2
          obtain⟨fz0,fz1,fz2,fz3,fz4⟩:=five_frozen hB2
          obtain⟨y0,y1,y2,y3,y4⟩:=five_cells hB4
          obtain⟨fy0,fy1,fy2,fy3,fy4⟩:=five_frozen hB4
          have q0:=hB3.cell 0
          have q1:=hB3.cell 1
          have q2:=hB3.cell 2
          have q3:=hB3.cell 3
          simp at q0 q1 q2 q3
          have hlt5:w1.heap.size+1<w5.heap.size:=hB4.lt
          clear hr hb hB2 hB3 hB4 H4 G4 HB24 HB34 HB44)
       | (go_at_call 83;(with_reducible refine (HE.out _ _ _ _ _ (RS.other (RS.other H5.out (HX.out _ (Nat.le_of_lt (Nat.lt_succ_of_lt hlt1))) 0 (.int .i64 6)) (HX.out _ (Nat.le_of_lt (Nat.lt_succ_of_lt hlt1))) 2 (.string (word ts (may ts (ByteArray.mk #[36]).data.toList st).2).1)) HX1.out).mono ?_);rintro e w6 ⟨vk,rfl,hk,hr,hb⟩
          obtain⟨pk,ck,rfl⟩:=Kd.R_slice hk
          have HEK:Hid (kEx.R 56 w6 w5.heap.size (fun b=>w5.heap.size≤b) (.slice pk x.1.length ck) x.1):=Lib.hid (by rw[set_size,set_size] at hk;exact hk)
          have HL5:Hid (w1.heap.size+1<w5.heap.size):=Lib.hid HB45.out.lt
          have H6:=Lib.hid hr
          have G6:=Lib.hid (grown_then (grown_new (grown_new G5.out (Nat.le_of_lt (Nat.lt_succ_of_lt hlt1)) 0 _) (Nat.le_of_lt (Nat.lt_succ_of_lt hlt1)) 2 _) hb)
          have hB2:=((HB25.out.far (p:=⟨w1.heap.size+1,0,none⟩) (show w.heap.size≠w1.heap.size+1 by omega) _).far (p:=⟨w1.heap.size+1,2,none⟩) (show w.heap.size≠w1.heap.size+1 by omega) _).grown hb (fun e=>Nat.ne_of_gt hg (Option.some.inj e))
          have hB4:=((HB45.out.set_ 0 (.int .i64 6)).set_ 2 (.string (word ts (may ts (ByteArray.mk #[36]).data.toList st).2).1)).grown hb (fun e=>by have:=Option.some.inj e;omega)
          have HB26:=Lib.hid hB2
          obtain⟨z0,z1,z2,z3,z4⟩:=five_cells hB2
          obtain⟨fz0,fz1,fz2,fz3,fz4⟩:=five_frozen hB2
          have hB5:Blk w6 (w1.heap.size+1) 56 #[.int .i64 6,.int .i64 0,.string (word ts (may ts (ByteArray.mk #[36]).data.toList st).2).1,.slice none 0 0,.int .i64 ((cur ts st).at_:Int)]:=hB4
          obtain⟨y0,y1,y2,y3,y4⟩:=five_cells hB5
          obtain⟨fy0,fy1,fy2,fy3,fy4⟩:=five_frozen hB5
          have hlt6:w1.heap.size+1<w6.heap.size:=hB5.lt
          clear hr hb hk hB2 hB4 hB5 H5 G5 HB25 HB35 HB45))
 have hne4:w.heap.size≠w1.heap.size+1:=by omega
 have hle4:w.heap.size≤w1.heap.size+1:=by omega
 refine bodyPost_ret (results_cell_row rfl _ _ w.heap.size 56 #[.int .i64 6,.int .i64 0,.string (word ts (may ts [36] st).2).1,.slice pk x.1.length ck,.int .i64 ((cur ts st).at_:Int)] (0,0) _ rfl ?_ Try.underlying56 rfl (by kernel_rfl)) rfl ?_
 · exact five_blk (HB26.out.far (p:=⟨w1.heap.size+1,3,none⟩) hne4 _)
 · rw[HF.out]
   refine⟨.slice pk x.1.length ck,rfl,?_,?_,?_⟩
   · exact Kd.R_mono (Kd.R_lower (five_R (Kd.R_far HEK.out (p:=⟨w1.heap.size+1,3,none⟩) (fun b hb e=>by have e2:b=w1.heap.size+1:=e;have:=HL5.out;omega) _) (fun b hb=>by have:=HL5.out;omega)) (by have:=HL5.out;omega)) (fun b hb=>by have:=HL5.out;omega)
   · refine five_RS ?_ (HX.out _ (Nat.le_refl _))
     exact (RS.other H6.out (HX.out _ hle4) 3 _)
   · refine five_gr ?_ (Nat.le_refl _)
     exact (grown_new G6.out hle4 3 _)
end
end Go.Proofs.Ytddmceldglelkaa.RefOne
