/- A claim's texts, in the order of what they need: QTokensx4. -/
import Derived.Test.YtddmceldglelkaaBCompApart3
import Derived.Test.YtddmceldglelkaaBCompApart4
set_option maxRecDepth 100000
set_option maxHeartbeats 8000000
set_option linter.unusedVariables false
set_option linter.unusedSimpArgs false
set_option linter.unusedSectionVars false
namespace Go.Proofs.Ytddmceldglelkaa.PTokens
open Go.RowKit YtddmceldglelkaaW.PrintWords YtddmceldglelkaaW.PrintLast YtddmceldglelkaaW.PrintMore
attribute [local go_sem] max2_int min2_int max_two min_two max_three min_three max_four min_four
set_option linter.unusedVariables false
set_option linter.unusedSimpArgs false
/-! ### vestryref08_text: function 40 -/
mutual
def vestryref08_text.l0:Nat→ByteArray→Int→List Int→Int→Option (Int×ByteArray×Int×Int×Int×Int×Int)
 | 0,_,_,_,_=>none
 | k+1,x0,x1,x7,x8=>if x8<(x0.size:Int) then (if 0≤x8 then (if (bt x0 x8)=34 then (some (3,strOfNums x7,0,x1,wrap64 (x8+1),0,0)) else (if (bt x0 x8)=10 then ((vestryref08_fault.f 7 x8).bind fun bt124=>(some (0,(⟨#[]⟩:ByteArray),0,0,0,bt124.1,bt124.2))) else (if (bt x0 x8)=92 then (if (wrap64 (x8+1)) ≥ (x0.size:Int) then ((vestryref08_fault.f 7 x8).bind fun bt126=>(some (0,(⟨#[]⟩:ByteArray),0,0,0,bt126.1,bt126.2))) else (if 0≤(wrap64 (x8+1)) then (if (wrap64 (x8+1))<(x0.size:Int) then (if (bt x0 (wrap64 (x8+1)))=34 then (vestryref08_text.j1 k x0 x1 x7 x8 (bt x0 (wrap64 (x8+1))) ((bt x0 (wrap64 (x8+1)))==34)) else (vestryref08_text.j1 k x0 x1 x7 x8 (bt x0 (wrap64 (x8+1))) ((bt x0 (wrap64 (x8+1)))==92))) else (none)) else (none))) else (if x7.length<140737488355328 then (vestryref08_text.l0 k x0 x1 (x7++[bt x0 x8]) (wrap64 (x8+1))) else (none))))) else (none)) else ((vestryref08_fault.f 7 x1).bind fun bt122=>(some (0,(⟨#[]⟩:ByteArray),0,0,0,bt122.1,bt122.2)))
def vestryref08_text.j1:Nat→ByteArray→Int→List Int→Int→Int→Bool→Option (Int×ByteArray×Int×Int×Int×Int×Int)
 | 0,_,_,_,_,_,_=>none
 | k+1,x0,x1,x7,x8,x53,x57=>if x57=true then (if 0≤(wrap64 (x8+1)) then (if (wrap64 (x8+1))<(x0.size:Int) then (if x7.length<140737488355328 then (vestryref08_text.l0 k x0 x1 (x7++[bt x0 (wrap64 (x8+1))]) (wrap64 ((wrap64 (x8+1))+1))) else (none)) else (none)) else (none)) else (if x53=110 then (if x7.length<140737488355328 then (vestryref08_text.l0 k x0 x1 (x7++[10]) (wrap64 ((wrap64 (x8+1))+1))) else (none)) else (if x53=116 then (if x7.length<140737488355328 then (vestryref08_text.l0 k x0 x1 (x7++[9]) (wrap64 ((wrap64 (x8+1))+1))) else (none)) else ((vestryref08_fault.f 7 x8).bind fun bt137=>(some (0,(⟨#[]⟩:ByteArray),0,0,0,bt137.1,bt137.2)))))
end
def vestryref08_text.f (k:Nat) (a0:ByteArray) (a1:Int):Option (Int×ByteArray×Int×Int×Int×Int×Int):=vestryref08_text.l0 k a0 a1 ([]:List Int) (wrap64 (a1+1))
theorem vestryref08_text.calls (k:Nat) (a0:ByteArray) (a1:Int) (r1:Int) (r2:ByteArray) (r3:Int) (r4:Int) (r5:Int) (r6:Int) (r7:Int) (w:World) (h:vestryref08_text.f k a0 a1=some (r1,r2,r3,r4,r5,r6,r7)) :
    Calls Try.prog 40 #[.string a0,.int .i64 a1] w fun e w'=>e=.returned (.tuple #[.agg #[.int .i64 r1,.string r2,.int .i64 r3,.int .i64 r4],.int .i64 r5,.agg #[.int .i64 r6,.int .i64 r7]])∧Below w.heap.size w w':=by
 have hu63:=Try.underlying63
 have hu31:=Try.underlying31
 have HB:=Aside0.mk (Below.refl w.heap.size w)
 have H:(vestryref08_text.l0 k a0 a1 ([]:List Int) (wrap64 (a1+1)))=some (r1,r2,r3,r4,r5,r6,r7):=h
 clear h
 have H':=Aside0.mk H
 clear H
 go_enter Try.func40,Try.ntmps40
 go_wp2_with (first|((with_reducible refine gate_dst (N:=4) rfl ?_);refine box_event ?hg (N:=4) ?hd (cs:=#[.int .i64 0,.string (⟨#[]⟩:ByteArray),.int .i64 0,.int .i64 0]) (t:=63) ?hr ?_;(case hd=>rfl);(case hg=>rfl);(case hr=>first|(go_simp;done)|(go_simp;rfl));intro gb120 hg w3 hbox hb;have n0_:=Aside0.mk (below_step (by repeat (first|(with_reducible first|exact HB.out|apply below_alloc|apply pw_below_drewN|apply below_drew1)|exact HB.out)) hb);have n1_:=Aside0.mk (hbox);have n2_:=Aside0.mk ((by rw[hg];exact (below_size (by repeat (first|(with_reducible first|exact HB.out|apply below_alloc|apply pw_below_drewN|apply below_drew1)|exact HB.out))):w.heap.size≤gb120));have n3_:=Aside0.mk ((by rw[hg];exact (below_size (by repeat (first|(with_reducible first|exact HB.out|apply below_alloc|apply pw_below_drewN|apply below_drew1)|exact HB.out))):w.heap.size≤gb120));clear HB;have HB:=n0_;have BK120:=n1_;have GW120:=n2_;have GE120:=n3_;clear n0_ n1_ n2_ n3_;clear hb hbox hg)|((with_reducible refine gate_dst (N:=6) rfl ?_);refine box_event ?hg (N:=6) ?hd (cs:=#[.int .i64 0,.int .i64 0]) (t:=31) ?hr ?_;(case hd=>rfl);(case hg=>rfl);(case hr=>first|(go_simp;done)|(go_simp;rfl));intro gb121 hg w4 hbox hb;have n0_:=Aside0.mk (blk_below (g:=gb120) (o:=.cells #[.int .i64 0,.string (⟨#[]⟩:ByteArray),.int .i64 0,.int .i64 0] 63 (0,0)) (by (with_reducible repeat (first|refine blk_drewN ?_ _|refine blk_drew ?_|refine blk_alloc ?_ _));exact BK120.out) hb);have n1_:=Aside0.mk (below_step (by repeat (first|(with_reducible first|exact HB.out|apply below_alloc|apply pw_below_drewN|apply below_drew1|refine below_set ?_ GE120.out)|exact HB.out)) hb);have n2_:=Aside0.mk (hbox);have n3_:=Aside0.mk ((by rw[hg];exact (below_size (by repeat (first|(with_reducible first|exact HB.out|apply below_alloc|apply pw_below_drewN|apply below_drew1|refine below_set ?_ GE120.out)|exact HB.out))):w.heap.size≤gb121));have n4_:=Aside0.mk ((by rw[hg];exact (below_size (by repeat (first|(with_reducible first|exact HB.out|apply below_alloc|apply pw_below_drewN|apply below_drew1|refine below_set ?_ GE120.out)|exact HB.out))):w.heap.size≤gb121));have n5_:=Aside0.mk ((by rw[hg];exact Nat.ne_of_lt (blk_lt (g:=gb120) (o:=.cells #[.int .i64 0,.string (⟨#[]⟩:ByteArray),.int .i64 0,.int .i64 0] 63 (0,0)) (by (with_reducible repeat (first|refine blk_drewN ?_ _|refine blk_drew ?_|refine blk_alloc ?_ _));exact BK120.out)):gb120≠gb121));have n6_:=Aside0.mk ((by rw[hg];exact Nat.ne_of_gt (blk_lt (g:=gb120) (o:=.cells #[.int .i64 0,.string (⟨#[]⟩:ByteArray),.int .i64 0,.int .i64 0] 63 (0,0)) (by (with_reducible repeat (first|refine blk_drewN ?_ _|refine blk_drew ?_|refine blk_alloc ?_ _));exact BK120.out)):gb121≠gb120));clear BK120;clear HB;have BK120:=n0_;have HB:=n1_;have BK121:=n2_;have GW121:=n3_;have GE121:=n4_;have NB120_121:=n5_;have NB121_120:=n6_;clear n0_ n1_ n2_ n3_ n4_ n5_ n6_;clear hb hbox hg))
 go_loopg [7,8] k (fun kq v7 v8 w'=>∃ (x7_1:List Int) (x8_1:Int) (x121000_1:Int) (x121001_1:ByteArray) (x121002_1:Int) (x121003_1:Int) (x122000_1:Int) (x122001_1:Int),v8=.int .i64 x8_1∧Aside0 (vestryref08_text.l0 kq a0 a1 x7_1 x8_1=some (r1,r2,r3,r4,r5,r6,r7))∧Aside0 (kq≤k)∧Aside0 (Kd.R (Kd.int .u8) 5 w' w.heap.size (fun _=>True) v7 x7_1)∧Aside0 (w'.heap[gb120]?=some (.cells #[.int .i64 x121000_1,.string x121001_1,.int .i64 x121002_1,.int .i64 x121003_1] 63 (0,0)))∧Aside0 (w'.heap[gb121]?=some (.cells #[.int .i64 x122000_1,.int .i64 x122001_1] 31 (0,0)))∧Aside0 (Below w.heap.size w w'))
 case atStart=>exact⟨(([]:List Int)),(wrap64 (a1+1)),(0),((⟨#[]⟩:ByteArray)),(0),(0),(0),(0),(by first|rfl|(simp;done)|(simp[*];done)),H',⟨Nat.le_refl _⟩,⟨by first|exact Kd.R_nil _ _ _ _ _|exact Kd.N_nil _ _ _ _ _|exact Kd.V_nil _ _ _ _ _|exact Kd.Q_nil _ _ _ _ _|exact Kd.S_nil _ _ _ _ _⟩,⟨by (with_reducible repeat (first|refine blk_drewN ?_ _|refine blk_drew ?_|refine blk_alloc ?_ _));exact BK120.out⟩,⟨by (with_reducible repeat (first|refine blk_drewN ?_ _|refine blk_drew ?_|refine blk_alloc ?_ _));exact BK121.out⟩,⟨by repeat (first|(with_reducible first|exact HB.out|apply below_alloc|apply pw_below_drewN|apply below_drew1|refine below_set ?_ GE120.out|refine below_set ?_ GE121.out)|exact HB.out)⟩⟩
 case round=>
  clear H'
  try clear p2
  try clear c4
  obtain⟨x7_1,x8_1,x121000_1,x121001_1,x121002_1,x121003_1,x122000_1,x122001_1,rfl,HA,HK1,HO_7,BK120,BK121,HB⟩:=hrel
  cases gk with
  | zero=>exact absurd HA.out (by simp[vestryref08_text.l0])
  | succ k1=>
    have H:=HA.out
    clear HA
    simp only[vestryref08_text.l0] at H
    by_cases c5:x8_1<(a0.size:Int)
    · rw[if_pos c5] at H
      have c5b0:decide (x8_1<(a0.size:Int))=true:=decide_eq_true c5
      clear c5
      by_cases c6:0≤x8_1
      · rw[if_pos c6] at H
        have c6b0:decide (0≤x8_1)=true:=decide_eq_true c6
        clear c6
        by_cases c8:(bt a0 x8_1)=34
        · rw[if_pos c8] at H
          have c8b0:((bt a0 x8_1)==34)=true:=beq_iff_eq.mpr c8
          have c8b1:((bt a0 x8_1) != 34)=false:=bne_eq_false_iff_eq.mpr c8
          clear c8
          simp only[Option.some.injEq,Prod.mk.injEq] at H
          obtain⟨rfl,rfl,rfl,rfl,rfl,rfl,rfl⟩:=H
          have p7:0≤(x8_1:Int):=of_decide_eq_true (by first|(with_reducible assumption)|assumption)
          have q7:x8_1<(a0.size:Int):=of_decide_eq_true (by first|(with_reducible assumption)|assumption)
          have hx7:=bt_at a0 x8_1
          replace p7:=eq_true p7
          replace q7:=eq_true q7
          have hcv9:=own_string (P:=Try.prog) Try.underlying127 Try.underlying5 Try.underlying9 (Kd.own_of_R HO_7.out)
          have hnb10:=NB120_121.out
          have hnc10:=NB121_120.out
          have hcz11_0:wr.cell? ⟨gb120,0,none⟩=some (.int .i64 x121000_1):=(blk_cell BK120.out 0).trans rfl
          have hcz11_1:wr.cell? ⟨gb120,1,none⟩=some (.string x121001_1):=(blk_cell BK120.out 1).trans rfl
          have hcz11_2:wr.cell? ⟨gb120,2,none⟩=some (.int .i64 x121002_1):=(blk_cell BK120.out 2).trans rfl
          have hcz11_3:wr.cell? ⟨gb120,3,none⟩=some (.int .i64 x121003_1):=(blk_cell BK120.out 3).trans rfl
          have hfz11_0:=blk_frozen BK120.out 0
          have hfz11_1:=blk_frozen BK120.out 1
          have hfz11_2:=blk_frozen BK120.out 2
          have hfz11_3:=blk_frozen BK120.out 3
          have hcz12_0:wr.cell? ⟨gb121,0,none⟩=some (.int .i64 x122000_1):=(blk_cell BK121.out 0).trans rfl
          have hcz12_1:wr.cell? ⟨gb121,1,none⟩=some (.int .i64 x122001_1):=(blk_cell BK121.out 1).trans rfl
          have hfz12_0:=blk_frozen BK121.out 0
          have hfz12_1:=blk_frozen BK121.out 1
          go_wp2
          refine bodyPost_ret (results_list (rs:=[.cell 4 63,.tmp 5,.cell 6 31]) rfl (by simp) (.cell gb120 63 #[.int .i64 3,.string (strOfNums x7_1),.int .i64 0,.int .i64 a1] (0,0) _ rfl (by (with_reducible repeat (first|refine blk_drewN ?_ _|refine blk_drew ?_|refine blk_alloc ?_ _));refine blk_far ?_ NB120_121.out _;(with_reducible repeat (first|refine blk_drewN ?_ _|refine blk_drew ?_|refine blk_alloc ?_ _));refine blk_far ?_ NB120_121.out _;(with_reducible repeat (first|refine blk_drewN ?_ _|refine blk_drew ?_|refine blk_alloc ?_ _));refine blk_put (cs:=#[.int .i64 3,.string (strOfNums x7_1),.int .i64 0,.int .i64 x121003_1]) ?_ 3 _ rfl;(with_reducible repeat (first|refine blk_drewN ?_ _|refine blk_drew ?_|refine blk_alloc ?_ _));refine blk_put (cs:=#[.int .i64 3,.string (strOfNums x7_1),.int .i64 x121002_1,.int .i64 x121003_1]) ?_ 2 _ rfl;(with_reducible repeat (first|refine blk_drewN ?_ _|refine blk_drew ?_|refine blk_alloc ?_ _));refine blk_put (cs:=#[.int .i64 3,.string x121001_1,.int .i64 x121002_1,.int .i64 x121003_1]) ?_ 1 _ rfl;(with_reducible repeat (first|refine blk_drewN ?_ _|refine blk_drew ?_|refine blk_alloc ?_ _));refine blk_put (cs:=#[.int .i64 x121000_1,.string x121001_1,.int .i64 x121002_1,.int .i64 x121003_1]) ?_ 0 _ rfl;(with_reducible repeat (first|refine blk_drewN ?_ _|refine blk_drew ?_|refine blk_alloc ?_ _));exact BK120.out) Try.underlying63 rfl (by kernel_rfl) (.tmp (.cell gb121 31 #[.int .i64 0,.int .i64 0] (0,0) _ rfl (by (with_reducible repeat (first|refine blk_drewN ?_ _|refine blk_drew ?_|refine blk_alloc ?_ _));refine blk_put (cs:=#[.int .i64 0,.int .i64 x122001_1]) ?_ 1 _ rfl;(with_reducible repeat (first|refine blk_drewN ?_ _|refine blk_drew ?_|refine blk_alloc ?_ _));refine blk_put (cs:=#[.int .i64 x122000_1,.int .i64 x122001_1]) ?_ 0 _ rfl;(with_reducible repeat (first|refine blk_drewN ?_ _|refine blk_drew ?_|refine blk_alloc ?_ _));refine blk_far ?_ NB121_120.out _;(with_reducible repeat (first|refine blk_drewN ?_ _|refine blk_drew ?_|refine blk_alloc ?_ _));refine blk_far ?_ NB121_120.out _;(with_reducible repeat (first|refine blk_drewN ?_ _|refine blk_drew ?_|refine blk_alloc ?_ _));refine blk_far ?_ NB121_120.out _;(with_reducible repeat (first|refine blk_drewN ?_ _|refine blk_drew ?_|refine blk_alloc ?_ _));refine blk_far ?_ NB121_120.out _;(with_reducible repeat (first|refine blk_drewN ?_ _|refine blk_drew ?_|refine blk_alloc ?_ _));exact BK121.out) Try.underlying31 rfl (by kernel_rfl) .nil)))) rfl ?_
          exact⟨by first|rfl|(simp[errW_none,errW_some] <;> rfl)|(simp[*,errW_none,errW_some] <;> rfl),by repeat (first|(with_reducible first|exact HB.out|apply below_alloc|apply pw_below_drewN|apply below_drew1|refine below_set ?_ GE120.out|refine below_set ?_ GE121.out)|exact HB.out)⟩
        · rw[if_neg c8] at H
          have c8b0:((bt a0 x8_1)==34)=false:=beq_eq_false_iff_ne.mpr c8
          have c8b1:((bt a0 x8_1) != 34)=true:=bne_iff_ne.mpr c8
          by_cases c13:(bt a0 x8_1)=10
          · rw[if_pos c13] at H
            have c13b0:((bt a0 x8_1)==10)=true:=beq_iff_eq.mpr c13
            have c13b1:((bt a0 x8_1) != 10)=false:=bne_eq_false_iff_eq.mpr c13
            clear c13
            replace H:=Option.bind_eq_some_iff.mp H
            obtain⟨⟨t124,t125⟩,A140,H⟩:=H
            replace H:(some (0,(⟨#[]⟩:ByteArray),0,0,0,t124,t125))=some (r1,r2,r3,r4,r5,r6,r7):=H
            have A14:=Aside0.mk A140
            clear A140
            simp only[Option.some.injEq,Prod.mk.injEq] at H
            obtain⟨rfl,rfl,rfl,rfl,rfl,rfl,rfl⟩:=H
            have p7:0≤(x8_1:Int):=of_decide_eq_true (by first|(with_reducible assumption)|assumption)
            have q7:x8_1<(a0.size:Int):=of_decide_eq_true (by first|(with_reducible assumption)|assumption)
            have hx7:=bt_at a0 x8_1
            replace p7:=eq_true p7
            replace q7:=eq_true q7
            go_wp2_with (first|((with_reducible refine gate_callee (f:=35) rfl ?_);refine goesL_ (some 39) rfl rfl Try.func35 (by kernel_rfl) rfl #[.int .i64 7,.int .i64 x8_1] rfl (by (try simp only[List.map_toArray,List.map_cons,List.map_nil]);first|done|rfl|(simp only[List.length_drop,List.length_take];rfl)) ?_;(with_reducible refine (vestryref08_fault.calls 7 x8_1 t124 t125 _ A14.out).mono ?_);rintro e w15 ⟨rfl,hb⟩;refine⟨_,rfl,?_⟩;have n0_:=Aside0.mk (Kd.R_below (by (with_reducible repeat (first|apply Kd.R_alloc|apply Kd.R_drewN|apply Kd.R_drew));exact HO_7.out) hb);have n1_:=Aside0.mk (blk_below (g:=gb120) (o:=.cells #[.int .i64 x121000_1,.string x121001_1,.int .i64 x121002_1,.int .i64 x121003_1] 63 (0,0)) (by (with_reducible repeat (first|refine blk_drewN ?_ _|refine blk_drew ?_|refine blk_alloc ?_ _));exact BK120.out) hb);have n2_:=Aside0.mk (blk_below (g:=gb121) (o:=.cells #[.int .i64 x122000_1,.int .i64 x122001_1] 31 (0,0)) (by (with_reducible repeat (first|refine blk_drewN ?_ _|refine blk_drew ?_|refine blk_alloc ?_ _));exact BK121.out) hb);have n3_:=Aside0.mk (below_step (by repeat (first|(with_reducible first|exact HB.out|apply below_alloc|apply pw_below_drewN|apply below_drew1|refine below_set ?_ GE120.out|refine below_set ?_ GE121.out)|exact HB.out)) hb);clear HO_7;clear BK120;clear BK121;clear HB;have HO_7:=n0_;have BK120:=n1_;have BK121:=n2_;have HB:=n3_;clear n0_ n1_ n2_ n3_;(try clear hb);(try clear hb2);(try clear hk);(try clear hi);have hnb16:=NB120_121.out;have hnc16:=NB121_120.out;have hcz17_0:w15.cell? ⟨gb120,0,none⟩=some (.int .i64 x121000_1):=(blk_cell BK120.out 0).trans rfl;have hcz17_1:w15.cell? ⟨gb120,1,none⟩=some (.string x121001_1):=(blk_cell BK120.out 1).trans rfl;have hcz17_2:w15.cell? ⟨gb120,2,none⟩=some (.int .i64 x121002_1):=(blk_cell BK120.out 2).trans rfl;have hcz17_3:w15.cell? ⟨gb120,3,none⟩=some (.int .i64 x121003_1):=(blk_cell BK120.out 3).trans rfl;have hfz17_0:=blk_frozen BK120.out 0;have hfz17_1:=blk_frozen BK120.out 1;have hfz17_2:=blk_frozen BK120.out 2;have hfz17_3:=blk_frozen BK120.out 3;have hcz18_0:w15.cell? ⟨gb121,0,none⟩=some (.int .i64 x122000_1):=(blk_cell BK121.out 0).trans rfl;have hcz18_1:w15.cell? ⟨gb121,1,none⟩=some (.int .i64 x122001_1):=(blk_cell BK121.out 1).trans rfl;have hfz18_0:=blk_frozen BK121.out 0;have hfz18_1:=blk_frozen BK121.out 1))
            refine bodyPost_ret (results_list (rs:=[.cell 4 63,.tmp 5,.cell 6 31]) rfl (by simp) (.cell gb120 63 #[.int .i64 0,.string (⟨#[]⟩:ByteArray),.int .i64 0,.int .i64 0] (0,0) _ rfl (by (with_reducible repeat (first|refine blk_drewN ?_ _|refine blk_drew ?_|refine blk_alloc ?_ _));refine blk_far ?_ NB120_121.out _;(with_reducible repeat (first|refine blk_drewN ?_ _|refine blk_drew ?_|refine blk_alloc ?_ _));refine blk_far ?_ NB120_121.out _;(with_reducible repeat (first|refine blk_drewN ?_ _|refine blk_drew ?_|refine blk_alloc ?_ _));refine blk_put (cs:=#[.int .i64 0,.string (⟨#[]⟩:ByteArray),.int .i64 0,.int .i64 x121003_1]) ?_ 3 _ rfl;(with_reducible repeat (first|refine blk_drewN ?_ _|refine blk_drew ?_|refine blk_alloc ?_ _));refine blk_put (cs:=#[.int .i64 0,.string (⟨#[]⟩:ByteArray),.int .i64 x121002_1,.int .i64 x121003_1]) ?_ 2 _ rfl;(with_reducible repeat (first|refine blk_drewN ?_ _|refine blk_drew ?_|refine blk_alloc ?_ _));refine blk_put (cs:=#[.int .i64 0,.string x121001_1,.int .i64 x121002_1,.int .i64 x121003_1]) ?_ 1 _ rfl;(with_reducible repeat (first|refine blk_drewN ?_ _|refine blk_drew ?_|refine blk_alloc ?_ _));refine blk_put (cs:=#[.int .i64 x121000_1,.string x121001_1,.int .i64 x121002_1,.int .i64 x121003_1]) ?_ 0 _ rfl;(with_reducible repeat (first|refine blk_drewN ?_ _|refine blk_drew ?_|refine blk_alloc ?_ _));exact BK120.out) Try.underlying63 rfl (by kernel_rfl) (.tmp (.cell gb121 31 #[.int .i64 t124,.int .i64 t125] (0,0) _ rfl (by (with_reducible repeat (first|refine blk_drewN ?_ _|refine blk_drew ?_|refine blk_alloc ?_ _));refine blk_put (cs:=#[.int .i64 t124,.int .i64 x122001_1]) ?_ 1 _ rfl;(with_reducible repeat (first|refine blk_drewN ?_ _|refine blk_drew ?_|refine blk_alloc ?_ _));refine blk_put (cs:=#[.int .i64 x122000_1,.int .i64 x122001_1]) ?_ 0 _ rfl;(with_reducible repeat (first|refine blk_drewN ?_ _|refine blk_drew ?_|refine blk_alloc ?_ _));refine blk_far ?_ NB121_120.out _;(with_reducible repeat (first|refine blk_drewN ?_ _|refine blk_drew ?_|refine blk_alloc ?_ _));refine blk_far ?_ NB121_120.out _;(with_reducible repeat (first|refine blk_drewN ?_ _|refine blk_drew ?_|refine blk_alloc ?_ _));refine blk_far ?_ NB121_120.out _;(with_reducible repeat (first|refine blk_drewN ?_ _|refine blk_drew ?_|refine blk_alloc ?_ _));refine blk_far ?_ NB121_120.out _;(with_reducible repeat (first|refine blk_drewN ?_ _|refine blk_drew ?_|refine blk_alloc ?_ _));exact BK121.out) Try.underlying31 rfl (by kernel_rfl) .nil)))) rfl ?_
            exact⟨by first|rfl|(simp[errW_none,errW_some] <;> rfl)|(simp[*,errW_none,errW_some] <;> rfl),by repeat (first|(with_reducible first|exact HB.out|apply below_alloc|apply pw_below_drewN|apply below_drew1|refine below_set ?_ GE120.out|refine below_set ?_ GE121.out)|exact HB.out)⟩
          · rw[if_neg c13] at H
            have c13b0:((bt a0 x8_1)==10)=false:=beq_eq_false_iff_ne.mpr c13
            have c13b1:((bt a0 x8_1) != 10)=true:=bne_iff_ne.mpr c13
            by_cases c19:(bt a0 x8_1)=92
            · rw[if_pos c19] at H
              have c19b0:((bt a0 x8_1)==92)=true:=beq_iff_eq.mpr c19
              have c19b1:((bt a0 x8_1) != 92)=false:=bne_eq_false_iff_eq.mpr c19
              clear c19
              by_cases c20:(wrap64 (x8_1+1)) ≥ (a0.size:Int)
              · rw[if_pos c20] at H
                have c20b0:decide ((a0.size:Int)≤(wrap64 (x8_1+1)))=true:=decide_eq_true c20
                clear c20
                replace H:=Option.bind_eq_some_iff.mp H
                obtain⟨⟨t126,t127⟩,A210,H⟩:=H
                replace H:(some (0,(⟨#[]⟩:ByteArray),0,0,0,t126,t127))=some (r1,r2,r3,r4,r5,r6,r7):=H
                have A21:=Aside0.mk A210
                clear A210
                simp only[Option.some.injEq,Prod.mk.injEq] at H
                obtain⟨rfl,rfl,rfl,rfl,rfl,rfl,rfl⟩:=H
                have p7:0≤(x8_1:Int):=of_decide_eq_true (by first|(with_reducible assumption)|assumption)
                have q7:x8_1<(a0.size:Int):=of_decide_eq_true (by first|(with_reducible assumption)|assumption)
                have hx7:=bt_at a0 x8_1
                replace p7:=eq_true p7
                replace q7:=eq_true q7
                go_wp2_with (first|((with_reducible refine gate_callee (f:=35) rfl ?_);refine goesL_ (some 49) rfl rfl Try.func35 (by kernel_rfl) rfl #[.int .i64 7,.int .i64 x8_1] rfl (by (try simp only[List.map_toArray,List.map_cons,List.map_nil]);first|done|rfl|(simp only[List.length_drop,List.length_take];rfl)) ?_;(with_reducible refine (vestryref08_fault.calls 7 x8_1 t126 t127 _ A21.out).mono ?_);rintro e w22 ⟨rfl,hb⟩;refine⟨_,rfl,?_⟩;have n0_:=Aside0.mk (Kd.R_below (by (with_reducible repeat (first|apply Kd.R_alloc|apply Kd.R_drewN|apply Kd.R_drew));exact HO_7.out) hb);have n1_:=Aside0.mk (blk_below (g:=gb120) (o:=.cells #[.int .i64 x121000_1,.string x121001_1,.int .i64 x121002_1,.int .i64 x121003_1] 63 (0,0)) (by (with_reducible repeat (first|refine blk_drewN ?_ _|refine blk_drew ?_|refine blk_alloc ?_ _));exact BK120.out) hb);have n2_:=Aside0.mk (blk_below (g:=gb121) (o:=.cells #[.int .i64 x122000_1,.int .i64 x122001_1] 31 (0,0)) (by (with_reducible repeat (first|refine blk_drewN ?_ _|refine blk_drew ?_|refine blk_alloc ?_ _));exact BK121.out) hb);have n3_:=Aside0.mk (below_step (by repeat (first|(with_reducible first|exact HB.out|apply below_alloc|apply pw_below_drewN|apply below_drew1|refine below_set ?_ GE120.out|refine below_set ?_ GE121.out)|exact HB.out)) hb);clear HO_7;clear BK120;clear BK121;clear HB;have HO_7:=n0_;have BK120:=n1_;have BK121:=n2_;have HB:=n3_;clear n0_ n1_ n2_ n3_;(try clear hb);(try clear hb2);(try clear hk);(try clear hi);have hnb23:=NB120_121.out;have hnc23:=NB121_120.out;have hcz24_0:w22.cell? ⟨gb120,0,none⟩=some (.int .i64 x121000_1):=(blk_cell BK120.out 0).trans rfl;have hcz24_1:w22.cell? ⟨gb120,1,none⟩=some (.string x121001_1):=(blk_cell BK120.out 1).trans rfl;have hcz24_2:w22.cell? ⟨gb120,2,none⟩=some (.int .i64 x121002_1):=(blk_cell BK120.out 2).trans rfl;have hcz24_3:w22.cell? ⟨gb120,3,none⟩=some (.int .i64 x121003_1):=(blk_cell BK120.out 3).trans rfl;have hfz24_0:=blk_frozen BK120.out 0;have hfz24_1:=blk_frozen BK120.out 1;have hfz24_2:=blk_frozen BK120.out 2;have hfz24_3:=blk_frozen BK120.out 3;have hcz25_0:w22.cell? ⟨gb121,0,none⟩=some (.int .i64 x122000_1):=(blk_cell BK121.out 0).trans rfl;have hcz25_1:w22.cell? ⟨gb121,1,none⟩=some (.int .i64 x122001_1):=(blk_cell BK121.out 1).trans rfl;have hfz25_0:=blk_frozen BK121.out 0;have hfz25_1:=blk_frozen BK121.out 1))
                refine bodyPost_ret (results_list (rs:=[.cell 4 63,.tmp 5,.cell 6 31]) rfl (by simp) (.cell gb120 63 #[.int .i64 0,.string (⟨#[]⟩:ByteArray),.int .i64 0,.int .i64 0] (0,0) _ rfl (by (with_reducible repeat (first|refine blk_drewN ?_ _|refine blk_drew ?_|refine blk_alloc ?_ _));refine blk_far ?_ NB120_121.out _;(with_reducible repeat (first|refine blk_drewN ?_ _|refine blk_drew ?_|refine blk_alloc ?_ _));refine blk_far ?_ NB120_121.out _;(with_reducible repeat (first|refine blk_drewN ?_ _|refine blk_drew ?_|refine blk_alloc ?_ _));refine blk_put (cs:=#[.int .i64 0,.string (⟨#[]⟩:ByteArray),.int .i64 0,.int .i64 x121003_1]) ?_ 3 _ rfl;(with_reducible repeat (first|refine blk_drewN ?_ _|refine blk_drew ?_|refine blk_alloc ?_ _));refine blk_put (cs:=#[.int .i64 0,.string (⟨#[]⟩:ByteArray),.int .i64 x121002_1,.int .i64 x121003_1]) ?_ 2 _ rfl;(with_reducible repeat (first|refine blk_drewN ?_ _|refine blk_drew ?_|refine blk_alloc ?_ _));refine blk_put (cs:=#[.int .i64 0,.string x121001_1,.int .i64 x121002_1,.int .i64 x121003_1]) ?_ 1 _ rfl;(with_reducible repeat (first|refine blk_drewN ?_ _|refine blk_drew ?_|refine blk_alloc ?_ _));refine blk_put (cs:=#[.int .i64 x121000_1,.string x121001_1,.int .i64 x121002_1,.int .i64 x121003_1]) ?_ 0 _ rfl;(with_reducible repeat (first|refine blk_drewN ?_ _|refine blk_drew ?_|refine blk_alloc ?_ _));exact BK120.out) Try.underlying63 rfl (by kernel_rfl) (.tmp (.cell gb121 31 #[.int .i64 t126,.int .i64 t127] (0,0) _ rfl (by (with_reducible repeat (first|refine blk_drewN ?_ _|refine blk_drew ?_|refine blk_alloc ?_ _));refine blk_put (cs:=#[.int .i64 t126,.int .i64 x122001_1]) ?_ 1 _ rfl;(with_reducible repeat (first|refine blk_drewN ?_ _|refine blk_drew ?_|refine blk_alloc ?_ _));refine blk_put (cs:=#[.int .i64 x122000_1,.int .i64 x122001_1]) ?_ 0 _ rfl;(with_reducible repeat (first|refine blk_drewN ?_ _|refine blk_drew ?_|refine blk_alloc ?_ _));refine blk_far ?_ NB121_120.out _;(with_reducible repeat (first|refine blk_drewN ?_ _|refine blk_drew ?_|refine blk_alloc ?_ _));refine blk_far ?_ NB121_120.out _;(with_reducible repeat (first|refine blk_drewN ?_ _|refine blk_drew ?_|refine blk_alloc ?_ _));refine blk_far ?_ NB121_120.out _;(with_reducible repeat (first|refine blk_drewN ?_ _|refine blk_drew ?_|refine blk_alloc ?_ _));refine blk_far ?_ NB121_120.out _;(with_reducible repeat (first|refine blk_drewN ?_ _|refine blk_drew ?_|refine blk_alloc ?_ _));exact BK121.out) Try.underlying31 rfl (by kernel_rfl) .nil)))) rfl ?_
                exact⟨by first|rfl|(simp[errW_none,errW_some] <;> rfl)|(simp[*,errW_none,errW_some] <;> rfl),by repeat (first|(with_reducible first|exact HB.out|apply below_alloc|apply pw_below_drewN|apply below_drew1|refine below_set ?_ GE120.out|refine below_set ?_ GE121.out)|exact HB.out)⟩
              · rw[if_neg c20] at H
                have c20b0:decide ((a0.size:Int)≤(wrap64 (x8_1+1)))=false:=decide_eq_false c20
                clear c20
                obtain⟨ji26,hji26⟩:∃ j_:Int,(wrap64 (x8_1+1))=j_:=⟨_,rfl⟩
                replace H:(if 0≤(ji26) then (if (ji26)<(a0.size:Int) then (if (bt a0 (ji26))=34 then (vestryref08_text.j1 k1 a0 a1 x7_1 x8_1 (bt a0 (ji26)) ((bt a0 (ji26))==34)) else (vestryref08_text.j1 k1 a0 a1 x7_1 x8_1 (bt a0 (ji26)) ((bt a0 (ji26))==92))) else (none)) else (none))=some (r1,r2,r3,r4,r5,r6,r7):=by first|(rw[hji26] at H;exact H)|(simp only[hji26] at H ⊢;exact H)
                (try rw[hji26] at c20b0)
                have hji26w:(IntKind.i64.wrap (x8_1+1))=ji26:=(i64_w _).trans hji26
                by_cases c27:0≤(ji26)
                · rw[if_pos c27] at H
                  have c27b0:decide (0≤(ji26))=true:=decide_eq_true c27
                  clear c27
                  by_cases c28:(ji26)<(a0.size:Int)
                  · rw[if_pos c28] at H
                    have c28b0:decide ((ji26)<(a0.size:Int))=true:=decide_eq_true c28
                    clear c28
                    have HC30:=Aside0.mk H
                    clear H
                    have p7:0≤(x8_1:Int):=of_decide_eq_true (by first|(with_reducible assumption)|assumption)
                    have q7:x8_1<(a0.size:Int):=of_decide_eq_true (by first|(with_reducible assumption)|assumption)
                    have hx7:=bt_at a0 x8_1
                    replace p7:=eq_true p7
                    replace q7:=eq_true q7
                    have p29:0≤((ji26):Int):=of_decide_eq_true (by first|(with_reducible assumption)|assumption)
                    have q29:(ji26)<(a0.size:Int):=of_decide_eq_true (by first|(with_reducible assumption)|assumption)
                    have hx29:=bt_at a0 (ji26)
                    replace p29:=eq_true p29
                    replace q29:=eq_true q29
                    go_upto_if 57 with (fail)
                    go_cut [57] (fun v57 wc=>∃ (kq:Nat) (x57_29:Bool),v57=.bool x57_29∧Aside0 (vestryref08_text.j1 kq a0 a1 x7_1 x8_1 (bt a0 (ji26)) x57_29=some (r1,r2,r3,r4,r5,r6,r7))∧Aside0 (kq≤k1)∧Aside0 (Kd.R (Kd.int .u8) 5 wc w.heap.size (fun _=>True) u7 x7_1)∧Aside0 (wc.heap[gb120]?=some (.cells #[.int .i64 x121000_1,.string x121001_1,.int .i64 x121002_1,.int .i64 x121003_1] 63 (0,0)))∧Aside0 (wc.heap[gb121]?=some (.cells #[.int .i64 x122000_1,.int .i64 x122001_1] 31 (0,0)))∧Aside0 (Below w.heap.size w wc))
                    case first=>
                     have H:=HC30.out
                     clear HC30
                     by_cases c31:(bt a0 (ji26))=34
                     · rw[if_pos c31] at H
                       have c31b0:((bt a0 (ji26))==34)=true:=beq_iff_eq.mpr c31
                       have c31b1:((bt a0 (ji26)) != 34)=false:=bne_eq_false_iff_eq.mpr c31
                       clear c31
                       (first|rw[c31b0]|(simp only[i64_w,i32_w];rw[c31b0])|skip)
                       have H':=Aside0.mk H
                       clear H
                       go_wp2
                       go_meet
                       case rel=>exact⟨_,(((bt a0 (ji26))==34)),(by first|rfl|(exact congrArg Value.bool c31b0.symm)|(exact congrArg Value.bool c31b0)|(simp;done)|(simp only[← hji26] <;> (first|rfl|simp))|(simp[*];done)),H',⟨by have:=HK1.out;first|omega|exact Nat.le_refl _⟩,⟨by (with_reducible repeat (first|apply Kd.R_alloc|apply Kd.R_drewN|apply Kd.R_drew));exact HO_7.out⟩,⟨by (with_reducible repeat (first|refine blk_drewN ?_ _|refine blk_drew ?_|refine blk_alloc ?_ _));exact BK120.out⟩,⟨by (with_reducible repeat (first|refine blk_drewN ?_ _|refine blk_drew ?_|refine blk_alloc ?_ _));exact BK121.out⟩,⟨by repeat (first|(with_reducible first|exact HB.out|apply below_alloc|apply pw_below_drewN|apply below_drew1|refine below_set ?_ GE120.out|refine below_set ?_ GE121.out)|exact HB.out)⟩⟩
                     · rw[if_neg c31] at H
                       have c31b0:((bt a0 (ji26))==34)=false:=beq_eq_false_iff_ne.mpr c31
                       have c31b1:((bt a0 (ji26)) != 34)=true:=bne_iff_ne.mpr c31
                       (first|rw[c31b0]|(simp only[i64_w,i32_w];rw[c31b0])|skip)
                       have H':=Aside0.mk H
                       clear H
                       go_wp2
                       go_meet
                       case rel=>exact⟨_,(((bt a0 (ji26))==92)),(by first|rfl|(simp;done)|(simp only[← hji26] <;> (first|rfl|simp))|(simp[*];done)),H',⟨by have:=HK1.out;first|omega|exact Nat.le_refl _⟩,⟨by (with_reducible repeat (first|apply Kd.R_alloc|apply Kd.R_drewN|apply Kd.R_drew));exact HO_7.out⟩,⟨by (with_reducible repeat (first|refine blk_drewN ?_ _|refine blk_drew ?_|refine blk_alloc ?_ _));exact BK120.out⟩,⟨by (with_reducible repeat (first|refine blk_drewN ?_ _|refine blk_drew ?_|refine blk_alloc ?_ _));exact BK121.out⟩,⟨by repeat (first|(with_reducible first|exact HB.out|apply below_alloc|apply pw_below_drewN|apply below_drew1|refine below_set ?_ GE120.out|refine below_set ?_ GE121.out)|exact HB.out)⟩⟩
                    case rest=>
                     clear HC30
                     try clear c1
                     try clear c2
                     try clear p2
                     try clear q2
                     try clear hx2
                     try clear c3
                     try clear c4
                     try clear c5
                     try clear c5b0
                     try clear c6
                     try clear c6b0
                     try clear p6
                     try clear p7
                     try clear q7
                     try clear hx7
                     try clear c8
                     try clear c8b0
                     try clear c8b1
                     try clear hcv9
                     try clear c10
                     try clear c13
                     try clear c13b0
                     try clear c13b1
                     try clear c16
                     try clear c19
                     try clear c19b0
                     try clear c19b1
                     try clear c20
                     try clear c20b0
                     try clear c23
                     try clear c27
                     try clear c27b0
                     try clear c28
                     try clear c28b0
                     try clear p29
                     try clear q29
                     try clear hx29
                     try clear c31
                     try clear c31b0
                     try clear c31b1
                     try clear hcz11_0
                     try clear hcz11_1
                     try clear hcz11_2
                     try clear hcz11_3
                     try clear hcz12_0
                     try clear hcz12_1
                     try clear hcz17_0
                     try clear hcz17_1
                     try clear hcz17_2
                     try clear hcz17_3
                     try clear hcz18_0
                     try clear hcz18_1
                     try clear hcz24_0
                     try clear hcz24_1
                     try clear hcz24_2
                     try clear hcz24_3
                     try clear hcz25_0
                     try clear hcz25_1
                     try clear hfz11_0
                     try clear hfz11_1
                     try clear hfz11_2
                     try clear hfz11_3
                     try clear hfz12_0
                     try clear hfz12_1
                     try clear hfz17_0
                     try clear hfz17_1
                     try clear hfz17_2
                     try clear hfz17_3
                     try clear hfz18_0
                     try clear hfz18_1
                     try clear hfz24_0
                     try clear hfz24_1
                     try clear hfz24_2
                     try clear hfz24_3
                     try clear hfz25_0
                     try clear hfz25_1
                     try clear p2
                     try clear p29
                     try clear p7
                     try clear q29
                     try clear q7
                     obtain⟨kq,x57_29,rfl,HA,HJ29,HO_7,BK120,BK121,HB⟩:=hcut
                     cases kq with
                     | zero=>exact absurd HA.out (by simp[vestryref08_text.j1])
                     | succ kj29=>
                       have H:=HA.out
                       clear HA
                       simp only[vestryref08_text.j1] at H
                       by_cases c32:x57_29=true
                       · subst c32
                         have H1:(if 0≤(wrap64 (x8_1+1)) then (if (wrap64 (x8_1+1))<(a0.size:Int) then (if x7_1.length<140737488355328 then (vestryref08_text.l0 kj29 a0 a1 (x7_1++[bt a0 (wrap64 (x8_1+1))]) (wrap64 ((wrap64 (x8_1+1))+1))) else (none)) else (none)) else (none))=some (r1,r2,r3,r4,r5,r6,r7):=by rw[if_pos rfl] at H;exact H
                         clear H
                         have H:=H1
                         clear H1
                         obtain⟨ji33,hji33⟩:∃ j_:Int,(wrap64 (x8_1+1))=j_:=⟨_,rfl⟩
                         replace H:(if 0≤(ji33) then (if (ji33)<(a0.size:Int) then (if x7_1.length<140737488355328 then (vestryref08_text.l0 kj29 a0 a1 (x7_1++[bt a0 (ji33)]) (wrap64 ((ji33)+1))) else (none)) else (none)) else (none))=some (r1,r2,r3,r4,r5,r6,r7):=by first|(rw[hji33] at H;exact H)|(simp only[hji33] at H ⊢;exact H)
                         (try rw[hji33] at c20b0)
                         have hji33w:(IntKind.i64.wrap (x8_1+1))=ji33:=(i64_w _).trans hji33
                         have e_33:ji33=ji26:=hji33.symm.trans hji26
                         subst e_33
                         by_cases c34:0≤(ji33)
                         · rw[if_pos c34] at H
                           have c34b0:decide (0≤(ji33))=true:=decide_eq_true c34
                           clear c34
                           by_cases c35:(ji33)<(a0.size:Int)
                           · rw[if_pos c35] at H
                             have c35b0:decide ((ji33)<(a0.size:Int))=true:=decide_eq_true c35
                             clear c35
                             by_cases c37:x7_1.length<140737488355328
                             · rw[if_pos c37] at H
                               have LMc37:=Aside0.mk c37
                               clear c37
                               obtain⟨y128,hy128⟩:∃ y_:List Int,y_=(x7_1++[bt a0 (ji33)]):=⟨_,rfl⟩
                               replace H:(vestryref08_text.l0 kj29 a0 a1 y128 (wrap64 ((ji33)+1)))=some (r1,r2,r3,r4,r5,r6,r7):=by first|(rw[hy128];with_reducible exact H)|(have H2_:=(Option.bind_some _ _).symm.trans H;rw[hy128];with_reducible exact H2_)|(have H2_:=(Option.bind_some _ _).symm.trans H;with_reducible exact H2_)|with_reducible exact H|(rw[hy128];exact H)|exact H
                               have Ny128:=Aside0.mk hy128
                               clear hy128
                               have H':=Aside0.mk H
                               clear H
                               have p36:0≤((ji33):Int):=of_decide_eq_true (by first|(with_reducible assumption)|assumption)
                               have q36:(ji33)<(a0.size:Int):=of_decide_eq_true (by first|(with_reducible assumption)|assumption)
                               have hx36:=bt_at a0 (ji33)
                               replace p36:=eq_true p36
                               replace q36:=eq_true q36
                               go_wp2_with (first|((with_reducible refine gate_builtin (b:=.append) (xs:=#[.tmp 60,.tmp 65]) rfl ?_);at_builtin;refine Kd.R_append (Kd.int .u8) (w0:=w) w.heap.size rfl (.tmp 60) (.tmp 65) 127 5 (.int .u8 0) 1 rfl Try.underlying127 info5 rfl (by decide) (by omega) u7 x7_1 (bt a0 (ji33)) [.int .u8 (bt a0 (ji33))] (fun _=>True) (fun _=>False) rfl rfl ?aP (fun _ hk=>hk.elim) ?aF ?aO ?aB ?aS ?aL ?_;(case aP=>exact rfl);(case aB=>exact (by repeat (first|(with_reducible first|exact HB.out|apply below_alloc|apply pw_below_drewN|apply below_drew1|refine below_set ?_ GE120.out|refine below_set ?_ GE121.out)|exact HB.out)));(case aF=>exact (fun _ _=>trivial));(case aO=>exact (by (with_reducible repeat (first|apply Kd.R_alloc|apply Kd.R_drewN|apply Kd.R_drew));exact HO_7.out));(case aS=>exact (below_size (by repeat (first|(with_reducible first|exact HB.out|apply below_alloc|apply pw_below_drewN|apply below_drew1|refine below_set ?_ GE120.out|refine below_set ?_ GE121.out)|exact HB.out))));(case aL=>have:=LMc37.out;omega);intro v129 w38 ho hb hg hat;rw[← Ny128.out] at ho;have n0_:=Aside0.mk (blk_grown (g:=gb120) (o:=.cells #[.int .i64 x121000_1,.string x121001_1,.int .i64 x121002_1,.int .i64 x121003_1] 63 (0,0)) (by (with_reducible repeat (first|refine blk_drewN ?_ _|refine blk_drew ?_|refine blk_alloc ?_ _));exact BK120.out) hg (Kd.R_ne HO_7.out BK120.out (by decide)));have n1_:=Aside0.mk (blk_grown (g:=gb121) (o:=.cells #[.int .i64 x122000_1,.int .i64 x122001_1] 31 (0,0)) (by (with_reducible repeat (first|refine blk_drewN ?_ _|refine blk_drew ?_|refine blk_alloc ?_ _));exact BK121.out) hg (Kd.R_ne HO_7.out BK121.out (by decide)));have n2_:=Aside0.mk (hb);have n3_:=Aside0.mk (ho);clear BK120;clear BK121;clear HB;clear HO_7;have BK120:=n0_;have BK121:=n1_;have HB:=n2_;have HO130:=n3_;clear n0_ n1_ n2_ n3_;clear ho hb hg hat))
                               go_roundg kj29
                               case measure=>have:=HK1.out;have:=HJ29.out;omega
                               case rel=>exact⟨(y128),(wrap64 ((ji33)+1)),(x121000_1),(x121001_1),(x121002_1),(x121003_1),(x122000_1),(x122001_1),(by first|rfl|(simp;done)|(simp only[← hji33] <;> (first|rfl|simp))|(simp[*];done)),H',⟨by have:=HK1.out;have:=HJ29.out;omega⟩,⟨by (with_reducible repeat (first|apply Kd.R_alloc|apply Kd.R_drewN|apply Kd.R_drew));exact HO130.out⟩,⟨by (with_reducible repeat (first|refine blk_drewN ?_ _|refine blk_drew ?_|refine blk_alloc ?_ _));exact BK120.out⟩,⟨by (with_reducible repeat (first|refine blk_drewN ?_ _|refine blk_drew ?_|refine blk_alloc ?_ _));exact BK121.out⟩,⟨by repeat (first|(with_reducible first|exact HB.out|apply below_alloc|apply pw_below_drewN|apply below_drew1|refine below_set ?_ GE120.out|refine below_set ?_ GE121.out)|exact HB.out)⟩⟩
                             · rw[if_neg c37] at H
                               exact absurd H (by simp)
                           · rw[if_neg c35] at H
                             exact absurd H (by simp)
                         · rw[if_neg c34] at H
                           exact absurd H (by simp)
                       · replace c32:=Bool.eq_false_iff.mpr c32
                         subst c32
                         have H1:(if (bt a0 (ji26))=110 then (if x7_1.length<140737488355328 then (vestryref08_text.l0 kj29 a0 a1 (x7_1++[10]) (wrap64 ((wrap64 (x8_1+1))+1))) else (none)) else (if (bt a0 (ji26))=116 then (if x7_1.length<140737488355328 then (vestryref08_text.l0 kj29 a0 a1 (x7_1++[9]) (wrap64 ((wrap64 (x8_1+1))+1))) else (none)) else ((vestryref08_fault.f 7 x8_1).bind fun bt137=>(some (0,(⟨#[]⟩:ByteArray),0,0,0,bt137.1,bt137.2)))))=some (r1,r2,r3,r4,r5,r6,r7):=by rw[if_neg (show ¬(false=true) by decide)] at H;exact H
                         clear H
                         have H:=H1
                         clear H1
                         by_cases c39:(bt a0 (ji26))=110
                         · rw[if_pos c39] at H
                           have c39b0:((bt a0 (ji26))==110)=true:=beq_iff_eq.mpr c39
                           have c39b1:((bt a0 (ji26)) != 110)=false:=bne_eq_false_iff_eq.mpr c39
                           clear c39
                           by_cases c40:x7_1.length<140737488355328
                           · rw[if_pos c40] at H
                             have LMc40:=Aside0.mk c40
                             clear c40
                             obtain⟨y131,hy131⟩:∃ y_:List Int,y_=(x7_1++[10]):=⟨_,rfl⟩
                             replace H:(vestryref08_text.l0 kj29 a0 a1 y131 (wrap64 ((wrap64 (x8_1+1))+1)))=some (r1,r2,r3,r4,r5,r6,r7):=by first|(rw[hy131];with_reducible exact H)|(have H2_:=(Option.bind_some _ _).symm.trans H;rw[hy131];with_reducible exact H2_)|(have H2_:=(Option.bind_some _ _).symm.trans H;with_reducible exact H2_)|with_reducible exact H|(rw[hy131];exact H)|exact H
                             have Ny131:=Aside0.mk hy131
                             clear hy131
                             have H':=Aside0.mk H
                             clear H
                             go_wp2_with (first|((with_reducible refine gate_builtin (b:=.append) (xs:=#[.tmp 69,.tmp 70]) rfl ?_);at_builtin;refine Kd.R_append (Kd.int .u8) (w0:=w) w.heap.size rfl (.tmp 69) (.tmp 70) 127 5 (.int .u8 0) 1 rfl Try.underlying127 info5 rfl (by decide) (by omega) u7 x7_1 10 [.int .u8 10] (fun _=>True) (fun _=>False) rfl rfl ?aP (fun _ hk=>hk.elim) ?aF ?aO ?aB ?aS ?aL ?_;(case aP=>exact rfl);(case aB=>exact (by repeat (first|(with_reducible first|exact HB.out|apply below_alloc|apply pw_below_drewN|apply below_drew1|refine below_set ?_ GE120.out|refine below_set ?_ GE121.out)|exact HB.out)));(case aF=>exact (fun _ _=>trivial));(case aO=>exact (by (with_reducible repeat (first|apply Kd.R_alloc|apply Kd.R_drewN|apply Kd.R_drew));exact HO_7.out));(case aS=>exact (below_size (by repeat (first|(with_reducible first|exact HB.out|apply below_alloc|apply pw_below_drewN|apply below_drew1|refine below_set ?_ GE120.out|refine below_set ?_ GE121.out)|exact HB.out))));(case aL=>have:=LMc40.out;omega);intro v132 w41 ho hb hg hat;rw[← Ny131.out] at ho;have n0_:=Aside0.mk (blk_grown (g:=gb120) (o:=.cells #[.int .i64 x121000_1,.string x121001_1,.int .i64 x121002_1,.int .i64 x121003_1] 63 (0,0)) (by (with_reducible repeat (first|refine blk_drewN ?_ _|refine blk_drew ?_|refine blk_alloc ?_ _));exact BK120.out) hg (Kd.R_ne HO_7.out BK120.out (by decide)));have n1_:=Aside0.mk (blk_grown (g:=gb121) (o:=.cells #[.int .i64 x122000_1,.int .i64 x122001_1] 31 (0,0)) (by (with_reducible repeat (first|refine blk_drewN ?_ _|refine blk_drew ?_|refine blk_alloc ?_ _));exact BK121.out) hg (Kd.R_ne HO_7.out BK121.out (by decide)));have n2_:=Aside0.mk (hb);have n3_:=Aside0.mk (ho);clear BK120;clear BK121;clear HB;clear HO_7;have BK120:=n0_;have BK121:=n1_;have HB:=n2_;have HO133:=n3_;clear n0_ n1_ n2_ n3_;clear ho hb hg hat))
                             go_roundg kj29
                             case measure=>have:=HK1.out;have:=HJ29.out;omega
                             case rel=>exact⟨(y131),(wrap64 ((wrap64 (x8_1+1))+1)),(x121000_1),(x121001_1),(x121002_1),(x121003_1),(x122000_1),(x122001_1),(by first|rfl|(simp;done)|(simp[*];done)),H',⟨by have:=HK1.out;have:=HJ29.out;omega⟩,⟨by (with_reducible repeat (first|apply Kd.R_alloc|apply Kd.R_drewN|apply Kd.R_drew));exact HO133.out⟩,⟨by (with_reducible repeat (first|refine blk_drewN ?_ _|refine blk_drew ?_|refine blk_alloc ?_ _));exact BK120.out⟩,⟨by (with_reducible repeat (first|refine blk_drewN ?_ _|refine blk_drew ?_|refine blk_alloc ?_ _));exact BK121.out⟩,⟨by repeat (first|(with_reducible first|exact HB.out|apply below_alloc|apply pw_below_drewN|apply below_drew1|refine below_set ?_ GE120.out|refine below_set ?_ GE121.out)|exact HB.out)⟩⟩
                           · rw[if_neg c40] at H
                             exact absurd H (by simp)
                         · rw[if_neg c39] at H
                           have c39b0:((bt a0 (ji26))==110)=false:=beq_eq_false_iff_ne.mpr c39
                           have c39b1:((bt a0 (ji26)) != 110)=true:=bne_iff_ne.mpr c39
                           by_cases c42:(bt a0 (ji26))=116
                           · rw[if_pos c42] at H
                             have c42b0:((bt a0 (ji26))==116)=true:=beq_iff_eq.mpr c42
                             have c42b1:((bt a0 (ji26)) != 116)=false:=bne_eq_false_iff_eq.mpr c42
                             clear c42
                             by_cases c43:x7_1.length<140737488355328
                             · rw[if_pos c43] at H
                               have LMc43:=Aside0.mk c43
                               clear c43
                               obtain⟨y134,hy134⟩:∃ y_:List Int,y_=(x7_1++[9]):=⟨_,rfl⟩
                               replace H:(vestryref08_text.l0 kj29 a0 a1 y134 (wrap64 ((wrap64 (x8_1+1))+1)))=some (r1,r2,r3,r4,r5,r6,r7):=by first|(rw[hy134];with_reducible exact H)|(have H2_:=(Option.bind_some _ _).symm.trans H;rw[hy134];with_reducible exact H2_)|(have H2_:=(Option.bind_some _ _).symm.trans H;with_reducible exact H2_)|with_reducible exact H|(rw[hy134];exact H)|exact H
                               have Ny134:=Aside0.mk hy134
                               clear hy134
                               have H':=Aside0.mk H
                               clear H
                               go_wp2_with (first|((with_reducible refine gate_builtin (b:=.append) (xs:=#[.tmp 74,.tmp 75]) rfl ?_);at_builtin;refine Kd.R_append (Kd.int .u8) (w0:=w) w.heap.size rfl (.tmp 74) (.tmp 75) 127 5 (.int .u8 0) 1 rfl Try.underlying127 info5 rfl (by decide) (by omega) u7 x7_1 9 [.int .u8 9] (fun _=>True) (fun _=>False) rfl rfl ?aP (fun _ hk=>hk.elim) ?aF ?aO ?aB ?aS ?aL ?_;(case aP=>exact rfl);(case aB=>exact (by repeat (first|(with_reducible first|exact HB.out|apply below_alloc|apply pw_below_drewN|apply below_drew1|refine below_set ?_ GE120.out|refine below_set ?_ GE121.out)|exact HB.out)));(case aF=>exact (fun _ _=>trivial));(case aO=>exact (by (with_reducible repeat (first|apply Kd.R_alloc|apply Kd.R_drewN|apply Kd.R_drew));exact HO_7.out));(case aS=>exact (below_size (by repeat (first|(with_reducible first|exact HB.out|apply below_alloc|apply pw_below_drewN|apply below_drew1|refine below_set ?_ GE120.out|refine below_set ?_ GE121.out)|exact HB.out))));(case aL=>have:=LMc43.out;omega);intro v135 w44 ho hb hg hat;rw[← Ny134.out] at ho;have n0_:=Aside0.mk (blk_grown (g:=gb120) (o:=.cells #[.int .i64 x121000_1,.string x121001_1,.int .i64 x121002_1,.int .i64 x121003_1] 63 (0,0)) (by (with_reducible repeat (first|refine blk_drewN ?_ _|refine blk_drew ?_|refine blk_alloc ?_ _));exact BK120.out) hg (Kd.R_ne HO_7.out BK120.out (by decide)));have n1_:=Aside0.mk (blk_grown (g:=gb121) (o:=.cells #[.int .i64 x122000_1,.int .i64 x122001_1] 31 (0,0)) (by (with_reducible repeat (first|refine blk_drewN ?_ _|refine blk_drew ?_|refine blk_alloc ?_ _));exact BK121.out) hg (Kd.R_ne HO_7.out BK121.out (by decide)));have n2_:=Aside0.mk (hb);have n3_:=Aside0.mk (ho);clear BK120;clear BK121;clear HB;clear HO_7;have BK120:=n0_;have BK121:=n1_;have HB:=n2_;have HO136:=n3_;clear n0_ n1_ n2_ n3_;clear ho hb hg hat))
                               go_roundg kj29
                               case measure=>have:=HK1.out;have:=HJ29.out;omega
                               case rel=>exact⟨(y134),(wrap64 ((wrap64 (x8_1+1))+1)),(x121000_1),(x121001_1),(x121002_1),(x121003_1),(x122000_1),(x122001_1),(by first|rfl|(simp;done)|(simp[*];done)),H',⟨by have:=HK1.out;have:=HJ29.out;omega⟩,⟨by (with_reducible repeat (first|apply Kd.R_alloc|apply Kd.R_drewN|apply Kd.R_drew));exact HO136.out⟩,⟨by (with_reducible repeat (first|refine blk_drewN ?_ _|refine blk_drew ?_|refine blk_alloc ?_ _));exact BK120.out⟩,⟨by (with_reducible repeat (first|refine blk_drewN ?_ _|refine blk_drew ?_|refine blk_alloc ?_ _));exact BK121.out⟩,⟨by repeat (first|(with_reducible first|exact HB.out|apply below_alloc|apply pw_below_drewN|apply below_drew1|refine below_set ?_ GE120.out|refine below_set ?_ GE121.out)|exact HB.out)⟩⟩
                             · rw[if_neg c43] at H
                               exact absurd H (by simp)
                           · rw[if_neg c42] at H
                             have c42b0:((bt a0 (ji26))==116)=false:=beq_eq_false_iff_ne.mpr c42
                             have c42b1:((bt a0 (ji26)) != 116)=true:=bne_iff_ne.mpr c42
                             replace H:=Option.bind_eq_some_iff.mp H
                             obtain⟨⟨t137,t138⟩,A450,H⟩:=H
                             replace H:(some (0,(⟨#[]⟩:ByteArray),0,0,0,t137,t138))=some (r1,r2,r3,r4,r5,r6,r7):=H
                             have A45:=Aside0.mk A450
                             clear A450
                             simp only[Option.some.injEq,Prod.mk.injEq] at H
                             obtain⟨rfl,rfl,rfl,rfl,rfl,rfl,rfl⟩:=H
                             go_wp2_with (first|((with_reducible refine gate_callee (f:=35) rfl ?_);refine goesL_ (some 56) rfl rfl Try.func35 (by kernel_rfl) rfl #[.int .i64 7,.int .i64 x8_1] rfl (by (try simp only[List.map_toArray,List.map_cons,List.map_nil]);first|done|rfl|(simp only[List.length_drop,List.length_take];rfl)) ?_;(with_reducible refine (vestryref08_fault.calls 7 x8_1 t137 t138 _ A45.out).mono ?_);rintro e w46 ⟨rfl,hb⟩;refine⟨_,rfl,?_⟩;have n0_:=Aside0.mk (Kd.R_below (by (with_reducible repeat (first|apply Kd.R_alloc|apply Kd.R_drewN|apply Kd.R_drew));exact HO_7.out) hb);have n1_:=Aside0.mk (blk_below (g:=gb120) (o:=.cells #[.int .i64 x121000_1,.string x121001_1,.int .i64 x121002_1,.int .i64 x121003_1] 63 (0,0)) (by (with_reducible repeat (first|refine blk_drewN ?_ _|refine blk_drew ?_|refine blk_alloc ?_ _));exact BK120.out) hb);have n2_:=Aside0.mk (blk_below (g:=gb121) (o:=.cells #[.int .i64 x122000_1,.int .i64 x122001_1] 31 (0,0)) (by (with_reducible repeat (first|refine blk_drewN ?_ _|refine blk_drew ?_|refine blk_alloc ?_ _));exact BK121.out) hb);have n3_:=Aside0.mk (below_step (by repeat (first|(with_reducible first|exact HB.out|apply below_alloc|apply pw_below_drewN|apply below_drew1|refine below_set ?_ GE120.out|refine below_set ?_ GE121.out)|exact HB.out)) hb);clear HO_7;clear BK120;clear BK121;clear HB;have HO_7:=n0_;have BK120:=n1_;have BK121:=n2_;have HB:=n3_;clear n0_ n1_ n2_ n3_;(try clear hb);(try clear hb2);(try clear hk);(try clear hi);have hnb47:=NB120_121.out;have hnc47:=NB121_120.out;have hcz48_0:w46.cell? ⟨gb120,0,none⟩=some (.int .i64 x121000_1):=(blk_cell BK120.out 0).trans rfl;have hcz48_1:w46.cell? ⟨gb120,1,none⟩=some (.string x121001_1):=(blk_cell BK120.out 1).trans rfl;have hcz48_2:w46.cell? ⟨gb120,2,none⟩=some (.int .i64 x121002_1):=(blk_cell BK120.out 2).trans rfl;have hcz48_3:w46.cell? ⟨gb120,3,none⟩=some (.int .i64 x121003_1):=(blk_cell BK120.out 3).trans rfl;have hfz48_0:=blk_frozen BK120.out 0;have hfz48_1:=blk_frozen BK120.out 1;have hfz48_2:=blk_frozen BK120.out 2;have hfz48_3:=blk_frozen BK120.out 3;have hcz49_0:w46.cell? ⟨gb121,0,none⟩=some (.int .i64 x122000_1):=(blk_cell BK121.out 0).trans rfl;have hcz49_1:w46.cell? ⟨gb121,1,none⟩=some (.int .i64 x122001_1):=(blk_cell BK121.out 1).trans rfl;have hfz49_0:=blk_frozen BK121.out 0;have hfz49_1:=blk_frozen BK121.out 1))
                             refine bodyPost_ret (results_list (rs:=[.cell 4 63,.tmp 5,.cell 6 31]) rfl (by simp) (.cell gb120 63 #[.int .i64 0,.string (⟨#[]⟩:ByteArray),.int .i64 0,.int .i64 0] (0,0) _ rfl (by (with_reducible repeat (first|refine blk_drewN ?_ _|refine blk_drew ?_|refine blk_alloc ?_ _));refine blk_far ?_ NB120_121.out _;(with_reducible repeat (first|refine blk_drewN ?_ _|refine blk_drew ?_|refine blk_alloc ?_ _));refine blk_far ?_ NB120_121.out _;(with_reducible repeat (first|refine blk_drewN ?_ _|refine blk_drew ?_|refine blk_alloc ?_ _));refine blk_put (cs:=#[.int .i64 0,.string (⟨#[]⟩:ByteArray),.int .i64 0,.int .i64 x121003_1]) ?_ 3 _ rfl;(with_reducible repeat (first|refine blk_drewN ?_ _|refine blk_drew ?_|refine blk_alloc ?_ _));refine blk_put (cs:=#[.int .i64 0,.string (⟨#[]⟩:ByteArray),.int .i64 x121002_1,.int .i64 x121003_1]) ?_ 2 _ rfl;(with_reducible repeat (first|refine blk_drewN ?_ _|refine blk_drew ?_|refine blk_alloc ?_ _));refine blk_put (cs:=#[.int .i64 0,.string x121001_1,.int .i64 x121002_1,.int .i64 x121003_1]) ?_ 1 _ rfl;(with_reducible repeat (first|refine blk_drewN ?_ _|refine blk_drew ?_|refine blk_alloc ?_ _));refine blk_put (cs:=#[.int .i64 x121000_1,.string x121001_1,.int .i64 x121002_1,.int .i64 x121003_1]) ?_ 0 _ rfl;(with_reducible repeat (first|refine blk_drewN ?_ _|refine blk_drew ?_|refine blk_alloc ?_ _));exact BK120.out) Try.underlying63 rfl (by kernel_rfl) (.tmp (.cell gb121 31 #[.int .i64 t137,.int .i64 t138] (0,0) _ rfl (by (with_reducible repeat (first|refine blk_drewN ?_ _|refine blk_drew ?_|refine blk_alloc ?_ _));refine blk_put (cs:=#[.int .i64 t137,.int .i64 x122001_1]) ?_ 1 _ rfl;(with_reducible repeat (first|refine blk_drewN ?_ _|refine blk_drew ?_|refine blk_alloc ?_ _));refine blk_put (cs:=#[.int .i64 x122000_1,.int .i64 x122001_1]) ?_ 0 _ rfl;(with_reducible repeat (first|refine blk_drewN ?_ _|refine blk_drew ?_|refine blk_alloc ?_ _));refine blk_far ?_ NB121_120.out _;(with_reducible repeat (first|refine blk_drewN ?_ _|refine blk_drew ?_|refine blk_alloc ?_ _));refine blk_far ?_ NB121_120.out _;(with_reducible repeat (first|refine blk_drewN ?_ _|refine blk_drew ?_|refine blk_alloc ?_ _));refine blk_far ?_ NB121_120.out _;(with_reducible repeat (first|refine blk_drewN ?_ _|refine blk_drew ?_|refine blk_alloc ?_ _));refine blk_far ?_ NB121_120.out _;(with_reducible repeat (first|refine blk_drewN ?_ _|refine blk_drew ?_|refine blk_alloc ?_ _));exact BK121.out) Try.underlying31 rfl (by kernel_rfl) .nil)))) rfl ?_
                             exact⟨by first|rfl|(simp[errW_none,errW_some] <;> rfl)|(simp only[← hji26];first|rfl|(simp[errW_none,errW_some] <;> rfl))|(simp[*,errW_none,errW_some] <;> rfl),by repeat (first|(with_reducible first|exact HB.out|apply below_alloc|apply pw_below_drewN|apply below_drew1|refine below_set ?_ GE120.out|refine below_set ?_ GE121.out)|exact HB.out)⟩
                  · rw[if_neg c28] at H
                    exact absurd H (by simp)
                · rw[if_neg c27] at H
                  exact absurd H (by simp)
            · rw[if_neg c19] at H
              have c19b0:((bt a0 x8_1)==92)=false:=beq_eq_false_iff_ne.mpr c19
              have c19b1:((bt a0 x8_1) != 92)=true:=bne_iff_ne.mpr c19
              by_cases c51:x7_1.length<140737488355328
              · rw[if_pos c51] at H
                have LMc51:=Aside0.mk c51
                clear c51
                obtain⟨y139,hy139⟩:∃ y_:List Int,y_=(x7_1++[bt a0 x8_1]):=⟨_,rfl⟩
                replace H:(vestryref08_text.l0 k1 a0 a1 y139 (wrap64 (x8_1+1)))=some (r1,r2,r3,r4,r5,r6,r7):=by first|(rw[hy139];with_reducible exact H)|(have H2_:=(Option.bind_some _ _).symm.trans H;rw[hy139];with_reducible exact H2_)|(have H2_:=(Option.bind_some _ _).symm.trans H;with_reducible exact H2_)|with_reducible exact H|(rw[hy139];exact H)|exact H
                have Ny139:=Aside0.mk hy139
                clear hy139
                have H':=Aside0.mk H
                clear H
                have p7:0≤(x8_1:Int):=of_decide_eq_true (by first|(with_reducible assumption)|assumption)
                have q7:x8_1<(a0.size:Int):=of_decide_eq_true (by first|(with_reducible assumption)|assumption)
                have hx7:=bt_at a0 x8_1
                replace p7:=eq_true p7
                replace q7:=eq_true q7
                have p50:0≤(x8_1:Int):=of_decide_eq_true (by first|(with_reducible assumption)|assumption)
                have q50:x8_1<(a0.size:Int):=of_decide_eq_true (by first|(with_reducible assumption)|assumption)
                have hx50:=bt_at a0 x8_1
                replace p50:=eq_true p50
                replace q50:=eq_true q50
                go_wp2_with (first|((with_reducible refine gate_builtin (b:=.append) (xs:=#[.tmp 20,.tmp 24]) rfl ?_);at_builtin;refine Kd.R_append (Kd.int .u8) (w0:=w) w.heap.size rfl (.tmp 20) (.tmp 24) 127 5 (.int .u8 0) 1 rfl Try.underlying127 info5 rfl (by decide) (by omega) u7 x7_1 (bt a0 x8_1) [.int .u8 (bt a0 x8_1)] (fun _=>True) (fun _=>False) rfl rfl ?aP (fun _ hk=>hk.elim) ?aF ?aO ?aB ?aS ?aL ?_;(case aP=>exact rfl);(case aB=>exact (by repeat (first|(with_reducible first|exact HB.out|apply below_alloc|apply pw_below_drewN|apply below_drew1|refine below_set ?_ GE120.out|refine below_set ?_ GE121.out)|exact HB.out)));(case aF=>exact (fun _ _=>trivial));(case aO=>exact (by (with_reducible repeat (first|apply Kd.R_alloc|apply Kd.R_drewN|apply Kd.R_drew));exact HO_7.out));(case aS=>exact (below_size (by repeat (first|(with_reducible first|exact HB.out|apply below_alloc|apply pw_below_drewN|apply below_drew1|refine below_set ?_ GE120.out|refine below_set ?_ GE121.out)|exact HB.out))));(case aL=>have:=LMc51.out;omega);intro v140 w52 ho hb hg hat;rw[← Ny139.out] at ho;have n0_:=Aside0.mk (blk_grown (g:=gb120) (o:=.cells #[.int .i64 x121000_1,.string x121001_1,.int .i64 x121002_1,.int .i64 x121003_1] 63 (0,0)) (by (with_reducible repeat (first|refine blk_drewN ?_ _|refine blk_drew ?_|refine blk_alloc ?_ _));exact BK120.out) hg (Kd.R_ne HO_7.out BK120.out (by decide)));have n1_:=Aside0.mk (blk_grown (g:=gb121) (o:=.cells #[.int .i64 x122000_1,.int .i64 x122001_1] 31 (0,0)) (by (with_reducible repeat (first|refine blk_drewN ?_ _|refine blk_drew ?_|refine blk_alloc ?_ _));exact BK121.out) hg (Kd.R_ne HO_7.out BK121.out (by decide)));have n2_:=Aside0.mk (hb);have n3_:=Aside0.mk (ho);clear BK120;clear BK121;clear HB;clear HO_7;have BK120:=n0_;have BK121:=n1_;have HB:=n2_;have HO141:=n3_;clear n0_ n1_ n2_ n3_;clear ho hb hg hat))
                go_roundg k1
                case measure=>have:=HK1.out;omega
                case rel=>exact⟨(y139),(wrap64 (x8_1+1)),(x121000_1),(x121001_1),(x121002_1),(x121003_1),(x122000_1),(x122001_1),(by first|rfl|(simp;done)|(simp[*];done)),H',⟨by have:=HK1.out;omega⟩,⟨by (with_reducible repeat (first|apply Kd.R_alloc|apply Kd.R_drewN|apply Kd.R_drew));exact HO141.out⟩,⟨by (with_reducible repeat (first|refine blk_drewN ?_ _|refine blk_drew ?_|refine blk_alloc ?_ _));exact BK120.out⟩,⟨by (with_reducible repeat (first|refine blk_drewN ?_ _|refine blk_drew ?_|refine blk_alloc ?_ _));exact BK121.out⟩,⟨by repeat (first|(with_reducible first|exact HB.out|apply below_alloc|apply pw_below_drewN|apply below_drew1|refine below_set ?_ GE120.out|refine below_set ?_ GE121.out)|exact HB.out)⟩⟩
              · rw[if_neg c51] at H
                exact absurd H (by simp)
      · rw[if_neg c6] at H
        exact absurd H (by simp)
    · rw[if_neg c5] at H
      have c5b0:decide (x8_1<(a0.size:Int))=false:=decide_eq_false c5
      clear c5
      replace H:=Option.bind_eq_some_iff.mp H
      obtain⟨⟨t122,t123⟩,A530,H⟩:=H
      replace H:(some (0,(⟨#[]⟩:ByteArray),0,0,0,t122,t123))=some (r1,r2,r3,r4,r5,r6,r7):=H
      have A53:=Aside0.mk A530
      clear A530
      simp only[Option.some.injEq,Prod.mk.injEq] at H
      obtain⟨rfl,rfl,rfl,rfl,rfl,rfl,rfl⟩:=H
      go_wp2_with (first|((with_reducible refine gate_callee (f:=35) rfl ?_);refine goesL_ (some 81) rfl rfl Try.func35 (by kernel_rfl) rfl #[.int .i64 7,.int .i64 a1] rfl (by (try simp only[List.map_toArray,List.map_cons,List.map_nil]);first|done|rfl|(simp only[List.length_drop,List.length_take];rfl)) ?_;(with_reducible refine (vestryref08_fault.calls 7 a1 t122 t123 _ A53.out).mono ?_);rintro e w54 ⟨rfl,hb⟩;refine⟨_,rfl,?_⟩;have n0_:=Aside0.mk (Kd.R_below (by (with_reducible repeat (first|apply Kd.R_alloc|apply Kd.R_drewN|apply Kd.R_drew));exact HO_7.out) hb);have n1_:=Aside0.mk (blk_below (g:=gb120) (o:=.cells #[.int .i64 x121000_1,.string x121001_1,.int .i64 x121002_1,.int .i64 x121003_1] 63 (0,0)) (by (with_reducible repeat (first|refine blk_drewN ?_ _|refine blk_drew ?_|refine blk_alloc ?_ _));exact BK120.out) hb);have n2_:=Aside0.mk (blk_below (g:=gb121) (o:=.cells #[.int .i64 x122000_1,.int .i64 x122001_1] 31 (0,0)) (by (with_reducible repeat (first|refine blk_drewN ?_ _|refine blk_drew ?_|refine blk_alloc ?_ _));exact BK121.out) hb);have n3_:=Aside0.mk (below_step (by repeat (first|(with_reducible first|exact HB.out|apply below_alloc|apply pw_below_drewN|apply below_drew1|refine below_set ?_ GE120.out|refine below_set ?_ GE121.out)|exact HB.out)) hb);clear HO_7;clear BK120;clear BK121;clear HB;have HO_7:=n0_;have BK120:=n1_;have BK121:=n2_;have HB:=n3_;clear n0_ n1_ n2_ n3_;(try clear hb);(try clear hb2);(try clear hk);(try clear hi);have hnb55:=NB120_121.out;have hnc55:=NB121_120.out;have hcz56_0:w54.cell? ⟨gb120,0,none⟩=some (.int .i64 x121000_1):=(blk_cell BK120.out 0).trans rfl;have hcz56_1:w54.cell? ⟨gb120,1,none⟩=some (.string x121001_1):=(blk_cell BK120.out 1).trans rfl;have hcz56_2:w54.cell? ⟨gb120,2,none⟩=some (.int .i64 x121002_1):=(blk_cell BK120.out 2).trans rfl;have hcz56_3:w54.cell? ⟨gb120,3,none⟩=some (.int .i64 x121003_1):=(blk_cell BK120.out 3).trans rfl;have hfz56_0:=blk_frozen BK120.out 0;have hfz56_1:=blk_frozen BK120.out 1;have hfz56_2:=blk_frozen BK120.out 2;have hfz56_3:=blk_frozen BK120.out 3;have hcz57_0:w54.cell? ⟨gb121,0,none⟩=some (.int .i64 x122000_1):=(blk_cell BK121.out 0).trans rfl;have hcz57_1:w54.cell? ⟨gb121,1,none⟩=some (.int .i64 x122001_1):=(blk_cell BK121.out 1).trans rfl;have hfz57_0:=blk_frozen BK121.out 0;have hfz57_1:=blk_frozen BK121.out 1))
      refine bodyPost_ret (results_list (rs:=[.cell 4 63,.tmp 5,.cell 6 31]) rfl (by simp) (.cell gb120 63 #[.int .i64 0,.string (⟨#[]⟩:ByteArray),.int .i64 0,.int .i64 0] (0,0) _ rfl (by (with_reducible repeat (first|refine blk_drewN ?_ _|refine blk_drew ?_|refine blk_alloc ?_ _));refine blk_far ?_ NB120_121.out _;(with_reducible repeat (first|refine blk_drewN ?_ _|refine blk_drew ?_|refine blk_alloc ?_ _));refine blk_far ?_ NB120_121.out _;(with_reducible repeat (first|refine blk_drewN ?_ _|refine blk_drew ?_|refine blk_alloc ?_ _));refine blk_put (cs:=#[.int .i64 0,.string (⟨#[]⟩:ByteArray),.int .i64 0,.int .i64 x121003_1]) ?_ 3 _ rfl;(with_reducible repeat (first|refine blk_drewN ?_ _|refine blk_drew ?_|refine blk_alloc ?_ _));refine blk_put (cs:=#[.int .i64 0,.string (⟨#[]⟩:ByteArray),.int .i64 x121002_1,.int .i64 x121003_1]) ?_ 2 _ rfl;(with_reducible repeat (first|refine blk_drewN ?_ _|refine blk_drew ?_|refine blk_alloc ?_ _));refine blk_put (cs:=#[.int .i64 0,.string x121001_1,.int .i64 x121002_1,.int .i64 x121003_1]) ?_ 1 _ rfl;(with_reducible repeat (first|refine blk_drewN ?_ _|refine blk_drew ?_|refine blk_alloc ?_ _));refine blk_put (cs:=#[.int .i64 x121000_1,.string x121001_1,.int .i64 x121002_1,.int .i64 x121003_1]) ?_ 0 _ rfl;(with_reducible repeat (first|refine blk_drewN ?_ _|refine blk_drew ?_|refine blk_alloc ?_ _));exact BK120.out) Try.underlying63 rfl (by kernel_rfl) (.tmp (.cell gb121 31 #[.int .i64 t122,.int .i64 t123] (0,0) _ rfl (by (with_reducible repeat (first|refine blk_drewN ?_ _|refine blk_drew ?_|refine blk_alloc ?_ _));refine blk_put (cs:=#[.int .i64 t122,.int .i64 x122001_1]) ?_ 1 _ rfl;(with_reducible repeat (first|refine blk_drewN ?_ _|refine blk_drew ?_|refine blk_alloc ?_ _));refine blk_put (cs:=#[.int .i64 x122000_1,.int .i64 x122001_1]) ?_ 0 _ rfl;(with_reducible repeat (first|refine blk_drewN ?_ _|refine blk_drew ?_|refine blk_alloc ?_ _));refine blk_far ?_ NB121_120.out _;(with_reducible repeat (first|refine blk_drewN ?_ _|refine blk_drew ?_|refine blk_alloc ?_ _));refine blk_far ?_ NB121_120.out _;(with_reducible repeat (first|refine blk_drewN ?_ _|refine blk_drew ?_|refine blk_alloc ?_ _));refine blk_far ?_ NB121_120.out _;(with_reducible repeat (first|refine blk_drewN ?_ _|refine blk_drew ?_|refine blk_alloc ?_ _));refine blk_far ?_ NB121_120.out _;(with_reducible repeat (first|refine blk_drewN ?_ _|refine blk_drew ?_|refine blk_alloc ?_ _));exact BK121.out) Try.underlying31 rfl (by kernel_rfl) .nil)))) rfl ?_
      exact⟨by first|rfl|(simp[errW_none,errW_some] <;> rfl)|(simp[*,errW_none,errW_some] <;> rfl),by repeat (first|(with_reducible first|exact HB.out|apply below_alloc|apply pw_below_drewN|apply below_drew1|refine below_set ?_ GE120.out|refine below_set ?_ GE121.out)|exact HB.out)⟩
end Go.Proofs.Ytddmceldglelkaa.PTokens
