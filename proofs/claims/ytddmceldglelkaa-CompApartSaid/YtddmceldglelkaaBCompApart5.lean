/- A claim's texts, in the order of what they need: PTokensx3. -/
import Derived.Test.YtddmceldglelkaaBCompApart3
import Derived.Test.YtddmceldglelkaaBCompApart4
set_option maxRecDepth 100000
set_option maxHeartbeats 8000000
set_option linter.unusedVariables false
set_option linter.unusedSimpArgs false
set_option linter.unusedSectionVars false
namespace Go.Proofs.Ytddmceldglelkaa.PTokens
open Go.RowKit YtddmceldglelkaaW.PrintWords YtddmceldglelkaaW.PrintLast YtddmceldglelkaaW.PrintMore
attribute [local go_sem] max2_int min2_int max_two min_two max_three min_three max_four min_four
set_option linter.unusedVariables false
set_option linter.unusedSimpArgs false
/-! ### vestryref08_number: function 39 -/
mutual
def vestryref08_number.l0:Nat→ByteArray→Int→Int→Int→Bool→Option (Int×ByteArray×Int×Int×Int×Int×Int)
 | 0,_,_,_,_,_=>none
 | k+1,x0,x1,x7,x8,x9=>if x7<(x0.size:Int) then (if 0≤x7 then ((vestryref03_Digit.f (bt x0 x7)).bind fun t113=>(if t113=true then (if x7=x1 then (vestryref08_number.j1 k x0 x1 x7 x8 x9 true) else (if 0≤x1 then (if x1<(x0.size:Int) then (vestryref08_number.j1 k x0 x1 x7 x8 x9 ((bt x0 x1) != 48)) else (none)) else (none))) else (vestryref08_number.j1 k x0 x1 x7 x8 x9 false))) else (none)) else (vestryref08_number.j1 k x0 x1 x7 x8 x9 false)
def vestryref08_number.j1:Nat→ByteArray→Int→Int→Int→Bool→Bool→Option (Int×ByteArray×Int×Int×Int×Int×Int)
 | 0,_,_,_,_,_,_=>none
 | k+1,x0,x1,x7,x8,x9,x32=>if x32=true then (if 0≤x7 then (if x7<(x0.size:Int) then (if x9=true then (vestryref08_number.l0 k x0 x1 (wrap64 (x7+1)) x8 true) else (if (x8 > ((9223372036854775807 - (((bt x0 x7) - 48) % 256)) / 10)) then (vestryref08_number.l0 k x0 x1 (wrap64 (x7+1)) x8 (decide (x8 > ((9223372036854775807 - (((bt x0 x7) - 48) % 256)) / 10)))) else (vestryref08_number.l0 k x0 x1 (wrap64 (x7+1)) (wrap64 ((wrap64 (x8*10))+(((bt x0 x7) - 48) % 256))) (decide (x8 > ((9223372036854775807 - (((bt x0 x7) - 48) % 256)) / 10)))))) else (none)) else (none)) else (if x7<(x0.size:Int) then (if 0≤x7 then ((vestryref03_Digit.f (bt x0 x7)).bind fun t114=>(if t114=true then (vestryref08_number.j2 k x1 x7 x8 x9 true) else ((vestryref03_Letter.f (bt x0 x7)).bind fun t115=>(vestryref08_number.j2 k x1 x7 x8 x9 t115)))) else (none)) else (vestryref08_number.j2 k x1 x7 x8 x9 false))
def vestryref08_number.j2:Nat→Int→Int→Int→Bool→Bool→Option (Int×ByteArray×Int×Int×Int×Int×Int)
 | 0,_,_,_,_,_=>none
 | k+1,x1,x7,x8,x9,x69=>if x69=true then ((vestryref08_fault.f 7 x7).bind fun bt116=>(some (0,(⟨#[]⟩:ByteArray),0,0,0,bt116.1,bt116.2))) else (if x9=true then ((vestryref08_fault.f 8 x1).bind fun bt118=>(some (0,(⟨#[]⟩:ByteArray),0,0,0,bt118.1,bt118.2))) else (some (2,(⟨#[]⟩:ByteArray),x8,x1,x7,0,0)))
end
def vestryref08_number.f (k:Nat) (a0:ByteArray) (a1:Int):Option (Int×ByteArray×Int×Int×Int×Int×Int):=vestryref08_number.l0 k a0 a1 a1 0 false
theorem vestryref08_number.calls (k:Nat) (a0:ByteArray) (a1:Int) (r1:Int) (r2:ByteArray) (r3:Int) (r4:Int) (r5:Int) (r6:Int) (r7:Int) (w:World) (h:vestryref08_number.f k a0 a1=some (r1,r2,r3,r4,r5,r6,r7)) :
    Calls Try.prog 39 #[.string a0,.int .i64 a1] w fun e w'=>e=.returned (.tuple #[.agg #[.int .i64 r1,.string r2,.int .i64 r3,.int .i64 r4],.int .i64 r5,.agg #[.int .i64 r6,.int .i64 r7]])∧Below w.heap.size w w':=by
 have hu63:=Try.underlying63
 have hu31:=Try.underlying31
 have HB:=Aside0.mk (Below.refl w.heap.size w)
 have H:(vestryref08_number.l0 k a0 a1 a1 0 false)=some (r1,r2,r3,r4,r5,r6,r7):=h
 clear h
 have H':=Aside0.mk H
 clear H
 go_enter Try.func39,Try.ntmps39
 go_wp2_with (first|((with_reducible refine gate_dst (N:=4) rfl ?_);refine box_event ?hg (N:=4) ?hd (cs:=#[.int .i64 0,.string (⟨#[]⟩:ByteArray),.int .i64 0,.int .i64 0]) (t:=63) ?hr ?_;(case hd=>rfl);(case hg=>rfl);(case hr=>first|(go_simp;done)|(go_simp;rfl));intro gb111 hg w3 hbox hb;have n0_:=Aside0.mk (below_step (by repeat (first|(with_reducible first|exact HB.out|apply below_alloc|apply pw_below_drewN|apply below_drew1)|exact HB.out)) hb);have n1_:=Aside0.mk (hbox);have n2_:=Aside0.mk ((by rw[hg];exact (below_size (by repeat (first|(with_reducible first|exact HB.out|apply below_alloc|apply pw_below_drewN|apply below_drew1)|exact HB.out))):w.heap.size≤gb111));have n3_:=Aside0.mk ((by rw[hg];exact (below_size (by repeat (first|(with_reducible first|exact HB.out|apply below_alloc|apply pw_below_drewN|apply below_drew1)|exact HB.out))):w.heap.size≤gb111));clear HB;have HB:=n0_;have BK111:=n1_;have GW111:=n2_;have GE111:=n3_;clear n0_ n1_ n2_ n3_;clear hb hbox hg)|((with_reducible refine gate_dst (N:=6) rfl ?_);refine box_event ?hg (N:=6) ?hd (cs:=#[.int .i64 0,.int .i64 0]) (t:=31) ?hr ?_;(case hd=>rfl);(case hg=>rfl);(case hr=>first|(go_simp;done)|(go_simp;rfl));intro gb112 hg w4 hbox hb;have n0_:=Aside0.mk (blk_below (g:=gb111) (o:=.cells #[.int .i64 0,.string (⟨#[]⟩:ByteArray),.int .i64 0,.int .i64 0] 63 (0,0)) (by (with_reducible repeat (first|refine blk_drewN ?_ _|refine blk_drew ?_|refine blk_alloc ?_ _));exact BK111.out) hb);have n1_:=Aside0.mk (below_step (by repeat (first|(with_reducible first|exact HB.out|apply below_alloc|apply pw_below_drewN|apply below_drew1|refine below_set ?_ GE111.out)|exact HB.out)) hb);have n2_:=Aside0.mk (hbox);have n3_:=Aside0.mk ((by rw[hg];exact (below_size (by repeat (first|(with_reducible first|exact HB.out|apply below_alloc|apply pw_below_drewN|apply below_drew1|refine below_set ?_ GE111.out)|exact HB.out))):w.heap.size≤gb112));have n4_:=Aside0.mk ((by rw[hg];exact (below_size (by repeat (first|(with_reducible first|exact HB.out|apply below_alloc|apply pw_below_drewN|apply below_drew1|refine below_set ?_ GE111.out)|exact HB.out))):w.heap.size≤gb112));have n5_:=Aside0.mk ((by rw[hg];exact Nat.ne_of_lt (blk_lt (g:=gb111) (o:=.cells #[.int .i64 0,.string (⟨#[]⟩:ByteArray),.int .i64 0,.int .i64 0] 63 (0,0)) (by (with_reducible repeat (first|refine blk_drewN ?_ _|refine blk_drew ?_|refine blk_alloc ?_ _));exact BK111.out)):gb111≠gb112));have n6_:=Aside0.mk ((by rw[hg];exact Nat.ne_of_gt (blk_lt (g:=gb111) (o:=.cells #[.int .i64 0,.string (⟨#[]⟩:ByteArray),.int .i64 0,.int .i64 0] 63 (0,0)) (by (with_reducible repeat (first|refine blk_drewN ?_ _|refine blk_drew ?_|refine blk_alloc ?_ _));exact BK111.out)):gb112≠gb111));clear BK111;clear HB;have BK111:=n0_;have HB:=n1_;have BK112:=n2_;have GW112:=n3_;have GE112:=n4_;have NB111_112:=n5_;have NB112_111:=n6_;clear n0_ n1_ n2_ n3_ n4_ n5_ n6_;clear hb hbox hg))
 go_loopg [7,8,9] k (fun kq v7 v8 v9 w'=>∃ (x7_1:Int) (x8_1:Int) (x9_1:Bool),v7=.int .i64 x7_1∧v8=.int .i64 x8_1∧v9=.bool x9_1∧Aside0 (vestryref08_number.l0 kq a0 a1 x7_1 x8_1 x9_1=some (r1,r2,r3,r4,r5,r6,r7))∧Aside0 (kq≤k)∧Aside0 (w'.heap[gb111]?=some (.cells #[.int .i64 0,.string (⟨#[]⟩:ByteArray),.int .i64 0,.int .i64 0] 63 (0,0)))∧Aside0 (w'.heap[gb112]?=some (.cells #[.int .i64 0,.int .i64 0] 31 (0,0)))∧Aside0 (Below w.heap.size w w'))
 case atStart=>exact⟨(a1),(0),(false),(by first|rfl|(simp;done)|(simp[*];done)),(by first|rfl|(simp;done)|(simp[*];done)),(by first|rfl|(simp;done)|(simp[*];done)),H',⟨Nat.le_refl _⟩,⟨by (with_reducible repeat (first|refine blk_drewN ?_ _|refine blk_drew ?_|refine blk_alloc ?_ _));exact BK111.out⟩,⟨by (with_reducible repeat (first|refine blk_drewN ?_ _|refine blk_drew ?_|refine blk_alloc ?_ _));exact BK112.out⟩,⟨by repeat (first|(with_reducible first|exact HB.out|apply below_alloc|apply pw_below_drewN|apply below_drew1|refine below_set ?_ GE111.out|refine below_set ?_ GE112.out)|exact HB.out)⟩⟩
 case round=>
  clear H'
  try clear p2
  try clear c3
  obtain⟨x7_1,x8_1,x9_1,rfl,rfl,rfl,HA,HK1,BK111,BK112,HB⟩:=hrel
  cases gk with
  | zero=>exact absurd HA.out (by simp[vestryref08_number.l0])
  | succ k1=>
    have H:=HA.out
    clear HA
    simp only[vestryref08_number.l0] at H
    have HC5:=Aside0.mk H
    clear H
    go_upto_region 3 with (fail)
    go_cut [32] (fun v32 wc=>∃ (kq:Nat) (x32_4:Bool),v32=.bool x32_4∧Aside0 (vestryref08_number.j1 kq a0 a1 x7_1 x8_1 x9_1 x32_4=some (r1,r2,r3,r4,r5,r6,r7))∧Aside0 (kq≤k1)∧Aside0 (wc.heap[gb111]?=some (.cells #[.int .i64 0,.string (⟨#[]⟩:ByteArray),.int .i64 0,.int .i64 0] 63 (0,0)))∧Aside0 (wc.heap[gb112]?=some (.cells #[.int .i64 0,.int .i64 0] 31 (0,0)))∧Aside0 (Below w.heap.size w wc))
    case first=>
     have H:=HC5.out
     clear HC5
     by_cases c6:x7_1<(a0.size:Int)
     · rw[if_pos c6] at H
       have c6b0:decide (x7_1<(a0.size:Int))=true:=decide_eq_true c6
       clear c6
       (first|rw[c6b0]|(simp only[i64_w,i32_w];rw[c6b0])|skip)
       by_cases c7:0≤x7_1
       · rw[if_pos c7] at H
         have c7b0:decide (0≤x7_1)=true:=decide_eq_true c7
         clear c7
         replace H:=Option.bind_eq_some_iff.mp H
         obtain⟨t113,A90,H⟩:=H
         replace H:(if t113=true then (if x7_1=a1 then (vestryref08_number.j1 k1 a0 a1 x7_1 x8_1 x9_1 true) else (if 0≤a1 then (if a1<(a0.size:Int) then (vestryref08_number.j1 k1 a0 a1 x7_1 x8_1 x9_1 ((bt a0 a1) != 48)) else (none)) else (none))) else (vestryref08_number.j1 k1 a0 a1 x7_1 x8_1 x9_1 false))=some (r1,r2,r3,r4,r5,r6,r7):=H
         have A9:=Aside0.mk A90
         clear A90
         by_cases c10:t113=true
         · subst c10
           have H1:(if x7_1=a1 then (vestryref08_number.j1 k1 a0 a1 x7_1 x8_1 x9_1 true) else (if 0≤a1 then (if a1<(a0.size:Int) then (vestryref08_number.j1 k1 a0 a1 x7_1 x8_1 x9_1 ((bt a0 a1) != 48)) else (none)) else (none)))=some (r1,r2,r3,r4,r5,r6,r7):=by rw[if_pos rfl] at H;exact H
           clear H
           have H:=H1
           clear H1
           by_cases c11:x7_1=a1
           · rw[if_pos c11] at H
             have c11b0:(x7_1==a1)=true:=beq_iff_eq.mpr c11
             have c11b1:(x7_1 != a1)=false:=bne_eq_false_iff_eq.mpr c11
             clear c11
             have H':=Aside0.mk H
             clear H
             have p8:0≤(x7_1:Int):=of_decide_eq_true (by first|(with_reducible assumption)|assumption)
             have q8:x7_1<(a0.size:Int):=of_decide_eq_true (by first|(with_reducible assumption)|assumption)
             have hx8:=bt_at a0 x7_1
             replace p8:=eq_true p8
             replace q8:=eq_true q8
             go_wp2_with (first|(go_at_call 38;(with_reducible refine (vestryref03_Digit.calls (bt a0 x7_1) true _ A9.out).mono ?_);rintro e w' ⟨rfl,⟨nd,rfl⟩⟩))
             go_meet
             case rel=>exact⟨_,(true),(by first|rfl|(simp;done)|(simp[*];done)),H',⟨by have:=HK1.out;first|omega|exact Nat.le_refl _⟩,⟨by (with_reducible repeat (first|refine blk_drewN ?_ _|refine blk_drew ?_|refine blk_alloc ?_ _));exact BK111.out⟩,⟨by (with_reducible repeat (first|refine blk_drewN ?_ _|refine blk_drew ?_|refine blk_alloc ?_ _));exact BK112.out⟩,⟨by repeat (first|(with_reducible first|exact HB.out|apply below_alloc|apply pw_below_drewN|apply below_drew1|refine below_set ?_ GE111.out|refine below_set ?_ GE112.out)|exact HB.out)⟩⟩
           · rw[if_neg c11] at H
             have c11b0:(x7_1==a1)=false:=beq_eq_false_iff_ne.mpr c11
             have c11b1:(x7_1 != a1)=true:=bne_iff_ne.mpr c11
             by_cases c12:0≤a1
             · rw[if_pos c12] at H
               have c12b0:decide (0≤a1)=true:=decide_eq_true c12
               clear c12
               by_cases c13:a1<(a0.size:Int)
               · rw[if_pos c13] at H
                 have c13b0:decide (a1<(a0.size:Int))=true:=decide_eq_true c13
                 clear c13
                 have H':=Aside0.mk H
                 clear H
                 have p8:0≤(x7_1:Int):=of_decide_eq_true (by first|(with_reducible assumption)|assumption)
                 have q8:x7_1<(a0.size:Int):=of_decide_eq_true (by first|(with_reducible assumption)|assumption)
                 have hx8:=bt_at a0 x7_1
                 replace p8:=eq_true p8
                 replace q8:=eq_true q8
                 go_wp2_with (first|(go_at_call 38;(with_reducible refine (vestryref03_Digit.calls (bt a0 x7_1) true _ A9.out).mono ?_);rintro e w' ⟨rfl,⟨nd,rfl⟩⟩;have p14:0≤(a1:Int):=of_decide_eq_true (by first|(with_reducible assumption)|assumption);have q14:a1<(a0.size:Int):=of_decide_eq_true (by first|(with_reducible assumption)|assumption);have hx14:=bt_at a0 a1;replace p14:=eq_true p14;replace q14:=eq_true q14))
                 go_meet
                 case rel=>exact⟨_,(((bt a0 a1) != 48)),(by first|rfl|(simp;done)|(simp[*];done)),H',⟨by have:=HK1.out;first|omega|exact Nat.le_refl _⟩,⟨by (with_reducible repeat (first|refine blk_drewN ?_ _|refine blk_drew ?_|refine blk_alloc ?_ _));exact BK111.out⟩,⟨by (with_reducible repeat (first|refine blk_drewN ?_ _|refine blk_drew ?_|refine blk_alloc ?_ _));exact BK112.out⟩,⟨by repeat (first|(with_reducible first|exact HB.out|apply below_alloc|apply pw_below_drewN|apply below_drew1|refine below_set ?_ GE111.out|refine below_set ?_ GE112.out)|exact HB.out)⟩⟩
               · rw[if_neg c13] at H
                 exact absurd H (by simp)
             · rw[if_neg c12] at H
               exact absurd H (by simp)
         · replace c10:=Bool.eq_false_iff.mpr c10
           subst c10
           have H1:(vestryref08_number.j1 k1 a0 a1 x7_1 x8_1 x9_1 false)=some (r1,r2,r3,r4,r5,r6,r7):=by rw[if_neg (show ¬(false=true) by decide)] at H;exact H
           clear H
           have H:=H1
           clear H1
           have H':=Aside0.mk H
           clear H
           have p8:0≤(x7_1:Int):=of_decide_eq_true (by first|(with_reducible assumption)|assumption)
           have q8:x7_1<(a0.size:Int):=of_decide_eq_true (by first|(with_reducible assumption)|assumption)
           have hx8:=bt_at a0 x7_1
           replace p8:=eq_true p8
           replace q8:=eq_true q8
           go_wp2_with (first|(go_at_call 38;(with_reducible refine (vestryref03_Digit.calls (bt a0 x7_1) false _ A9.out).mono ?_);rintro e w' ⟨rfl,⟨nd,rfl⟩⟩))
           go_meet
           case rel=>exact⟨_,(false),(by first|rfl|(simp;done)|(simp[*];done)),H',⟨by have:=HK1.out;first|omega|exact Nat.le_refl _⟩,⟨by (with_reducible repeat (first|refine blk_drewN ?_ _|refine blk_drew ?_|refine blk_alloc ?_ _));exact BK111.out⟩,⟨by (with_reducible repeat (first|refine blk_drewN ?_ _|refine blk_drew ?_|refine blk_alloc ?_ _));exact BK112.out⟩,⟨by repeat (first|(with_reducible first|exact HB.out|apply below_alloc|apply pw_below_drewN|apply below_drew1|refine below_set ?_ GE111.out|refine below_set ?_ GE112.out)|exact HB.out)⟩⟩
       · rw[if_neg c7] at H
         exact absurd H (by simp)
     · rw[if_neg c6] at H
       have c6b0:decide (x7_1<(a0.size:Int))=false:=decide_eq_false c6
       clear c6
       (first|rw[c6b0]|(simp only[i64_w,i32_w];rw[c6b0])|skip)
       have H':=Aside0.mk H
       clear H
       go_wp2
       go_meet
       case rel=>exact⟨_,(false),(by first|rfl|(simp;done)|(simp[*];done)),H',⟨by have:=HK1.out;first|omega|exact Nat.le_refl _⟩,⟨by (with_reducible repeat (first|refine blk_drewN ?_ _|refine blk_drew ?_|refine blk_alloc ?_ _));exact BK111.out⟩,⟨by (with_reducible repeat (first|refine blk_drewN ?_ _|refine blk_drew ?_|refine blk_alloc ?_ _));exact BK112.out⟩,⟨by repeat (first|(with_reducible first|exact HB.out|apply below_alloc|apply pw_below_drewN|apply below_drew1|refine below_set ?_ GE111.out|refine below_set ?_ GE112.out)|exact HB.out)⟩⟩
    case rest=>
     clear HC5
     try clear c1
     try clear p1
     try clear q1
     try clear hx1
     try clear p2
     try clear c3
     try clear c6
     try clear c6b0
     try clear c7
     try clear c7b0
     try clear p8
     try clear q8
     try clear hx8
     try clear c10
     try clear c11
     try clear c11b0
     try clear c11b1
     try clear c12
     try clear c12b0
     try clear c13
     try clear c13b0
     try clear p14
     try clear q14
     try clear hx14
     try clear p14
     try clear p2
     try clear p8
     try clear q14
     try clear q8
     obtain⟨kq,x32_4,rfl,HA,HJ4,BK111,BK112,HB⟩:=hcut
     cases kq with
     | zero=>exact absurd HA.out (by simp[vestryref08_number.j1])
     | succ kj4=>
       have H:=HA.out
       clear HA
       simp only[vestryref08_number.j1] at H
       by_cases c15:x32_4=true
       · subst c15
         have H1:(if 0≤x7_1 then (if x7_1<(a0.size:Int) then (if x9_1=true then (vestryref08_number.l0 kj4 a0 a1 (wrap64 (x7_1+1)) x8_1 true) else (if (x8_1 > ((9223372036854775807 - (((bt a0 x7_1) - 48) % 256)) / 10)) then (vestryref08_number.l0 kj4 a0 a1 (wrap64 (x7_1+1)) x8_1 (decide (x8_1 > ((9223372036854775807 - (((bt a0 x7_1) - 48) % 256)) / 10)))) else (vestryref08_number.l0 kj4 a0 a1 (wrap64 (x7_1+1)) (wrap64 ((wrap64 (x8_1*10))+(((bt a0 x7_1) - 48) % 256))) (decide (x8_1 > ((9223372036854775807 - (((bt a0 x7_1) - 48) % 256)) / 10)))))) else (none)) else (none))=some (r1,r2,r3,r4,r5,r6,r7):=by rw[if_pos rfl] at H;exact H
         clear H
         have H:=H1
         clear H1
         by_cases c16:0≤x7_1
         · rw[if_pos c16] at H
           have c16b0:decide (0≤x7_1)=true:=decide_eq_true c16
           clear c16
           by_cases c17:x7_1<(a0.size:Int)
           · rw[if_pos c17] at H
             have c17b0:decide (x7_1<(a0.size:Int))=true:=decide_eq_true c17
             clear c17
             by_cases c19:x9_1=true
             · subst c19
               have H1:(vestryref08_number.l0 kj4 a0 a1 (wrap64 (x7_1+1)) x8_1 true)=some (r1,r2,r3,r4,r5,r6,r7):=by rw[if_pos rfl] at H;exact H
               clear H
               have H:=H1
               clear H1
               have H':=Aside0.mk H
               clear H
               have p18:0≤(x7_1:Int):=of_decide_eq_true (by first|(with_reducible assumption)|assumption)
               have q18:x7_1<(a0.size:Int):=of_decide_eq_true (by first|(with_reducible assumption)|assumption)
               have hx18:=bt_at a0 x7_1
               replace p18:=eq_true p18
               replace q18:=eq_true q18
               go_wp2
               go_roundg kj4
               case measure=>have:=HK1.out;have:=HJ4.out;omega
               case rel=>exact⟨(wrap64 (x7_1+1)),(x8_1),(true),(by first|rfl|(simp;done)|(simp[*];done)),(by first|rfl|(simp;done)|(simp[*];done)),(by first|rfl|(simp;done)|(simp[*];done)),H',⟨by have:=HK1.out;have:=HJ4.out;omega⟩,⟨by (with_reducible repeat (first|refine blk_drewN ?_ _|refine blk_drew ?_|refine blk_alloc ?_ _));exact BK111.out⟩,⟨by (with_reducible repeat (first|refine blk_drewN ?_ _|refine blk_drew ?_|refine blk_alloc ?_ _));exact BK112.out⟩,⟨by repeat (first|(with_reducible first|exact HB.out|apply below_alloc|apply pw_below_drewN|apply below_drew1|refine below_set ?_ GE111.out|refine below_set ?_ GE112.out)|exact HB.out)⟩⟩
             · replace c19:=Bool.eq_false_iff.mpr c19
               subst c19
               have H1:(if (x8_1 > ((9223372036854775807 - (((bt a0 x7_1) - 48) % 256)) / 10)) then (vestryref08_number.l0 kj4 a0 a1 (wrap64 (x7_1+1)) x8_1 (decide (x8_1 > ((9223372036854775807 - (((bt a0 x7_1) - 48) % 256)) / 10)))) else (vestryref08_number.l0 kj4 a0 a1 (wrap64 (x7_1+1)) (wrap64 ((wrap64 (x8_1*10))+(((bt a0 x7_1) - 48) % 256))) (decide (x8_1 > ((9223372036854775807 - (((bt a0 x7_1) - 48) % 256)) / 10)))))=some (r1,r2,r3,r4,r5,r6,r7):=by rw[if_neg (show ¬(false=true) by decide)] at H;exact H
               clear H
               have H:=H1
               clear H1
               by_cases c20:(x8_1 > ((9223372036854775807 - (((bt a0 x7_1) - 48) % 256)) / 10))
               · rw[if_pos c20] at H
                 have c20b0:decide (((9223372036854775807 - (((bt a0 x7_1) - 48) % 256)) / 10)<x8_1)=true:=decide_eq_true c20
                 clear c20
                 have H':=Aside0.mk H
                 clear H
                 have p18:0≤(x7_1:Int):=of_decide_eq_true (by first|(with_reducible assumption)|assumption)
                 have q18:x7_1<(a0.size:Int):=of_decide_eq_true (by first|(with_reducible assumption)|assumption)
                 have hx18:=bt_at a0 x7_1
                 replace p18:=eq_true p18
                 replace q18:=eq_true q18
                 go_wp2
                 go_roundg kj4
                 case measure=>have:=HK1.out;have:=HJ4.out;omega
                 case rel=>exact⟨(wrap64 (x7_1+1)),(x8_1),(decide (x8_1 > ((9223372036854775807 - (((bt a0 x7_1) - 48) % 256)) / 10))),(by first|rfl|(simp;done)|(simp[*];done)),(by first|rfl|(simp;done)|(simp[*];done)),(by first|rfl|(simp;done)|(simp[*];done)),H',⟨by have:=HK1.out;have:=HJ4.out;omega⟩,⟨by (with_reducible repeat (first|refine blk_drewN ?_ _|refine blk_drew ?_|refine blk_alloc ?_ _));exact BK111.out⟩,⟨by (with_reducible repeat (first|refine blk_drewN ?_ _|refine blk_drew ?_|refine blk_alloc ?_ _));exact BK112.out⟩,⟨by repeat (first|(with_reducible first|exact HB.out|apply below_alloc|apply pw_below_drewN|apply below_drew1|refine below_set ?_ GE111.out|refine below_set ?_ GE112.out)|exact HB.out)⟩⟩
               · rw[if_neg c20] at H
                 have c20b0:decide (((9223372036854775807 - (((bt a0 x7_1) - 48) % 256)) / 10)<x8_1)=false:=decide_eq_false c20
                 clear c20
                 have H':=Aside0.mk H
                 clear H
                 have p18:0≤(x7_1:Int):=of_decide_eq_true (by first|(with_reducible assumption)|assumption)
                 have q18:x7_1<(a0.size:Int):=of_decide_eq_true (by first|(with_reducible assumption)|assumption)
                 have hx18:=bt_at a0 x7_1
                 replace p18:=eq_true p18
                 replace q18:=eq_true q18
                 go_wp2
                 go_roundg kj4
                 case measure=>have:=HK1.out;have:=HJ4.out;omega
                 case rel=>exact⟨(wrap64 (x7_1+1)),(wrap64 ((wrap64 (x8_1*10))+(((bt a0 x7_1) - 48) % 256))),(decide (x8_1 > ((9223372036854775807 - (((bt a0 x7_1) - 48) % 256)) / 10))),(by first|rfl|(simp;done)|(simp[*];done)),(by first|rfl|(simp;done)|(simp[*];done)),(by first|rfl|(simp;done)|(simp[*];done)),H',⟨by have:=HK1.out;have:=HJ4.out;omega⟩,⟨by (with_reducible repeat (first|refine blk_drewN ?_ _|refine blk_drew ?_|refine blk_alloc ?_ _));exact BK111.out⟩,⟨by (with_reducible repeat (first|refine blk_drewN ?_ _|refine blk_drew ?_|refine blk_alloc ?_ _));exact BK112.out⟩,⟨by repeat (first|(with_reducible first|exact HB.out|apply below_alloc|apply pw_below_drewN|apply below_drew1|refine below_set ?_ GE111.out|refine below_set ?_ GE112.out)|exact HB.out)⟩⟩
           · rw[if_neg c17] at H
             exact absurd H (by simp)
         · rw[if_neg c16] at H
           exact absurd H (by simp)
       · replace c15:=Bool.eq_false_iff.mpr c15
         subst c15
         have H1:(if x7_1<(a0.size:Int) then (if 0≤x7_1 then ((vestryref03_Digit.f (bt a0 x7_1)).bind fun t114=>(if t114=true then (vestryref08_number.j2 kj4 a1 x7_1 x8_1 x9_1 true) else ((vestryref03_Letter.f (bt a0 x7_1)).bind fun t115=>(vestryref08_number.j2 kj4 a1 x7_1 x8_1 x9_1 t115)))) else (none)) else (vestryref08_number.j2 kj4 a1 x7_1 x8_1 x9_1 false))=some (r1,r2,r3,r4,r5,r6,r7):=by rw[if_neg (show ¬(false=true) by decide)] at H;exact H
         clear H
         have H:=H1
         clear H1
         have HC21:=Aside0.mk H
         clear H
         go_upto_region 9 with (fail)
         go_cut [69] (fun v69 wc=>∃ (kq:Nat) (x69_20:Bool),v69=.bool x69_20∧Aside0 (vestryref08_number.j2 kq a1 x7_1 x8_1 x9_1 x69_20=some (r1,r2,r3,r4,r5,r6,r7))∧Aside0 (kq≤kj4)∧Aside0 (wc.heap[gb111]?=some (.cells #[.int .i64 0,.string (⟨#[]⟩:ByteArray),.int .i64 0,.int .i64 0] 63 (0,0)))∧Aside0 (wc.heap[gb112]?=some (.cells #[.int .i64 0,.int .i64 0] 31 (0,0)))∧Aside0 (Below w.heap.size w wc))
         case first=>
          have H:=HC21.out
          clear HC21
          by_cases c22:x7_1<(a0.size:Int)
          · rw[if_pos c22] at H
            have c22b0:decide (x7_1<(a0.size:Int))=true:=decide_eq_true c22
            clear c22
            (first|rw[c22b0]|(simp only[i64_w,i32_w];rw[c22b0])|skip)
            by_cases c23:0≤x7_1
            · rw[if_pos c23] at H
              have c23b0:decide (0≤x7_1)=true:=decide_eq_true c23
              clear c23
              replace H:=Option.bind_eq_some_iff.mp H
              obtain⟨t114,A250,H⟩:=H
              replace H:(if t114=true then (vestryref08_number.j2 kj4 a1 x7_1 x8_1 x9_1 true) else ((vestryref03_Letter.f (bt a0 x7_1)).bind fun t115=>(vestryref08_number.j2 kj4 a1 x7_1 x8_1 x9_1 t115)))=some (r1,r2,r3,r4,r5,r6,r7):=H
              have A25:=Aside0.mk A250
              clear A250
              by_cases c26:t114=true
              · subst c26
                have H1:(vestryref08_number.j2 kj4 a1 x7_1 x8_1 x9_1 true)=some (r1,r2,r3,r4,r5,r6,r7):=by rw[if_pos rfl] at H;exact H
                clear H
                have H:=H1
                clear H1
                have H':=Aside0.mk H
                clear H
                have p24:0≤(x7_1:Int):=of_decide_eq_true (by first|(with_reducible assumption)|assumption)
                have q24:x7_1<(a0.size:Int):=of_decide_eq_true (by first|(with_reducible assumption)|assumption)
                have hx24:=bt_at a0 x7_1
                replace p24:=eq_true p24
                replace q24:=eq_true q24
                go_wp2_with (first|(go_at_call 38;(with_reducible refine (vestryref03_Digit.calls (bt a0 x7_1) true _ A25.out).mono ?_);rintro e w' ⟨rfl,⟨nd,rfl⟩⟩))
                go_meet
                case rel=>exact⟨_,(true),(by first|rfl|(simp;done)|(simp[*];done)),H',⟨by have:=HK1.out;have:=HJ4.out;first|omega|exact Nat.le_refl _⟩,⟨by (with_reducible repeat (first|refine blk_drewN ?_ _|refine blk_drew ?_|refine blk_alloc ?_ _));exact BK111.out⟩,⟨by (with_reducible repeat (first|refine blk_drewN ?_ _|refine blk_drew ?_|refine blk_alloc ?_ _));exact BK112.out⟩,⟨by repeat (first|(with_reducible first|exact HB.out|apply below_alloc|apply pw_below_drewN|apply below_drew1|refine below_set ?_ GE111.out|refine below_set ?_ GE112.out)|exact HB.out)⟩⟩
              · replace c26:=Bool.eq_false_iff.mpr c26
                subst c26
                have H1:((vestryref03_Letter.f (bt a0 x7_1)).bind fun t115=>(vestryref08_number.j2 kj4 a1 x7_1 x8_1 x9_1 t115))=some (r1,r2,r3,r4,r5,r6,r7):=by rw[if_neg (show ¬(false=true) by decide)] at H;exact H
                clear H
                have H:=H1
                clear H1
                replace H:=Option.bind_eq_some_iff.mp H
                obtain⟨t115,A280,H⟩:=H
                replace H:(vestryref08_number.j2 kj4 a1 x7_1 x8_1 x9_1 t115)=some (r1,r2,r3,r4,r5,r6,r7):=H
                have A28:=Aside0.mk A280
                clear A280
                have H':=Aside0.mk H
                clear H
                have p24:0≤(x7_1:Int):=of_decide_eq_true (by first|(with_reducible assumption)|assumption)
                have q24:x7_1<(a0.size:Int):=of_decide_eq_true (by first|(with_reducible assumption)|assumption)
                have hx24:=bt_at a0 x7_1
                replace p24:=eq_true p24
                replace q24:=eq_true q24
                go_wp2_with (first|(go_at_call 38;(with_reducible refine (vestryref03_Digit.calls (bt a0 x7_1) false _ A25.out).mono ?_);rintro e w' ⟨rfl,⟨nd,rfl⟩⟩;have p27:0≤(x7_1:Int):=of_decide_eq_true (by first|(with_reducible assumption)|assumption);have q27:x7_1<(a0.size:Int):=of_decide_eq_true (by first|(with_reducible assumption)|assumption);have hx27:=bt_at a0 x7_1;replace p27:=eq_true p27;replace q27:=eq_true q27)|(go_at_call 70;(with_reducible refine (vestryref03_Letter.calls (bt a0 x7_1) t115 _ A28.out).mono ?_);rintro e w' ⟨rfl,⟨nd,rfl⟩⟩))
                go_meet
                case rel=>exact⟨_,(t115),(by first|rfl|(simp;done)|(simp[*];done)),H',⟨by have:=HK1.out;have:=HJ4.out;first|omega|exact Nat.le_refl _⟩,⟨by (with_reducible repeat (first|refine blk_drewN ?_ _|refine blk_drew ?_|refine blk_alloc ?_ _));exact BK111.out⟩,⟨by (with_reducible repeat (first|refine blk_drewN ?_ _|refine blk_drew ?_|refine blk_alloc ?_ _));exact BK112.out⟩,⟨by repeat (first|(with_reducible first|exact HB.out|apply below_alloc|apply pw_below_drewN|apply below_drew1|refine below_set ?_ GE111.out|refine below_set ?_ GE112.out)|exact HB.out)⟩⟩
            · rw[if_neg c23] at H
              exact absurd H (by simp)
          · rw[if_neg c22] at H
            have c22b0:decide (x7_1<(a0.size:Int))=false:=decide_eq_false c22
            clear c22
            (first|rw[c22b0]|(simp only[i64_w,i32_w];rw[c22b0])|skip)
            have H':=Aside0.mk H
            clear H
            go_wp2
            go_meet
            case rel=>exact⟨_,(false),(by first|rfl|(simp;done)|(simp[*];done)),H',⟨by have:=HK1.out;have:=HJ4.out;first|omega|exact Nat.le_refl _⟩,⟨by (with_reducible repeat (first|refine blk_drewN ?_ _|refine blk_drew ?_|refine blk_alloc ?_ _));exact BK111.out⟩,⟨by (with_reducible repeat (first|refine blk_drewN ?_ _|refine blk_drew ?_|refine blk_alloc ?_ _));exact BK112.out⟩,⟨by repeat (first|(with_reducible first|exact HB.out|apply below_alloc|apply pw_below_drewN|apply below_drew1|refine below_set ?_ GE111.out|refine below_set ?_ GE112.out)|exact HB.out)⟩⟩
         case rest=>
          clear HC21
          try clear c1
          try clear p1
          try clear q1
          try clear hx1
          try clear c2
          try clear p2
          try clear q2
          try clear hx2
          try clear c3
          try clear c6
          try clear c6b0
          try clear p6
          try clear c7
          try clear c7b0
          try clear p8
          try clear q8
          try clear hx8
          try clear c10
          try clear c11
          try clear c11b0
          try clear c11b1
          try clear c12
          try clear c12b0
          try clear c13
          try clear c13b0
          try clear p14
          try clear q14
          try clear hx14
          try clear c15
          try clear c16
          try clear c16b0
          try clear c17
          try clear c17b0
          try clear p18
          try clear q18
          try clear hx18
          try clear c19
          try clear c20
          try clear c20b0
          try clear c22
          try clear c22b0
          try clear c23
          try clear c23b0
          try clear p24
          try clear q24
          try clear hx24
          try clear c26
          try clear p27
          try clear q27
          try clear hx27
          try clear p1
          try clear p14
          try clear p18
          try clear p2
          try clear p24
          try clear p27
          try clear p8
          try clear q1
          try clear q14
          try clear q18
          try clear q24
          try clear q27
          try clear q8
          obtain⟨kq,x69_20,rfl,HA,HJ20,BK111,BK112,HB⟩:=hcut
          cases kq with
          | zero=>exact absurd HA.out (by simp[vestryref08_number.j2])
          | succ kj20=>
            have H:=HA.out
            clear HA
            simp only[vestryref08_number.j2] at H
            by_cases c29:x69_20=true
            · subst c29
              have H1:((vestryref08_fault.f 7 x7_1).bind fun bt116=>(some (0,(⟨#[]⟩:ByteArray),0,0,0,bt116.1,bt116.2)))=some (r1,r2,r3,r4,r5,r6,r7):=by rw[if_pos rfl] at H;exact H
              clear H
              have H:=H1
              clear H1
              replace H:=Option.bind_eq_some_iff.mp H
              obtain⟨⟨t116,t117⟩,A300,H⟩:=H
              replace H:(some (0,(⟨#[]⟩:ByteArray),0,0,0,t116,t117))=some (r1,r2,r3,r4,r5,r6,r7):=H
              have A30:=Aside0.mk A300
              clear A300
              simp only[Option.some.injEq,Prod.mk.injEq] at H
              obtain⟨rfl,rfl,rfl,rfl,rfl,rfl,rfl⟩:=H
              go_wp2_with (first|((with_reducible refine gate_callee (f:=35) rfl ?_);refine goesL_ (some 72) rfl rfl Try.func35 (by kernel_rfl) rfl #[.int .i64 7,.int .i64 x7_1] rfl (by (try simp only[List.map_toArray,List.map_cons,List.map_nil]);first|done|rfl|(simp only[List.length_drop,List.length_take];rfl)) ?_;(with_reducible refine (vestryref08_fault.calls 7 x7_1 t116 t117 _ A30.out).mono ?_);rintro e w31 ⟨rfl,hb⟩;refine⟨_,rfl,?_⟩;have n0_:=Aside0.mk (blk_below (g:=gb111) (o:=.cells #[.int .i64 0,.string (⟨#[]⟩:ByteArray),.int .i64 0,.int .i64 0] 63 (0,0)) (by (with_reducible repeat (first|refine blk_drewN ?_ _|refine blk_drew ?_|refine blk_alloc ?_ _));exact BK111.out) hb);have n1_:=Aside0.mk (blk_below (g:=gb112) (o:=.cells #[.int .i64 0,.int .i64 0] 31 (0,0)) (by (with_reducible repeat (first|refine blk_drewN ?_ _|refine blk_drew ?_|refine blk_alloc ?_ _));exact BK112.out) hb);have n2_:=Aside0.mk (below_step (by repeat (first|(with_reducible first|exact HB.out|apply below_alloc|apply pw_below_drewN|apply below_drew1|refine below_set ?_ GE111.out|refine below_set ?_ GE112.out)|exact HB.out)) hb);clear BK111;clear BK112;clear HB;have BK111:=n0_;have BK112:=n1_;have HB:=n2_;clear n0_ n1_ n2_;(try clear hb);(try clear hb2);(try clear hk);(try clear hi);have hnb32:=NB111_112.out;have hnc32:=NB112_111.out;have hcz33_0:w31.cell? ⟨gb111,0,none⟩=some (.int .i64 0):=(blk_cell BK111.out 0).trans rfl;have hcz33_1:w31.cell? ⟨gb111,1,none⟩=some (.string (⟨#[]⟩:ByteArray)):=(blk_cell BK111.out 1).trans rfl;have hcz33_2:w31.cell? ⟨gb111,2,none⟩=some (.int .i64 0):=(blk_cell BK111.out 2).trans rfl;have hcz33_3:w31.cell? ⟨gb111,3,none⟩=some (.int .i64 0):=(blk_cell BK111.out 3).trans rfl;have hfz33_0:=blk_frozen BK111.out 0;have hfz33_1:=blk_frozen BK111.out 1;have hfz33_2:=blk_frozen BK111.out 2;have hfz33_3:=blk_frozen BK111.out 3;have hcz34_0:w31.cell? ⟨gb112,0,none⟩=some (.int .i64 0):=(blk_cell BK112.out 0).trans rfl;have hcz34_1:w31.cell? ⟨gb112,1,none⟩=some (.int .i64 0):=(blk_cell BK112.out 1).trans rfl;have hfz34_0:=blk_frozen BK112.out 0;have hfz34_1:=blk_frozen BK112.out 1))
              refine bodyPost_ret (results_list (rs:=[.cell 4 63,.tmp 5,.cell 6 31]) rfl (by simp) (.cell gb111 63 #[.int .i64 0,.string (⟨#[]⟩:ByteArray),.int .i64 0,.int .i64 0] (0,0) _ rfl (by (with_reducible repeat (first|refine blk_drewN ?_ _|refine blk_drew ?_|refine blk_alloc ?_ _));refine blk_far ?_ NB111_112.out _;(with_reducible repeat (first|refine blk_drewN ?_ _|refine blk_drew ?_|refine blk_alloc ?_ _));refine blk_far ?_ NB111_112.out _;(with_reducible repeat (first|refine blk_drewN ?_ _|refine blk_drew ?_|refine blk_alloc ?_ _));refine blk_put (cs:=#[.int .i64 0,.string (⟨#[]⟩:ByteArray),.int .i64 0,.int .i64 0]) ?_ 3 _ rfl;(with_reducible repeat (first|refine blk_drewN ?_ _|refine blk_drew ?_|refine blk_alloc ?_ _));refine blk_put (cs:=#[.int .i64 0,.string (⟨#[]⟩:ByteArray),.int .i64 0,.int .i64 0]) ?_ 2 _ rfl;(with_reducible repeat (first|refine blk_drewN ?_ _|refine blk_drew ?_|refine blk_alloc ?_ _));refine blk_put (cs:=#[.int .i64 0,.string (⟨#[]⟩:ByteArray),.int .i64 0,.int .i64 0]) ?_ 1 _ rfl;(with_reducible repeat (first|refine blk_drewN ?_ _|refine blk_drew ?_|refine blk_alloc ?_ _));refine blk_put (cs:=#[.int .i64 0,.string (⟨#[]⟩:ByteArray),.int .i64 0,.int .i64 0]) ?_ 0 _ rfl;(with_reducible repeat (first|refine blk_drewN ?_ _|refine blk_drew ?_|refine blk_alloc ?_ _));exact BK111.out) Try.underlying63 rfl (by kernel_rfl) (.tmp (.cell gb112 31 #[.int .i64 t116,.int .i64 t117] (0,0) _ rfl (by (with_reducible repeat (first|refine blk_drewN ?_ _|refine blk_drew ?_|refine blk_alloc ?_ _));refine blk_put (cs:=#[.int .i64 t116,.int .i64 0]) ?_ 1 _ rfl;(with_reducible repeat (first|refine blk_drewN ?_ _|refine blk_drew ?_|refine blk_alloc ?_ _));refine blk_put (cs:=#[.int .i64 0,.int .i64 0]) ?_ 0 _ rfl;(with_reducible repeat (first|refine blk_drewN ?_ _|refine blk_drew ?_|refine blk_alloc ?_ _));refine blk_far ?_ NB112_111.out _;(with_reducible repeat (first|refine blk_drewN ?_ _|refine blk_drew ?_|refine blk_alloc ?_ _));refine blk_far ?_ NB112_111.out _;(with_reducible repeat (first|refine blk_drewN ?_ _|refine blk_drew ?_|refine blk_alloc ?_ _));refine blk_far ?_ NB112_111.out _;(with_reducible repeat (first|refine blk_drewN ?_ _|refine blk_drew ?_|refine blk_alloc ?_ _));refine blk_far ?_ NB112_111.out _;(with_reducible repeat (first|refine blk_drewN ?_ _|refine blk_drew ?_|refine blk_alloc ?_ _));exact BK112.out) Try.underlying31 rfl (by kernel_rfl) .nil)))) rfl ?_
              exact⟨by first|rfl|(simp[errW_none,errW_some] <;> rfl)|(simp[*,errW_none,errW_some] <;> rfl),by repeat (first|(with_reducible first|exact HB.out|apply below_alloc|apply pw_below_drewN|apply below_drew1|refine below_set ?_ GE111.out|refine below_set ?_ GE112.out)|exact HB.out)⟩
            · replace c29:=Bool.eq_false_iff.mpr c29
              subst c29
              have H1:(if x9_1=true then ((vestryref08_fault.f 8 a1).bind fun bt118=>(some (0,(⟨#[]⟩:ByteArray),0,0,0,bt118.1,bt118.2))) else (some (2,(⟨#[]⟩:ByteArray),x8_1,a1,x7_1,0,0)))=some (r1,r2,r3,r4,r5,r6,r7):=by rw[if_neg (show ¬(false=true) by decide)] at H;exact H
              clear H
              have H:=H1
              clear H1
              by_cases c35:x9_1=true
              · subst c35
                have H1:((vestryref08_fault.f 8 a1).bind fun bt118=>(some (0,(⟨#[]⟩:ByteArray),0,0,0,bt118.1,bt118.2)))=some (r1,r2,r3,r4,r5,r6,r7):=by rw[if_pos rfl] at H;exact H
                clear H
                have H:=H1
                clear H1
                replace H:=Option.bind_eq_some_iff.mp H
                obtain⟨⟨t118,t119⟩,A360,H⟩:=H
                replace H:(some (0,(⟨#[]⟩:ByteArray),0,0,0,t118,t119))=some (r1,r2,r3,r4,r5,r6,r7):=H
                have A36:=Aside0.mk A360
                clear A360
                simp only[Option.some.injEq,Prod.mk.injEq] at H
                obtain⟨rfl,rfl,rfl,rfl,rfl,rfl,rfl⟩:=H
                go_wp2_with (first|((with_reducible refine gate_callee (f:=35) rfl ?_);refine goesL_ (some 76) rfl rfl Try.func35 (by kernel_rfl) rfl #[.int .i64 8,.int .i64 a1] rfl (by (try simp only[List.map_toArray,List.map_cons,List.map_nil]);first|done|rfl|(simp only[List.length_drop,List.length_take];rfl)) ?_;(with_reducible refine (vestryref08_fault.calls 8 a1 t118 t119 _ A36.out).mono ?_);rintro e w37 ⟨rfl,hb⟩;refine⟨_,rfl,?_⟩;have n0_:=Aside0.mk (blk_below (g:=gb111) (o:=.cells #[.int .i64 0,.string (⟨#[]⟩:ByteArray),.int .i64 0,.int .i64 0] 63 (0,0)) (by (with_reducible repeat (first|refine blk_drewN ?_ _|refine blk_drew ?_|refine blk_alloc ?_ _));exact BK111.out) hb);have n1_:=Aside0.mk (blk_below (g:=gb112) (o:=.cells #[.int .i64 0,.int .i64 0] 31 (0,0)) (by (with_reducible repeat (first|refine blk_drewN ?_ _|refine blk_drew ?_|refine blk_alloc ?_ _));exact BK112.out) hb);have n2_:=Aside0.mk (below_step (by repeat (first|(with_reducible first|exact HB.out|apply below_alloc|apply pw_below_drewN|apply below_drew1|refine below_set ?_ GE111.out|refine below_set ?_ GE112.out)|exact HB.out)) hb);clear BK111;clear BK112;clear HB;have BK111:=n0_;have BK112:=n1_;have HB:=n2_;clear n0_ n1_ n2_;(try clear hb);(try clear hb2);(try clear hk);(try clear hi);have hnb38:=NB111_112.out;have hnc38:=NB112_111.out;have hcz39_0:w37.cell? ⟨gb111,0,none⟩=some (.int .i64 0):=(blk_cell BK111.out 0).trans rfl;have hcz39_1:w37.cell? ⟨gb111,1,none⟩=some (.string (⟨#[]⟩:ByteArray)):=(blk_cell BK111.out 1).trans rfl;have hcz39_2:w37.cell? ⟨gb111,2,none⟩=some (.int .i64 0):=(blk_cell BK111.out 2).trans rfl;have hcz39_3:w37.cell? ⟨gb111,3,none⟩=some (.int .i64 0):=(blk_cell BK111.out 3).trans rfl;have hfz39_0:=blk_frozen BK111.out 0;have hfz39_1:=blk_frozen BK111.out 1;have hfz39_2:=blk_frozen BK111.out 2;have hfz39_3:=blk_frozen BK111.out 3;have hcz40_0:w37.cell? ⟨gb112,0,none⟩=some (.int .i64 0):=(blk_cell BK112.out 0).trans rfl;have hcz40_1:w37.cell? ⟨gb112,1,none⟩=some (.int .i64 0):=(blk_cell BK112.out 1).trans rfl;have hfz40_0:=blk_frozen BK112.out 0;have hfz40_1:=blk_frozen BK112.out 1))
                refine bodyPost_ret (results_list (rs:=[.cell 4 63,.tmp 5,.cell 6 31]) rfl (by simp) (.cell gb111 63 #[.int .i64 0,.string (⟨#[]⟩:ByteArray),.int .i64 0,.int .i64 0] (0,0) _ rfl (by (with_reducible repeat (first|refine blk_drewN ?_ _|refine blk_drew ?_|refine blk_alloc ?_ _));refine blk_far ?_ NB111_112.out _;(with_reducible repeat (first|refine blk_drewN ?_ _|refine blk_drew ?_|refine blk_alloc ?_ _));refine blk_far ?_ NB111_112.out _;(with_reducible repeat (first|refine blk_drewN ?_ _|refine blk_drew ?_|refine blk_alloc ?_ _));refine blk_put (cs:=#[.int .i64 0,.string (⟨#[]⟩:ByteArray),.int .i64 0,.int .i64 0]) ?_ 3 _ rfl;(with_reducible repeat (first|refine blk_drewN ?_ _|refine blk_drew ?_|refine blk_alloc ?_ _));refine blk_put (cs:=#[.int .i64 0,.string (⟨#[]⟩:ByteArray),.int .i64 0,.int .i64 0]) ?_ 2 _ rfl;(with_reducible repeat (first|refine blk_drewN ?_ _|refine blk_drew ?_|refine blk_alloc ?_ _));refine blk_put (cs:=#[.int .i64 0,.string (⟨#[]⟩:ByteArray),.int .i64 0,.int .i64 0]) ?_ 1 _ rfl;(with_reducible repeat (first|refine blk_drewN ?_ _|refine blk_drew ?_|refine blk_alloc ?_ _));refine blk_put (cs:=#[.int .i64 0,.string (⟨#[]⟩:ByteArray),.int .i64 0,.int .i64 0]) ?_ 0 _ rfl;(with_reducible repeat (first|refine blk_drewN ?_ _|refine blk_drew ?_|refine blk_alloc ?_ _));exact BK111.out) Try.underlying63 rfl (by kernel_rfl) (.tmp (.cell gb112 31 #[.int .i64 t118,.int .i64 t119] (0,0) _ rfl (by (with_reducible repeat (first|refine blk_drewN ?_ _|refine blk_drew ?_|refine blk_alloc ?_ _));refine blk_put (cs:=#[.int .i64 t118,.int .i64 0]) ?_ 1 _ rfl;(with_reducible repeat (first|refine blk_drewN ?_ _|refine blk_drew ?_|refine blk_alloc ?_ _));refine blk_put (cs:=#[.int .i64 0,.int .i64 0]) ?_ 0 _ rfl;(with_reducible repeat (first|refine blk_drewN ?_ _|refine blk_drew ?_|refine blk_alloc ?_ _));refine blk_far ?_ NB112_111.out _;(with_reducible repeat (first|refine blk_drewN ?_ _|refine blk_drew ?_|refine blk_alloc ?_ _));refine blk_far ?_ NB112_111.out _;(with_reducible repeat (first|refine blk_drewN ?_ _|refine blk_drew ?_|refine blk_alloc ?_ _));refine blk_far ?_ NB112_111.out _;(with_reducible repeat (first|refine blk_drewN ?_ _|refine blk_drew ?_|refine blk_alloc ?_ _));refine blk_far ?_ NB112_111.out _;(with_reducible repeat (first|refine blk_drewN ?_ _|refine blk_drew ?_|refine blk_alloc ?_ _));exact BK112.out) Try.underlying31 rfl (by kernel_rfl) .nil)))) rfl ?_
                exact⟨by first|rfl|(simp[errW_none,errW_some] <;> rfl)|(simp[*,errW_none,errW_some] <;> rfl),by repeat (first|(with_reducible first|exact HB.out|apply below_alloc|apply pw_below_drewN|apply below_drew1|refine below_set ?_ GE111.out|refine below_set ?_ GE112.out)|exact HB.out)⟩
              · replace c35:=Bool.eq_false_iff.mpr c35
                subst c35
                have H1:(some (2,(⟨#[]⟩:ByteArray),x8_1,a1,x7_1,0,0))=some (r1,r2,r3,r4,r5,r6,r7):=by rw[if_neg (show ¬(false=true) by decide)] at H;exact H
                clear H
                have H:=H1
                clear H1
                simp only[Option.some.injEq,Prod.mk.injEq] at H
                obtain⟨rfl,rfl,rfl,rfl,rfl,rfl,rfl⟩:=H
                have hnb41:=NB111_112.out
                have hnc41:=NB112_111.out
                have hcz42_0:wc.cell? ⟨gb111,0,none⟩=some (.int .i64 0):=(blk_cell BK111.out 0).trans rfl
                have hcz42_1:wc.cell? ⟨gb111,1,none⟩=some (.string (⟨#[]⟩:ByteArray)):=(blk_cell BK111.out 1).trans rfl
                have hcz42_2:wc.cell? ⟨gb111,2,none⟩=some (.int .i64 0):=(blk_cell BK111.out 2).trans rfl
                have hcz42_3:wc.cell? ⟨gb111,3,none⟩=some (.int .i64 0):=(blk_cell BK111.out 3).trans rfl
                have hfz42_0:=blk_frozen BK111.out 0
                have hfz42_1:=blk_frozen BK111.out 1
                have hfz42_2:=blk_frozen BK111.out 2
                have hfz42_3:=blk_frozen BK111.out 3
                have hcz43_0:wc.cell? ⟨gb112,0,none⟩=some (.int .i64 0):=(blk_cell BK112.out 0).trans rfl
                have hcz43_1:wc.cell? ⟨gb112,1,none⟩=some (.int .i64 0):=(blk_cell BK112.out 1).trans rfl
                have hfz43_0:=blk_frozen BK112.out 0
                have hfz43_1:=blk_frozen BK112.out 1
                go_wp2
                refine bodyPost_ret (results_list (rs:=[.cell 4 63,.tmp 5,.cell 6 31]) rfl (by simp) (.cell gb111 63 #[.int .i64 2,.string (⟨#[]⟩:ByteArray),.int .i64 x8_1,.int .i64 a1] (0,0) _ rfl (by (with_reducible repeat (first|refine blk_drewN ?_ _|refine blk_drew ?_|refine blk_alloc ?_ _));refine blk_far ?_ NB111_112.out _;(with_reducible repeat (first|refine blk_drewN ?_ _|refine blk_drew ?_|refine blk_alloc ?_ _));refine blk_far ?_ NB111_112.out _;(with_reducible repeat (first|refine blk_drewN ?_ _|refine blk_drew ?_|refine blk_alloc ?_ _));refine blk_put (cs:=#[.int .i64 2,.string (⟨#[]⟩:ByteArray),.int .i64 x8_1,.int .i64 0]) ?_ 3 _ rfl;(with_reducible repeat (first|refine blk_drewN ?_ _|refine blk_drew ?_|refine blk_alloc ?_ _));refine blk_put (cs:=#[.int .i64 2,.string (⟨#[]⟩:ByteArray),.int .i64 0,.int .i64 0]) ?_ 2 _ rfl;(with_reducible repeat (first|refine blk_drewN ?_ _|refine blk_drew ?_|refine blk_alloc ?_ _));refine blk_put (cs:=#[.int .i64 2,.string (⟨#[]⟩:ByteArray),.int .i64 0,.int .i64 0]) ?_ 1 _ rfl;(with_reducible repeat (first|refine blk_drewN ?_ _|refine blk_drew ?_|refine blk_alloc ?_ _));refine blk_put (cs:=#[.int .i64 0,.string (⟨#[]⟩:ByteArray),.int .i64 0,.int .i64 0]) ?_ 0 _ rfl;(with_reducible repeat (first|refine blk_drewN ?_ _|refine blk_drew ?_|refine blk_alloc ?_ _));exact BK111.out) Try.underlying63 rfl (by kernel_rfl) (.tmp (.cell gb112 31 #[.int .i64 0,.int .i64 0] (0,0) _ rfl (by (with_reducible repeat (first|refine blk_drewN ?_ _|refine blk_drew ?_|refine blk_alloc ?_ _));refine blk_put (cs:=#[.int .i64 0,.int .i64 0]) ?_ 1 _ rfl;(with_reducible repeat (first|refine blk_drewN ?_ _|refine blk_drew ?_|refine blk_alloc ?_ _));refine blk_put (cs:=#[.int .i64 0,.int .i64 0]) ?_ 0 _ rfl;(with_reducible repeat (first|refine blk_drewN ?_ _|refine blk_drew ?_|refine blk_alloc ?_ _));refine blk_far ?_ NB112_111.out _;(with_reducible repeat (first|refine blk_drewN ?_ _|refine blk_drew ?_|refine blk_alloc ?_ _));refine blk_far ?_ NB112_111.out _;(with_reducible repeat (first|refine blk_drewN ?_ _|refine blk_drew ?_|refine blk_alloc ?_ _));refine blk_far ?_ NB112_111.out _;(with_reducible repeat (first|refine blk_drewN ?_ _|refine blk_drew ?_|refine blk_alloc ?_ _));refine blk_far ?_ NB112_111.out _;(with_reducible repeat (first|refine blk_drewN ?_ _|refine blk_drew ?_|refine blk_alloc ?_ _));exact BK112.out) Try.underlying31 rfl (by kernel_rfl) .nil)))) rfl ?_
                exact⟨by first|rfl|(simp[errW_none,errW_some] <;> rfl)|(simp[*,errW_none,errW_some] <;> rfl),by repeat (first|(with_reducible first|exact HB.out|apply below_alloc|apply pw_below_drewN|apply below_drew1|refine below_set ?_ GE111.out|refine below_set ?_ GE112.out)|exact HB.out)⟩
end Go.Proofs.Ytddmceldglelkaa.PTokens
