/- A claim's texts, in the order of what they need: PTokensx2. -/
import Derived.Test.YtddmceldglelkaaBCompApart3
set_option maxRecDepth 100000
set_option maxHeartbeats 8000000
set_option linter.unusedVariables false
set_option linter.unusedSimpArgs false
set_option linter.unusedSectionVars false
namespace Go.Proofs.Ytddmceldglelkaa.PTokens
open Go.RowKit YtddmceldglelkaaW.PrintWords YtddmceldglelkaaW.PrintLast YtddmceldglelkaaW.PrintMore
attribute [local go_sem] max2_int min2_int max_two min_two max_three min_three max_four min_four
set_option linter.unusedVariables false
set_option linter.unusedSimpArgs false
def vestryref08_fault.f (a0:Int) (a1:Int):Option (Int×Int):=some (a0,a1)
theorem vestryref08_fault.calls (a0:Int) (a1:Int) (r1:Int) (r2:Int) (w:World) (h:vestryref08_fault.f a0 a1=some (r1,r2)) :
    Calls Try.prog 35 #[.int .i64 a0,.int .i64 a1] w fun e w'=>e=.returned (.agg #[.int .i64 r1,.int .i64 r2])∧Below w.heap.size w w':=by
 have hu31:=Try.underlying31
 have HB:=Aside0.mk (Below.refl w.heap.size w)
 have H:(some (a0,a1))=some (r1,r2):=h
 clear h
 simp only[Option.some.injEq,Prod.mk.injEq] at H
 obtain⟨rfl,rfl⟩:=H
 go_enter Try.func35,Try.ntmps35
 go_wp2_with (first|((with_reducible refine gate_dst (N:=4) rfl ?_);refine box_event ?hg (N:=4) ?hd (cs:=#[.int .i64 0,.int .i64 0]) (t:=31) ?hr ?_;(case hd=>rfl);(case hg=>rfl);(case hr=>first|(go_simp;done)|(go_simp;rfl));intro gb101 hg w3 hbox hb;have n0_:=Aside0.mk (below_step (by repeat (first|(with_reducible first|exact HB.out|apply below_alloc|apply pw_below_drewN|apply below_drew1)|exact HB.out)) hb);have n1_:=Aside0.mk (hbox);have n2_:=Aside0.mk ((by rw[hg];exact (below_size (by repeat (first|(with_reducible first|exact HB.out|apply below_alloc|apply pw_below_drewN|apply below_drew1)|exact HB.out))):w.heap.size≤gb101));have n3_:=Aside0.mk ((by rw[hg];exact (below_size (by repeat (first|(with_reducible first|exact HB.out|apply below_alloc|apply pw_below_drewN|apply below_drew1)|exact HB.out))):w.heap.size≤gb101));clear HB;have HB:=n0_;have BK101:=n1_;have GW101:=n2_;have GE101:=n3_;clear n0_ n1_ n2_ n3_;clear hb hbox hg;have hcz4_0:w3.cell? ⟨gb101,0,none⟩=some (.int .i64 0):=(blk_cell BK101.out 0).trans rfl;have hcz4_1:w3.cell? ⟨gb101,1,none⟩=some (.int .i64 0):=(blk_cell BK101.out 1).trans rfl;have hfz4_0:=blk_frozen BK101.out 0;have hfz4_1:=blk_frozen BK101.out 1))
 refine bodyPost_ret (results_cell_row rfl _ _ gb101 31 #[.int .i64 a0,.int .i64 a1] (0,0) _ rfl (by (with_reducible repeat (first|refine blk_drewN ?_ _|refine blk_drew ?_|refine blk_alloc ?_ _));refine blk_put (cs:=#[.int .i64 a0,.int .i64 0]) ?_ 1 _ rfl;(with_reducible repeat (first|refine blk_drewN ?_ _|refine blk_drew ?_|refine blk_alloc ?_ _));refine blk_put (cs:=#[.int .i64 0,.int .i64 0]) ?_ 0 _ rfl;(with_reducible repeat (first|refine blk_drewN ?_ _|refine blk_drew ?_|refine blk_alloc ?_ _));exact BK101.out) Try.underlying31 rfl (by kernel_rfl)) rfl ?_
 exact⟨by first|rfl|(simp[errW_none,errW_some] <;> rfl)|(simp[*,errW_none,errW_some] <;> rfl),by repeat (first|(with_reducible first|exact HB.out|apply below_alloc|apply pw_below_drewN|apply below_drew1|refine below_set ?_ GE101.out)|exact HB.out)⟩
def vestryref08_at.f (a0:ByteArray) (a1:Int) (a2:ByteArray):Option (Bool):=if (wrap64 (a1+(a2.size:Int)))≤(a0.size:Int) then (if 0≤a1 then (if a1≤(wrap64 (a1+(a2.size:Int))) then (some ((a0.extract (a1:Int).toNat ((wrap64 (a1+(a2.size:Int))):Int).toNat).toList==a2.toList)) else (none)) else (none)) else (some false)
theorem vestryref08_at.calls (a0:ByteArray) (a1:Int) (a2:ByteArray) (r:Bool) (w:World) (h:vestryref08_at.f a0 a1 a2=some r) :
    Calls Try.prog 68 #[.string a0,.int .i64 a1,.string a2] w fun e w'=>e=.returned (.bool r)∧Drawn0 w w':=by
 have H:(if (wrap64 (a1+(a2.size:Int)))≤(a0.size:Int) then (if 0≤a1 then (if a1≤(wrap64 (a1+(a2.size:Int))) then (some ((a0.extract (a1:Int).toNat ((wrap64 (a1+(a2.size:Int))):Int).toNat).toList==a2.toList)) else (none)) else (none)) else (some false))=some r:=h
 clear h
 by_cases c4:(wrap64 (a1+(a2.size:Int)))≤(a0.size:Int)
 · rw[if_pos c4] at H
   have c4b0:decide ((wrap64 (a1+(a2.size:Int)))≤(a0.size:Int))=true:=decide_eq_true c4
   clear c4
   by_cases c5:0≤a1
   · rw[if_pos c5] at H
     have c5b0:=eq_true c5
     have c5b1:decide (0≤a1)=true:=decide_eq_true c5
     clear c5
     by_cases c6:a1≤(wrap64 (a1+(a2.size:Int)))
     · rw[if_pos c6] at H
       have c6b0:=eq_true c6
       have c6b1:decide (a1≤(wrap64 (a1+(a2.size:Int))))=true:=decide_eq_true c6
       have c7b0:=eq_true (of_decide_eq_true (by first|(with_reducible assumption)|assumption):(wrap64 (a1+(a2.size:Int)))≤(a0.size:Int))
       obtain rfl:=Option.some.inj H
       go_enter Try.func68,Try.ntmps68
       go_wp2
       go_ret
       exact⟨by first|rfl|(simp;done)|(simp[*];done),by repeat (first|exact Drawn0.refl _|apply Drawn0.step)⟩
     · rw[if_neg c6] at H
       exact absurd H (by simp)
   · rw[if_neg c5] at H
     exact absurd H (by simp)
 · rw[if_neg c4] at H
   have c4b0:decide ((wrap64 (a1+(a2.size:Int)))≤(a0.size:Int))=false:=decide_eq_false c4
   clear c4
   obtain rfl:=Option.some.inj H
   go_enter Try.func68,Try.ntmps68
   go_wp2
   go_ret
   exact⟨by first|rfl|(simp;done)|(simp[*];done),by repeat (first|exact Drawn0.refl _|apply Drawn0.step)⟩
/-! ### vestryref08_gap: function 36 -/
mutual
def vestryref08_gap.j0:Nat→ByteArray→Int→Bool→Option (Int)
 | 0,_,_,_=>none
 | k+1,x0,x1,x10=>if x10=true then (some (wrap64 (x1+1))) else ((vestryref08_at.f x0 x1 (⟨#[47,47]⟩:ByteArray)).bind fun t102=>(if t102=true then (vestryref08_gap.l0 k x0 x1) else ((vestryref08_at.f x0 x1 (⟨#[47,42]⟩:ByteArray)).bind fun t103=>(if t103=true then (vestryref08_gap.l1 k x0 (wrap64 (x1+2))) else (some x1)))))
def vestryref08_gap.l0:Nat→ByteArray→Int→Option (Int)
 | 0,_,_=>none
 | k+1,x0,x1=>if x1<(x0.size:Int) then (if 0≤x1 then (if (bt x0 x1)=10 then (some x1) else (vestryref08_gap.l0 k x0 (wrap64 (x1+1)))) else (none)) else (some x1)
def vestryref08_gap.l1:Nat→ByteArray→Int→Option (Int)
 | 0,_,_=>none
 | k+1,x0,x6=>if x6<(x0.size:Int) then ((vestryref08_at.f x0 x6 (⟨#[42,47]⟩:ByteArray)).bind fun t104=>(if t104=true then (some (wrap64 (x6+2))) else (vestryref08_gap.l1 k x0 (wrap64 (x6+1))))) else (some (-1))
end
def vestryref08_gap.f (k:Nat) (a0:ByteArray) (a1:Int):Option (Int):=if 0≤a1 then (if a1<(a0.size:Int) then (if (bt a0 a1)=32 then (vestryref08_gap.j0 k a0 a1 true) else (if (bt a0 a1)=9 then (vestryref08_gap.j0 k a0 a1 true) else (if (bt a0 a1)=10 then (vestryref08_gap.j0 k a0 a1 true) else (vestryref08_gap.j0 k a0 a1 ((bt a0 a1)==13))))) else (none)) else (none)
theorem vestryref08_gap.calls (k:Nat) (a0:ByteArray) (a1:Int) (r:Int) (w:World) (h:vestryref08_gap.f k a0 a1=some r) :
    Calls Try.prog 36 #[.string a0,.int .i64 a1] w fun e w'=>e=.returned (.int .i64 r)∧Drawn0 w w':=by
 have H:(if 0≤a1 then (if a1<(a0.size:Int) then (if (bt a0 a1)=32 then (vestryref08_gap.j0 k a0 a1 true) else (if (bt a0 a1)=9 then (vestryref08_gap.j0 k a0 a1 true) else (if (bt a0 a1)=10 then (vestryref08_gap.j0 k a0 a1 true) else (vestryref08_gap.j0 k a0 a1 ((bt a0 a1)==13))))) else (none)) else (none))=some r:=h
 clear h
 by_cases c3:0≤a1
 · rw[if_pos c3] at H
   have c3b0:decide (0≤a1)=true:=decide_eq_true c3
   clear c3
   by_cases c4:a1<(a0.size:Int)
   · rw[if_pos c4] at H
     have c4b0:decide (a1<(a0.size:Int))=true:=decide_eq_true c4
     clear c4
     have HC6:=Aside0.mk H
     clear H
     have p5:0≤(a1:Int):=of_decide_eq_true (by first|(with_reducible assumption)|assumption)
     have q5:a1<(a0.size:Int):=of_decide_eq_true (by first|(with_reducible assumption)|assumption)
     have hx5:=bt_at a0 a1
     replace p5:=eq_true p5
     replace q5:=eq_true q5
     go_enter Try.func36,Try.ntmps36
     go_upto_region 2 with (fail)
     go_cut [10] (fun v10 wc=>∃ (kq:Nat) (x10_5:Bool),v10=.bool x10_5∧Aside0 (vestryref08_gap.j0 kq a0 a1 x10_5=some r)∧Aside0 (kq≤k)∧Drawn0 w wc)
     case first=>
      have H:=HC6.out
      clear HC6
      by_cases c7:(bt a0 a1)=32
      · rw[if_pos c7] at H
        have c7b0:((bt a0 a1)==32)=true:=beq_iff_eq.mpr c7
        have c7b1:((bt a0 a1) != 32)=false:=bne_eq_false_iff_eq.mpr c7
        clear c7
        (first|rw[c7b0]|(simp only[i64_w,i32_w];rw[c7b0])|skip)
        have H':=Aside0.mk H
        clear H
        go_wp2
        go_meet
        case rel=>exact⟨_,(true),(by first|rfl|(simp;done)|(simp[*];done)),H',⟨by first|omega|exact Nat.le_refl _⟩,by repeat (first|exact Drawn0.refl _|apply Drawn0.step)⟩
      · rw[if_neg c7] at H
        have c7b0:((bt a0 a1)==32)=false:=beq_eq_false_iff_ne.mpr c7
        have c7b1:((bt a0 a1) != 32)=true:=bne_iff_ne.mpr c7
        (first|rw[c7b0]|(simp only[i64_w,i32_w];rw[c7b0])|skip)
        by_cases c8:(bt a0 a1)=9
        · rw[if_pos c8] at H
          have c8b0:((bt a0 a1)==9)=true:=beq_iff_eq.mpr c8
          have c8b1:((bt a0 a1) != 9)=false:=bne_eq_false_iff_eq.mpr c8
          clear c8
          have H':=Aside0.mk H
          clear H
          go_wp2
          go_meet
          case rel=>exact⟨_,(true),(by first|rfl|(simp;done)|(simp[*];done)),H',⟨by first|omega|exact Nat.le_refl _⟩,by repeat (first|exact Drawn0.refl _|apply Drawn0.step)⟩
        · rw[if_neg c8] at H
          have c8b0:((bt a0 a1)==9)=false:=beq_eq_false_iff_ne.mpr c8
          have c8b1:((bt a0 a1) != 9)=true:=bne_iff_ne.mpr c8
          by_cases c9:(bt a0 a1)=10
          · rw[if_pos c9] at H
            have c9b0:((bt a0 a1)==10)=true:=beq_iff_eq.mpr c9
            have c9b1:((bt a0 a1) != 10)=false:=bne_eq_false_iff_eq.mpr c9
            clear c9
            have H':=Aside0.mk H
            clear H
            go_wp2
            go_meet
            case rel=>exact⟨_,(true),(by first|rfl|(simp;done)|(simp[*];done)),H',⟨by first|omega|exact Nat.le_refl _⟩,by repeat (first|exact Drawn0.refl _|apply Drawn0.step)⟩
          · rw[if_neg c9] at H
            have c9b0:((bt a0 a1)==10)=false:=beq_eq_false_iff_ne.mpr c9
            have c9b1:((bt a0 a1) != 10)=true:=bne_iff_ne.mpr c9
            have H':=Aside0.mk H
            clear H
            go_wp2
            go_meet
            case rel=>exact⟨_,(((bt a0 a1)==13)),(by first|rfl|(simp;done)|(simp[*];done)),H',⟨by first|omega|exact Nat.le_refl _⟩,by repeat (first|exact Drawn0.refl _|apply Drawn0.step)⟩
     case rest=>
      clear HC6
      try clear p2
      try clear c3
      try clear c3b0
      try clear c4
      try clear c4b0
      try clear p5
      try clear q5
      try clear hx5
      try clear c7
      try clear c7b0
      try clear c7b1
      try clear c8
      try clear c8b0
      try clear c8b1
      try clear c9
      try clear c9b0
      try clear c9b1
      try clear p5
      try clear q5
      obtain⟨kq,x10_5,rfl,HA,HJ5,⟨mc5,rfl⟩⟩:=hcut
      cases kq with
      | zero=>exact absurd HA.out (by simp[vestryref08_gap.j0])
      | succ kj5=>
        have H:=HA.out
        clear HA
        simp only[vestryref08_gap.j0] at H
        by_cases c10:x10_5=true
        · subst c10
          have H1:(some (wrap64 (a1+1)))=some r:=by rw[if_pos rfl] at H;exact H
          clear H
          have H:=H1
          clear H1
          obtain rfl:=Option.some.inj H
          go_wp2
          go_ret
          exact⟨by first|rfl|(simp;done)|(simp[*];done),by repeat (first|exact Drawn0.refl _|apply Drawn0.step)⟩
        · replace c10:=Bool.eq_false_iff.mpr c10
          subst c10
          have H1:((vestryref08_at.f a0 a1 (⟨#[47,47]⟩:ByteArray)).bind fun t102=>(if t102=true then (vestryref08_gap.l0 kj5 a0 a1) else ((vestryref08_at.f a0 a1 (⟨#[47,42]⟩:ByteArray)).bind fun t103=>(if t103=true then (vestryref08_gap.l1 kj5 a0 (wrap64 (a1+2))) else (some a1)))))=some r:=by rw[if_neg (show ¬(false=true) by decide)] at H;exact H
          clear H
          have H:=H1
          clear H1
          replace H:=Option.bind_eq_some_iff.mp H
          obtain⟨t102,A110,H⟩:=H
          replace H:(if t102=true then (vestryref08_gap.l0 kj5 a0 a1) else ((vestryref08_at.f a0 a1 (⟨#[47,42]⟩:ByteArray)).bind fun t103=>(if t103=true then (vestryref08_gap.l1 kj5 a0 (wrap64 (a1+2))) else (some a1))))=some r:=H
          have A11:=Aside0.mk A110
          clear A110
          by_cases c12:t102=true
          · subst c12
            have H1:(vestryref08_gap.l0 kj5 a0 a1)=some r:=by rw[if_pos rfl] at H;exact H
            clear H
            have H:=H1
            clear H1
            have H':=Aside0.mk H
            clear H
            go_wp2_with (first|((with_reducible refine gate_callee (f:=68) rfl ?_);refine goesL_ (some 30) rfl rfl Try.func68 (by kernel_rfl) rfl #[.string a0,.int .i64 a1,.string (⟨#[47,47]⟩:ByteArray)] rfl (by (try simp only[List.map_toArray,List.map_cons,List.map_nil]);first|done|rfl|(simp only[List.length_drop,List.length_take];rfl)) ?_;(with_reducible refine (vestryref08_at.calls a0 a1 (⟨#[47,47]⟩:ByteArray) true _ A11.out).mono ?_);rintro e w' ⟨rfl,⟨nd,rfl⟩⟩;refine⟨_,rfl,?_⟩))
            go_loopg [1] kj5 (fun kq v1 w'=>∃ (x1_2:Int),v1=.int .i64 x1_2∧Aside0 (vestryref08_gap.l0 kq a0 x1_2=some r)∧Aside0 (kq≤kj5)∧Drawn0 w w')
            case atStart=>exact⟨(a1),(by first|rfl|(simp;done)|(simp[*];done)),H',⟨Nat.le_refl _⟩,by repeat (first|exact Drawn0.refl _|apply Drawn0.step)⟩
            case round=>
             clear H'
             try clear c1
             try clear p2
             try clear c3
             try clear c3b0
             try clear c4
             try clear c4b0
             try clear c5
             try clear p5
             try clear q5
             try clear hx5
             try clear c6
             try clear p6
             try clear c7
             try clear c7b0
             try clear c7b1
             try clear c8
             try clear c8b0
             try clear c8b1
             try clear c9
             try clear c9b0
             try clear c9b1
             try clear c10
             try clear c12
             try clear p2
             try clear p5
             try clear q5
             obtain⟨x1_2,rfl,HA,HK2,⟨m2,rfl⟩⟩:=hrel
             cases gk with
             | zero=>exact absurd HA.out (by simp[vestryref08_gap.l0])
             | succ k2=>
               have H:=HA.out
               clear HA
               simp only[vestryref08_gap.l0] at H
               by_cases c13:x1_2<(a0.size:Int)
               · rw[if_pos c13] at H
                 have c13b0:decide (x1_2<(a0.size:Int))=true:=decide_eq_true c13
                 clear c13
                 by_cases c14:0≤x1_2
                 · rw[if_pos c14] at H
                   have c14b0:decide (0≤x1_2)=true:=decide_eq_true c14
                   clear c14
                   by_cases c16:(bt a0 x1_2)=10
                   · rw[if_pos c16] at H
                     have c16b0:((bt a0 x1_2)==10)=true:=beq_iff_eq.mpr c16
                     have c16b1:((bt a0 x1_2) != 10)=false:=bne_eq_false_iff_eq.mpr c16
                     clear c16
                     obtain rfl:=Option.some.inj H
                     have p15:0≤(x1_2:Int):=of_decide_eq_true (by first|(with_reducible assumption)|assumption)
                     have q15:x1_2<(a0.size:Int):=of_decide_eq_true (by first|(with_reducible assumption)|assumption)
                     have hx15:=bt_at a0 x1_2
                     replace p15:=eq_true p15
                     replace q15:=eq_true q15
                     go_wp2
                     go_ret
                     exact⟨by first|rfl|(simp;done)|(simp[*];done),by repeat (first|exact Drawn0.refl _|apply Drawn0.step)⟩
                   · rw[if_neg c16] at H
                     have c16b0:((bt a0 x1_2)==10)=false:=beq_eq_false_iff_ne.mpr c16
                     have c16b1:((bt a0 x1_2) != 10)=true:=bne_iff_ne.mpr c16
                     have H':=Aside0.mk H
                     clear H
                     have p15:0≤(x1_2:Int):=of_decide_eq_true (by first|(with_reducible assumption)|assumption)
                     have q15:x1_2<(a0.size:Int):=of_decide_eq_true (by first|(with_reducible assumption)|assumption)
                     have hx15:=bt_at a0 x1_2
                     replace p15:=eq_true p15
                     replace q15:=eq_true q15
                     go_wp2
                     go_roundg k2
                     case measure=>have:=HJ5.out;have:=HK2.out;omega
                     case rel=>exact⟨(wrap64 (x1_2+1)),(by first|rfl|(simp;done)|(simp[*];done)),H',⟨by have:=HJ5.out;have:=HK2.out;omega⟩,by repeat (first|exact Drawn0.refl _|apply Drawn0.step)⟩
                 · rw[if_neg c14] at H
                   exact absurd H (by simp)
               · rw[if_neg c13] at H
                 have c13b0:decide (x1_2<(a0.size:Int))=false:=decide_eq_false c13
                 clear c13
                 obtain rfl:=Option.some.inj H
                 go_wp2
                 go_ret
                 exact⟨by first|rfl|(simp;done)|(simp[*];done),by repeat (first|exact Drawn0.refl _|apply Drawn0.step)⟩
          · replace c12:=Bool.eq_false_iff.mpr c12
            subst c12
            have H1:((vestryref08_at.f a0 a1 (⟨#[47,42]⟩:ByteArray)).bind fun t103=>(if t103=true then (vestryref08_gap.l1 kj5 a0 (wrap64 (a1+2))) else (some a1)))=some r:=by rw[if_neg (show ¬(false=true) by decide)] at H;exact H
            clear H
            have H:=H1
            clear H1
            replace H:=Option.bind_eq_some_iff.mp H
            obtain⟨t103,A170,H⟩:=H
            replace H:(if t103=true then (vestryref08_gap.l1 kj5 a0 (wrap64 (a1+2))) else (some a1))=some r:=H
            have A17:=Aside0.mk A170
            clear A170
            by_cases c18:t103=true
            · subst c18
              have H1:(vestryref08_gap.l1 kj5 a0 (wrap64 (a1+2)))=some r:=by rw[if_pos rfl] at H;exact H
              clear H
              have H:=H1
              clear H1
              have H':=Aside0.mk H
              clear H
              go_wp2_with (first|((with_reducible refine gate_callee (f:=68) rfl ?_);refine goesL_ (some 30) rfl rfl Try.func68 (by kernel_rfl) rfl #[.string a0,.int .i64 a1,.string (⟨#[47,47]⟩:ByteArray)] rfl (by (try simp only[List.map_toArray,List.map_cons,List.map_nil]);first|done|rfl|(simp only[List.length_drop,List.length_take];rfl)) ?_;(with_reducible refine (vestryref08_at.calls a0 a1 (⟨#[47,47]⟩:ByteArray) false _ A11.out).mono ?_);rintro e w' ⟨rfl,⟨nd,rfl⟩⟩;refine⟨_,rfl,?_⟩)|((with_reducible refine gate_callee (f:=68) rfl ?_);refine goesL_ (some 46) rfl rfl Try.func68 (by kernel_rfl) rfl #[.string a0,.int .i64 a1,.string (⟨#[47,42]⟩:ByteArray)] rfl (by (try simp only[List.map_toArray,List.map_cons,List.map_nil]);first|done|rfl|(simp only[List.length_drop,List.length_take];rfl)) ?_;(with_reducible refine (vestryref08_at.calls a0 a1 (⟨#[47,42]⟩:ByteArray) true _ A17.out).mono ?_);rintro e w' ⟨rfl,⟨nd,rfl⟩⟩;refine⟨_,rfl,?_⟩))
              go_loopg [6] kj5 (fun kq v6 w'=>∃ (x6_2:Int),v6=.int .i64 x6_2∧Aside0 (vestryref08_gap.l1 kq a0 x6_2=some r)∧Aside0 (kq≤kj5)∧Drawn0 w w')
              case atStart=>exact⟨(wrap64 (a1+2)),(by first|rfl|(simp;done)|(simp[*];done)),H',⟨Nat.le_refl _⟩,by repeat (first|exact Drawn0.refl _|apply Drawn0.step)⟩
              case round=>
               clear H'
               try clear c1
               try clear p1
               try clear q1
               try clear hx1
               try clear p2
               try clear c3
               try clear c3b0
               try clear c4
               try clear c4b0
               try clear c5
               try clear p5
               try clear q5
               try clear hx5
               try clear c6
               try clear p6
               try clear c7
               try clear c7b0
               try clear c7b1
               try clear c8
               try clear c8b0
               try clear c8b1
               try clear c9
               try clear c9b0
               try clear c9b1
               try clear c10
               try clear c12
               try clear c13
               try clear c13b0
               try clear c14
               try clear c14b0
               try clear p15
               try clear q15
               try clear hx15
               try clear c16
               try clear c16b0
               try clear c16b1
               try clear c18
               try clear p15
               try clear p2
               try clear p5
               try clear p6
               try clear q15
               try clear q5
               obtain⟨x6_2,rfl,HA,HK2,⟨m2,rfl⟩⟩:=hrel
               cases gk with
               | zero=>exact absurd HA.out (by simp[vestryref08_gap.l1])
               | succ k2=>
                 have H:=HA.out
                 clear HA
                 simp only[vestryref08_gap.l1] at H
                 by_cases c19:x6_2<(a0.size:Int)
                 · rw[if_pos c19] at H
                   have c19b0:decide (x6_2<(a0.size:Int))=true:=decide_eq_true c19
                   clear c19
                   replace H:=Option.bind_eq_some_iff.mp H
                   obtain⟨t104,A200,H⟩:=H
                   replace H:(if t104=true then (some (wrap64 (x6_2+2))) else (vestryref08_gap.l1 k2 a0 (wrap64 (x6_2+1))))=some r:=H
                   have A20:=Aside0.mk A200
                   clear A200
                   by_cases c21:t104=true
                   · subst c21
                     have H1:(some (wrap64 (x6_2+2)))=some r:=by rw[if_pos rfl] at H;exact H
                     clear H
                     have H:=H1
                     clear H1
                     obtain rfl:=Option.some.inj H
                     go_wp2_with (first|((with_reducible refine gate_callee (f:=68) rfl ?_);refine goesL_ (some 57) rfl rfl Try.func68 (by kernel_rfl) rfl #[.string a0,.int .i64 x6_2,.string (⟨#[42,47]⟩:ByteArray)] rfl (by (try simp only[List.map_toArray,List.map_cons,List.map_nil]);first|done|rfl|(simp only[List.length_drop,List.length_take];rfl)) ?_;(with_reducible refine (vestryref08_at.calls a0 x6_2 (⟨#[42,47]⟩:ByteArray) true _ A20.out).mono ?_);rintro e w' ⟨rfl,⟨nd,rfl⟩⟩;refine⟨_,rfl,?_⟩))
                     go_ret
                     exact⟨by first|rfl|(simp;done)|(simp[*];done),by repeat (first|exact Drawn0.refl _|apply Drawn0.step)⟩
                   · replace c21:=Bool.eq_false_iff.mpr c21
                     subst c21
                     have H1:(vestryref08_gap.l1 k2 a0 (wrap64 (x6_2+1)))=some r:=by rw[if_neg (show ¬(false=true) by decide)] at H;exact H
                     clear H
                     have H:=H1
                     clear H1
                     have H':=Aside0.mk H
                     clear H
                     go_wp2_with (first|((with_reducible refine gate_callee (f:=68) rfl ?_);refine goesL_ (some 57) rfl rfl Try.func68 (by kernel_rfl) rfl #[.string a0,.int .i64 x6_2,.string (⟨#[42,47]⟩:ByteArray)] rfl (by (try simp only[List.map_toArray,List.map_cons,List.map_nil]);first|done|rfl|(simp only[List.length_drop,List.length_take];rfl)) ?_;(with_reducible refine (vestryref08_at.calls a0 x6_2 (⟨#[42,47]⟩:ByteArray) false _ A20.out).mono ?_);rintro e w' ⟨rfl,⟨nd,rfl⟩⟩;refine⟨_,rfl,?_⟩))
                     go_roundg k2
                     case measure=>have:=HJ5.out;have:=HK2.out;omega
                     case rel=>exact⟨(wrap64 (x6_2+1)),(by first|rfl|(simp;done)|(simp[*];done)),H',⟨by have:=HJ5.out;have:=HK2.out;omega⟩,by repeat (first|exact Drawn0.refl _|apply Drawn0.step)⟩
                 · rw[if_neg c19] at H
                   have c19b0:decide (x6_2<(a0.size:Int))=false:=decide_eq_false c19
                   clear c19
                   obtain rfl:=Option.some.inj H
                   go_wp2
                   go_ret
                   exact⟨by first|rfl|(simp;done)|(simp[*];done),by repeat (first|exact Drawn0.refl _|apply Drawn0.step)⟩
            · replace c18:=Bool.eq_false_iff.mpr c18
              subst c18
              have H1:(some a1)=some r:=by rw[if_neg (show ¬(false=true) by decide)] at H;exact H
              clear H
              have H:=H1
              clear H1
              obtain rfl:=Option.some.inj H
              go_wp2_with (first|((with_reducible refine gate_callee (f:=68) rfl ?_);refine goesL_ (some 30) rfl rfl Try.func68 (by kernel_rfl) rfl #[.string a0,.int .i64 a1,.string (⟨#[47,47]⟩:ByteArray)] rfl (by (try simp only[List.map_toArray,List.map_cons,List.map_nil]);first|done|rfl|(simp only[List.length_drop,List.length_take];rfl)) ?_;(with_reducible refine (vestryref08_at.calls a0 a1 (⟨#[47,47]⟩:ByteArray) false _ A11.out).mono ?_);rintro e w' ⟨rfl,⟨nd,rfl⟩⟩;refine⟨_,rfl,?_⟩)|((with_reducible refine gate_callee (f:=68) rfl ?_);refine goesL_ (some 46) rfl rfl Try.func68 (by kernel_rfl) rfl #[.string a0,.int .i64 a1,.string (⟨#[47,42]⟩:ByteArray)] rfl (by (try simp only[List.map_toArray,List.map_cons,List.map_nil]);first|done|rfl|(simp only[List.length_drop,List.length_take];rfl)) ?_;(with_reducible refine (vestryref08_at.calls a0 a1 (⟨#[47,42]⟩:ByteArray) false _ A17.out).mono ?_);rintro e w' ⟨rfl,⟨nd,rfl⟩⟩;refine⟨_,rfl,?_⟩))
              go_ret
              exact⟨by first|rfl|(simp;done)|(simp[*];done),by repeat (first|exact Drawn0.refl _|apply Drawn0.step)⟩
   · rw[if_neg c4] at H
     exact absurd H (by simp)
 · rw[if_neg c3] at H
   exact absurd H (by simp)
def vestryref03_Digit.f (a0:Int):Option (Bool):=if a0 ≥ 48 then (some (decide (a0≤57))) else (some false)
theorem vestryref03_Digit.calls (a0:Int) (r:Bool) (w:World) (h:vestryref03_Digit.f a0=some r) :
    Calls Try.prog 38 #[.int .u8 a0] w fun e w'=>e=.returned (.bool r)∧Drawn0 w w':=by
 have H:(if a0 ≥ 48 then (some (decide (a0≤57))) else (some false))=some r:=h
 clear h
 by_cases c2:a0 ≥ 48
 · rw[if_pos c2] at H
   have c2b0:decide (48≤a0)=true:=decide_eq_true c2
   clear c2
   obtain rfl:=Option.some.inj H
   go_enter Try.func38,Try.ntmps38
   go_wp2
   go_ret
   exact⟨by first|rfl|(simp;done)|(simp[*];done),by repeat (first|exact Drawn0.refl _|apply Drawn0.step)⟩
 · rw[if_neg c2] at H
   have c2b0:decide (48≤a0)=false:=decide_eq_false c2
   clear c2
   obtain rfl:=Option.some.inj H
   go_enter Try.func38,Try.ntmps38
   go_wp2
   go_ret
   exact⟨by first|rfl|(simp;done)|(simp[*];done),by repeat (first|exact Drawn0.refl _|apply Drawn0.step)⟩
def vestryref03_Letter.f (a0:Int):Option (Bool):=if a0=95 then (some true) else (if a0 ≥ 97 then (if a0≤122 then (some true) else (if a0 ≥ 65 then (some (decide (a0≤90))) else (some false))) else (if a0 ≥ 65 then (some (decide (a0≤90))) else (some false)))
theorem vestryref03_Letter.calls (a0:Int) (r:Bool) (w:World) (h:vestryref03_Letter.f a0=some r) :
    Calls Try.prog 70 #[.int .u8 a0] w fun e w'=>e=.returned (.bool r)∧Drawn0 w w':=by
 have H:(if a0=95 then (some true) else (if a0 ≥ 97 then (if a0≤122 then (some true) else (if a0 ≥ 65 then (some (decide (a0≤90))) else (some false))) else (if a0 ≥ 65 then (some (decide (a0≤90))) else (some false))))=some r:=h
 clear h
 by_cases c2:a0=95
 · rw[if_pos c2] at H
   have c2b0:(a0==95)=true:=beq_iff_eq.mpr c2
   have c2b1:(a0 != 95)=false:=bne_eq_false_iff_eq.mpr c2
   clear c2
   obtain rfl:=Option.some.inj H
   go_enter Try.func70,Try.ntmps70
   go_wp2
   go_ret
   exact⟨by first|rfl|(simp;done)|(simp[*];done),by repeat (first|exact Drawn0.refl _|apply Drawn0.step)⟩
 · rw[if_neg c2] at H
   have c2b0:(a0==95)=false:=beq_eq_false_iff_ne.mpr c2
   have c2b1:(a0 != 95)=true:=bne_iff_ne.mpr c2
   by_cases c3:a0 ≥ 97
   · rw[if_pos c3] at H
     have c3b0:decide (97≤a0)=true:=decide_eq_true c3
     clear c3
     by_cases c4:a0≤122
     · rw[if_pos c4] at H
       have c4b0:decide (a0≤122)=true:=decide_eq_true c4
       clear c4
       obtain rfl:=Option.some.inj H
       go_enter Try.func70,Try.ntmps70
       go_wp2
       go_ret
       exact⟨by first|rfl|(simp;done)|(simp[*];done),by repeat (first|exact Drawn0.refl _|apply Drawn0.step)⟩
     · rw[if_neg c4] at H
       have c4b0:decide (a0≤122)=false:=decide_eq_false c4
       clear c4
       by_cases c5:a0 ≥ 65
       · rw[if_pos c5] at H
         have c5b0:decide (65≤a0)=true:=decide_eq_true c5
         clear c5
         obtain rfl:=Option.some.inj H
         go_enter Try.func70,Try.ntmps70
         go_wp2
         go_ret
         exact⟨by first|rfl|(simp;done)|(simp[*];done),by repeat (first|exact Drawn0.refl _|apply Drawn0.step)⟩
       · rw[if_neg c5] at H
         have c5b0:decide (65≤a0)=false:=decide_eq_false c5
         clear c5
         obtain rfl:=Option.some.inj H
         go_enter Try.func70,Try.ntmps70
         go_wp2
         go_ret
         exact⟨by first|rfl|(simp;done)|(simp[*];done),by repeat (first|exact Drawn0.refl _|apply Drawn0.step)⟩
   · rw[if_neg c3] at H
     have c3b0:decide (97≤a0)=false:=decide_eq_false c3
     clear c3
     by_cases c6:a0 ≥ 65
     · rw[if_pos c6] at H
       have c6b0:decide (65≤a0)=true:=decide_eq_true c6
       clear c6
       obtain rfl:=Option.some.inj H
       go_enter Try.func70,Try.ntmps70
       go_wp2
       go_ret
       exact⟨by first|rfl|(simp;done)|(simp[*];done),by repeat (first|exact Drawn0.refl _|apply Drawn0.step)⟩
     · rw[if_neg c6] at H
       have c6b0:decide (65≤a0)=false:=decide_eq_false c6
       clear c6
       obtain rfl:=Option.some.inj H
       go_enter Try.func70,Try.ntmps70
       go_wp2
       go_ret
       exact⟨by first|rfl|(simp;done)|(simp[*];done),by repeat (first|exact Drawn0.refl _|apply Drawn0.step)⟩
def vestryref08_word.l0:Nat→ByteArray→Int→Int→Option (Int)
 | 0,_,_,_=>none
 | k+1,x0,x1,x5=>if (wrap64 (x1+x5))<(x0.size:Int) then (if 0≤(wrap64 (x1+x5)) then ((vestryref03_Letter.f (bt x0 (wrap64 (x1+x5)))).bind fun t105=>(if t105=true then (vestryref08_word.l0 k x0 x1 (wrap64 (x5+1))) else (if x5 > 0 then ((vestryref03_Digit.f (bt x0 (wrap64 (x1+x5)))).bind fun t106=>(if t106=true then (vestryref08_word.l0 k x0 x1 (wrap64 (x5+1))) else (some x5))) else (some x5)))) else (none)) else (some x5)
def vestryref08_word.f (k:Nat) (a0:ByteArray) (a1:Int):Option (Int):=vestryref08_word.l0 k a0 a1 0
theorem vestryref08_word.calls (k:Nat) (a0:ByteArray) (a1:Int) (r:Int) (w:World) (h:vestryref08_word.f k a0 a1=some r) :
    Calls Try.prog 69 #[.string a0,.int .i64 a1] w fun e w'=>e=.returned (.int .i64 r)∧Drawn0 w w':=by
 have H:(vestryref08_word.l0 k a0 a1 0)=some r:=h
 clear h
 have H':=Aside0.mk H
 clear H
 go_enter Try.func69,Try.ntmps69
 go_wp2
 go_loopg [5] k (fun kq v5 w'=>∃ (x5_1:Int),v5=.int .i64 x5_1∧Aside0 (vestryref08_word.l0 kq a0 a1 x5_1=some r)∧Aside0 (kq≤k)∧Drawn0 w w')
 case atStart=>exact⟨(0),(by first|rfl|(simp;done)|(simp[*];done)),H',⟨Nat.le_refl _⟩,by repeat (first|exact Drawn0.refl _|apply Drawn0.step)⟩
 case round=>
  clear H'
  try clear p2
  obtain⟨x5_1,rfl,HA,HK1,⟨m1,rfl⟩⟩:=hrel
  cases gk with
  | zero=>exact absurd HA.out (by simp[vestryref08_word.l0])
  | succ k1=>
    have H:=HA.out
    clear HA
    simp only[vestryref08_word.l0] at H
    by_cases c3:(wrap64 (a1+x5_1))<(a0.size:Int)
    · rw[if_pos c3] at H
      have c3b0:decide ((wrap64 (a1+x5_1))<(a0.size:Int))=true:=decide_eq_true c3
      clear c3
      obtain⟨ji4,hji4⟩:∃ j_:Int,(wrap64 (a1+x5_1))=j_:=⟨_,rfl⟩
      replace H:(if 0≤(ji4) then ((vestryref03_Letter.f (bt a0 (ji4))).bind fun t105=>(if t105=true then (vestryref08_word.l0 k1 a0 a1 (wrap64 (x5_1+1))) else (if x5_1 > 0 then ((vestryref03_Digit.f (bt a0 (ji4))).bind fun t106=>(if t106=true then (vestryref08_word.l0 k1 a0 a1 (wrap64 (x5_1+1))) else (some x5_1))) else (some x5_1)))) else (none))=some r:=by first|(rw[hji4] at H;exact H)|(simp only[hji4] at H ⊢;exact H)
      (try rw[hji4] at c3b0)
      have hji4w:(IntKind.i64.wrap (a1+x5_1))=ji4:=(i64_w _).trans hji4
      by_cases c5:0≤(ji4)
      · rw[if_pos c5] at H
        have c5b0:decide (0≤(ji4))=true:=decide_eq_true c5
        clear c5
        replace H:=Option.bind_eq_some_iff.mp H
        obtain⟨t105,A70,H⟩:=H
        replace H:(if t105=true then (vestryref08_word.l0 k1 a0 a1 (wrap64 (x5_1+1))) else (if x5_1 > 0 then ((vestryref03_Digit.f (bt a0 (ji4))).bind fun t106=>(if t106=true then (vestryref08_word.l0 k1 a0 a1 (wrap64 (x5_1+1))) else (some x5_1))) else (some x5_1)))=some r:=H
        have A7:=Aside0.mk A70
        clear A70
        by_cases c8:t105=true
        · subst c8
          have H1:(vestryref08_word.l0 k1 a0 a1 (wrap64 (x5_1+1)))=some r:=by rw[if_pos rfl] at H;exact H
          clear H
          have H:=H1
          clear H1
          have H':=Aside0.mk H
          clear H
          have p6:0≤((ji4):Int):=of_decide_eq_true (by first|(with_reducible assumption)|assumption)
          have q6:(ji4)<(a0.size:Int):=of_decide_eq_true (by first|(with_reducible assumption)|assumption)
          have hx6:=bt_at a0 (ji4)
          replace p6:=eq_true p6
          replace q6:=eq_true q6
          go_wp2_with (first|(go_at_call 70;(with_reducible refine (vestryref03_Letter.calls (bt a0 (ji4)) true _ A7.out).mono ?_);rintro e w' ⟨rfl,⟨nd,rfl⟩⟩))
          go_roundg k1
          case measure=>have:=HK1.out;omega
          case rel=>exact⟨(wrap64 (x5_1+1)),(by first|rfl|(simp;done)|(simp[*];done)),H',⟨by have:=HK1.out;omega⟩,by repeat (first|exact Drawn0.refl _|apply Drawn0.step)⟩
        · replace c8:=Bool.eq_false_iff.mpr c8
          subst c8
          have H1:(if x5_1 > 0 then ((vestryref03_Digit.f (bt a0 (ji4))).bind fun t106=>(if t106=true then (vestryref08_word.l0 k1 a0 a1 (wrap64 (x5_1+1))) else (some x5_1))) else (some x5_1))=some r:=by rw[if_neg (show ¬(false=true) by decide)] at H;exact H
          clear H
          have H:=H1
          clear H1
          by_cases c9:x5_1 > 0
          · rw[if_pos c9] at H
            have c9b0:decide (0<x5_1)=true:=decide_eq_true c9
            clear c9
            replace H:=Option.bind_eq_some_iff.mp H
            obtain⟨t106,A110,H⟩:=H
            replace H:(if t106=true then (vestryref08_word.l0 k1 a0 a1 (wrap64 (x5_1+1))) else (some x5_1))=some r:=H
            have A11:=Aside0.mk A110
            clear A110
            by_cases c12:t106=true
            · subst c12
              have H1:(vestryref08_word.l0 k1 a0 a1 (wrap64 (x5_1+1)))=some r:=by rw[if_pos rfl] at H;exact H
              clear H
              have H:=H1
              clear H1
              have H':=Aside0.mk H
              clear H
              have p6:0≤((ji4):Int):=of_decide_eq_true (by first|(with_reducible assumption)|assumption)
              have q6:(ji4)<(a0.size:Int):=of_decide_eq_true (by first|(with_reducible assumption)|assumption)
              have hx6:=bt_at a0 (ji4)
              replace p6:=eq_true p6
              replace q6:=eq_true q6
              go_wp2_with (first|(go_at_call 70;(with_reducible refine (vestryref03_Letter.calls (bt a0 (ji4)) false _ A7.out).mono ?_);rintro e w' ⟨rfl,⟨nd,rfl⟩⟩;have p10:0≤((ji4):Int):=of_decide_eq_true (by first|(with_reducible assumption)|assumption);have q10:(ji4)<(a0.size:Int):=of_decide_eq_true (by first|(with_reducible assumption)|assumption);have hx10:=bt_at a0 (ji4);replace p10:=eq_true p10;replace q10:=eq_true q10)|(go_at_call 38;(with_reducible refine (vestryref03_Digit.calls (bt a0 (ji4)) true _ A11.out).mono ?_);rintro e w' ⟨rfl,⟨nd,rfl⟩⟩))
              go_roundg k1
              case measure=>have:=HK1.out;omega
              case rel=>exact⟨(wrap64 (x5_1+1)),(by first|rfl|(simp;done)|(simp[*];done)),H',⟨by have:=HK1.out;omega⟩,by repeat (first|exact Drawn0.refl _|apply Drawn0.step)⟩
            · replace c12:=Bool.eq_false_iff.mpr c12
              subst c12
              have H1:(some x5_1)=some r:=by rw[if_neg (show ¬(false=true) by decide)] at H;exact H
              clear H
              have H:=H1
              clear H1
              obtain rfl:=Option.some.inj H
              have p6:0≤((ji4):Int):=of_decide_eq_true (by first|(with_reducible assumption)|assumption)
              have q6:(ji4)<(a0.size:Int):=of_decide_eq_true (by first|(with_reducible assumption)|assumption)
              have hx6:=bt_at a0 (ji4)
              replace p6:=eq_true p6
              replace q6:=eq_true q6
              go_wp2_with (first|(go_at_call 70;(with_reducible refine (vestryref03_Letter.calls (bt a0 (ji4)) false _ A7.out).mono ?_);rintro e w' ⟨rfl,⟨nd,rfl⟩⟩;have p10:0≤((ji4):Int):=of_decide_eq_true (by first|(with_reducible assumption)|assumption);have q10:(ji4)<(a0.size:Int):=of_decide_eq_true (by first|(with_reducible assumption)|assumption);have hx10:=bt_at a0 (ji4);replace p10:=eq_true p10;replace q10:=eq_true q10)|(go_at_call 38;(with_reducible refine (vestryref03_Digit.calls (bt a0 (ji4)) false _ A11.out).mono ?_);rintro e w' ⟨rfl,⟨nd,rfl⟩⟩))
              go_ret
              exact⟨by first|rfl|(simp;done)|(simp only[← hji4] <;> (first|rfl|simp))|(simp[*];done),by repeat (first|exact Drawn0.refl _|apply Drawn0.step)⟩
          · rw[if_neg c9] at H
            have c9b0:decide (0<x5_1)=false:=decide_eq_false c9
            clear c9
            obtain rfl:=Option.some.inj H
            have p6:0≤((ji4):Int):=of_decide_eq_true (by first|(with_reducible assumption)|assumption)
            have q6:(ji4)<(a0.size:Int):=of_decide_eq_true (by first|(with_reducible assumption)|assumption)
            have hx6:=bt_at a0 (ji4)
            replace p6:=eq_true p6
            replace q6:=eq_true q6
            go_wp2_with (first|(go_at_call 70;(with_reducible refine (vestryref03_Letter.calls (bt a0 (ji4)) false _ A7.out).mono ?_);rintro e w' ⟨rfl,⟨nd,rfl⟩⟩))
            go_ret
            exact⟨by first|rfl|(simp;done)|(simp only[← hji4] <;> (first|rfl|simp))|(simp[*];done),by repeat (first|exact Drawn0.refl _|apply Drawn0.step)⟩
      · rw[if_neg c5] at H
        exact absurd H (by simp)
    · rw[if_neg c3] at H
      have c3b0:decide ((wrap64 (a1+x5_1))<(a0.size:Int))=false:=decide_eq_false c3
      clear c3
      obtain rfl:=Option.some.inj H
      go_wp2
      go_ret
      exact⟨by first|rfl|(simp;done)|(simp[*];done),by repeat (first|exact Drawn0.refl _|apply Drawn0.step)⟩
def vestryref08_name.l0:Nat→ByteArray→Int→Int→Option (Int)
 | 0,_,_,_=>none
 | k+1,x0,x1,x5=>if x5 > 0 then ((vestryref08_at.f x0 (wrap64 (x1+x5)) (⟨#[46]⟩:ByteArray)).bind fun t108=>(if t108=true then ((vestryref08_word.f k x0 (wrap64 ((wrap64 (x1+x5))+1))).bind fun t109=>(if t109 > 0 then ((vestryref08_word.f k x0 (wrap64 ((wrap64 (x1+x5))+1))).bind fun t110=>(vestryref08_name.l0 k x0 x1 (wrap64 (x5+(wrap64 (1+t110)))))) else (some x5))) else (some x5))) else (some x5)
def vestryref08_name.f (k:Nat) (a0:ByteArray) (a1:Int):Option (Int):=(vestryref08_word.f k a0 a1).bind fun t107=>(vestryref08_name.l0 k a0 a1 t107)
theorem vestryref08_name.calls (k:Nat) (a0:ByteArray) (a1:Int) (r:Int) (w:World) (h:vestryref08_name.f k a0 a1=some r) :
    Calls Try.prog 37 #[.string a0,.int .i64 a1] w fun e w'=>e=.returned (.int .i64 r)∧Drawn0 w w':=by
 have H:((vestryref08_word.f k a0 a1).bind fun t107=>(vestryref08_name.l0 k a0 a1 t107))=some r:=h
 clear h
 replace H:=Option.bind_eq_some_iff.mp H
 obtain⟨t107,A30,H⟩:=H
 replace H:(vestryref08_name.l0 k a0 a1 t107)=some r:=H
 have A3:=Aside0.mk A30
 clear A30
 have H':=Aside0.mk H
 clear H
 go_enter Try.func37,Try.ntmps37
 go_wp2_with (first|((with_reducible refine gate_callee (f:=69) rfl ?_);refine goesL_ (some 8) rfl rfl Try.func69 (by kernel_rfl) rfl #[.string a0,.int .i64 a1] rfl (by (try simp only[List.map_toArray,List.map_cons,List.map_nil]);first|done|rfl|(simp only[List.length_drop,List.length_take];rfl)) ?_;(with_reducible refine (vestryref08_word.calls k a0 a1 t107 _ A3.out).mono ?_);rintro e w' ⟨rfl,⟨nd,rfl⟩⟩;refine⟨_,rfl,?_⟩))
 go_loopg [5] k (fun kq v5 w'=>∃ (x5_1:Int),v5=.int .i64 x5_1∧Aside0 (vestryref08_name.l0 kq a0 a1 x5_1=some r)∧Aside0 (kq≤k)∧Drawn0 w w')
 case atStart=>exact⟨(t107),(by first|rfl|(simp;done)|(simp[*];done)),H',⟨Nat.le_refl _⟩,by repeat (first|exact Drawn0.refl _|apply Drawn0.step)⟩
 case round=>
  clear H'
  try clear p2
  try clear c3
  obtain⟨x5_1,rfl,HA,HK1,⟨m1,rfl⟩⟩:=hrel
  cases gk with
  | zero=>exact absurd HA.out (by simp[vestryref08_name.l0])
  | succ k1=>
    have H:=HA.out
    clear HA
    simp only[vestryref08_name.l0] at H
    by_cases c4:x5_1 > 0
    · rw[if_pos c4] at H
      have c4b0:decide (0<x5_1)=true:=decide_eq_true c4
      clear c4
      replace H:=Option.bind_eq_some_iff.mp H
      obtain⟨t108,A50,H⟩:=H
      replace H:(if t108=true then ((vestryref08_word.f k1 a0 (wrap64 ((wrap64 (a1+x5_1))+1))).bind fun t109=>(if t109 > 0 then ((vestryref08_word.f k1 a0 (wrap64 ((wrap64 (a1+x5_1))+1))).bind fun t110=>(vestryref08_name.l0 k1 a0 a1 (wrap64 (x5_1+(wrap64 (1+t110)))))) else (some x5_1))) else (some x5_1))=some r:=H
      have A5:=Aside0.mk A50
      clear A50
      by_cases c6:t108=true
      · subst c6
        have H1:((vestryref08_word.f k1 a0 (wrap64 ((wrap64 (a1+x5_1))+1))).bind fun t109=>(if t109 > 0 then ((vestryref08_word.f k1 a0 (wrap64 ((wrap64 (a1+x5_1))+1))).bind fun t110=>(vestryref08_name.l0 k1 a0 a1 (wrap64 (x5_1+(wrap64 (1+t110)))))) else (some x5_1)))=some r:=by rw[if_pos rfl] at H;exact H
        clear H
        have H:=H1
        clear H1
        replace H:=Option.bind_eq_some_iff.mp H
        obtain⟨t109,A70,H⟩:=H
        replace H:(if t109 > 0 then ((vestryref08_word.f k1 a0 (wrap64 ((wrap64 (a1+x5_1))+1))).bind fun t110=>(vestryref08_name.l0 k1 a0 a1 (wrap64 (x5_1+(wrap64 (1+t110)))))) else (some x5_1))=some r:=H
        have A7:=Aside0.mk A70
        clear A70
        by_cases c8:t109 > 0
        · rw[if_pos c8] at H
          have c8b0:decide (0<t109)=true:=decide_eq_true c8
          clear c8
          replace H:=Option.bind_eq_some_iff.mp H
          obtain⟨t110,A90,H⟩:=H
          replace H:(vestryref08_name.l0 k1 a0 a1 (wrap64 (x5_1+(wrap64 (1+t110)))))=some r:=H
          have A9:=Aside0.mk A90
          clear A90
          have H':=Aside0.mk H
          clear H
          go_wp2_with (first|(go_at_call 68;(with_reducible refine (vestryref08_at.calls a0 (wrap64 (a1+x5_1)) (⟨#[46]⟩:ByteArray) true _ A5.out).mono ?_);rintro e w' ⟨rfl,⟨nd,rfl⟩⟩)|(go_at_call 69;(with_reducible refine (vestryref08_word.calls k1 a0 (wrap64 ((wrap64 (a1+x5_1))+1)) t109 _ A7.out).mono ?_);rintro e w' ⟨rfl,⟨nd,rfl⟩⟩)|((with_reducible refine gate_callee (f:=69) rfl ?_);refine goesL_ (some 33) rfl rfl Try.func69 (by kernel_rfl) rfl #[.string a0,.int .i64 (wrap64 ((wrap64 (a1+x5_1))+1))] rfl (by (try simp only[List.map_toArray,List.map_cons,List.map_nil]);first|done|rfl|(simp only[List.length_drop,List.length_take];rfl)) ?_;(with_reducible refine (vestryref08_word.calls k1 a0 (wrap64 ((wrap64 (a1+x5_1))+1)) t110 _ A9.out).mono ?_);rintro e w' ⟨rfl,⟨nd,rfl⟩⟩;refine⟨_,rfl,?_⟩))
          go_roundg k1
          case measure=>have:=HK1.out;omega
          case rel=>exact⟨(wrap64 (x5_1+(wrap64 (1+t110)))),(by first|rfl|(simp;done)|(simp[*];done)),H',⟨by have:=HK1.out;omega⟩,by repeat (first|exact Drawn0.refl _|apply Drawn0.step)⟩
        · rw[if_neg c8] at H
          have c8b0:decide (0<t109)=false:=decide_eq_false c8
          clear c8
          obtain rfl:=Option.some.inj H
          go_wp2_with (first|(go_at_call 68;(with_reducible refine (vestryref08_at.calls a0 (wrap64 (a1+x5_1)) (⟨#[46]⟩:ByteArray) true _ A5.out).mono ?_);rintro e w' ⟨rfl,⟨nd,rfl⟩⟩)|(go_at_call 69;(with_reducible refine (vestryref08_word.calls k1 a0 (wrap64 ((wrap64 (a1+x5_1))+1)) t109 _ A7.out).mono ?_);rintro e w' ⟨rfl,⟨nd,rfl⟩⟩))
          go_ret
          exact⟨by first|rfl|(simp;done)|(simp[*];done),by repeat (first|exact Drawn0.refl _|apply Drawn0.step)⟩
      · replace c6:=Bool.eq_false_iff.mpr c6
        subst c6
        have H1:(some x5_1)=some r:=by rw[if_neg (show ¬(false=true) by decide)] at H;exact H
        clear H
        have H:=H1
        clear H1
        obtain rfl:=Option.some.inj H
        go_wp2_with (first|(go_at_call 68;(with_reducible refine (vestryref08_at.calls a0 (wrap64 (a1+x5_1)) (⟨#[46]⟩:ByteArray) false _ A5.out).mono ?_);rintro e w' ⟨rfl,⟨nd,rfl⟩⟩))
        go_ret
        exact⟨by first|rfl|(simp;done)|(simp[*];done),by repeat (first|exact Drawn0.refl _|apply Drawn0.step)⟩
    · rw[if_neg c4] at H
      have c4b0:decide (0<x5_1)=false:=decide_eq_false c4
      clear c4
      obtain rfl:=Option.some.inj H
      go_wp2
      go_ret
      exact⟨by first|rfl|(simp;done)|(simp[*];done),by repeat (first|exact Drawn0.refl _|apply Drawn0.step)⟩
end Go.Proofs.Ytddmceldglelkaa.PTokens
