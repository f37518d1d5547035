/- A claim's texts, in the order of what they need: QTokensx5, LexRefTok. -/
import Derived.Test.YtddmceldglelkaaBCompApart3
import Derived.Test.YtddmceldglelkaaBCompApart4
import Derived.Test.YtddmceldglelkaaBCompApart5
import Derived.Test.YtddmceldglelkaaBCompApart6
import Derived.Lib.IndexBytes
import Derived.Lib.Hide
set_option maxRecDepth 100000
set_option maxHeartbeats 8000000
set_option linter.unusedVariables false
set_option linter.unusedSimpArgs false
set_option linter.unusedSectionVars false
namespace Go.Proofs.Ytddmceldglelkaa.PTokens
open Go.RowKit YtddmceldglelkaaW.PrintWords YtddmceldglelkaaW.PrintLast YtddmceldglelkaaW.PrintMore
attribute [local go_sem] max2_int min2_int max_two min_two max_three min_three max_four min_four
set_option linter.unusedVariables false
set_option linter.unusedSimpArgs false
/-! ### vestryref08_sign: function 41 -/
mutual
def vestryref08_sign.l0:Nat→ByteArray→Int→List ByteArray→Int→Int→Option (ByteArray)
 | 0,_,_,_,_,_=>none
 | k+1,x0,x1,x11,x12,x13=>if x13<x12 then (if 0≤x13 then (if x13<(x11.length:Int) then ((vestryref08_at.f x0 x1 (rdOf ByteArray.empty x11 x13)).bind fun t146=>(if t146=true then ((vestryref08_word.f k x0 (wrap64 (x1+1))).bind fun t147=>(if t147=4 then (some (rdOf ByteArray.empty x11 x13)) else (vestryref08_sign.l0 k x0 x1 x11 x12 (wrap64 (x13+1))))) else (vestryref08_sign.l0 k x0 x1 x11 x12 (wrap64 (x13+1))))) else (none)) else (none)) else ((some (([(⟨#[58,45]⟩:ByteArray),(⟨#[60,58]⟩:ByteArray),(⟨#[60,61]⟩:ByteArray),(⟨#[62,61]⟩:ByteArray),(⟨#[33,61]⟩:ByteArray)]:List ByteArray):List ByteArray)).bind fun y148=>(vestryref08_sign.l1 k x0 x1 y148 (y148.length:Int) 0))
def vestryref08_sign.l1:Nat→ByteArray→Int→List ByteArray→Int→Int→Option (ByteArray)
 | 0,_,_,_,_,_=>none
 | k+1,x0,x1,x30,x31,x32=>if x32<x31 then (if 0≤x32 then (if x32<(x30.length:Int) then ((vestryref08_at.f x0 x1 (rdOf ByteArray.empty x30 x32)).bind fun t152=>(if t152=true then (some (rdOf ByteArray.empty x30 x32)) else (vestryref08_sign.l1 k x0 x1 x30 x31 (wrap64 (x32+1))))) else (none)) else (none)) else (vestryref08_sign.l2 k x0 x1 (⟨#[40,41,123,125,44,46,58,124,33,61,60,62,43,45,42,47,37,36]⟩:ByteArray) 0)
def vestryref08_sign.l2:Nat→ByteArray→Int→ByteArray→Int→Option (ByteArray)
 | 0,_,_,_,_=>none
 | k+1,x0,x1,x9,x10=>if x10<(x9.size:Int) then (if 0≤x1 then (if x1<(x0.size:Int) then (if 0≤x10 then (if (bt x0 x1)=(bt x9 x10) then (if x1≤(wrap64 (x1+1)) then (if (wrap64 (x1+1))≤(x0.size:Int) then (some (x0.extract (x1:Int).toNat ((wrap64 (x1+1)):Int).toNat)) else (none)) else (none)) else (vestryref08_sign.l2 k x0 x1 x9 (wrap64 (x10+1)))) else (none)) else (none)) else (none)) else (some (⟨#[]⟩:ByteArray))
end
def vestryref08_sign.f (k:Nat) (a0:ByteArray) (a1:Int):Option (ByteArray):=(some (([(⟨#[46,100,101,99,108]⟩:ByteArray),(⟨#[46,116,121,112,101]⟩:ByteArray),(⟨#[46,99,111,109,112]⟩:ByteArray),(⟨#[46,105,110,105,116]⟩:ByteArray)]:List ByteArray):List ByteArray)).bind fun y142=>(vestryref08_sign.l0 k a0 a1 y142 (y142.length:Int) 0)
theorem vestryref08_sign.calls (k:Nat) (a0:ByteArray) (a1:Int) (r:ByteArray) (w:World) (h:vestryref08_sign.f k a0 a1=some r) :
    Calls Try.prog 41 #[.string a0,.int .i64 a1] w fun e w'=>e=.returned (.string r)∧Below w.heap.size w w':=by
 have HB:=Aside0.mk (Below.refl w.heap.size w)
 have H:((some (([(⟨#[46,100,101,99,108]⟩:ByteArray),(⟨#[46,116,121,112,101]⟩:ByteArray),(⟨#[46,99,111,109,112]⟩:ByteArray),(⟨#[46,105,110,105,116]⟩:ByteArray)]:List ByteArray):List ByteArray)).bind fun y142=>(vestryref08_sign.l0 k a0 a1 y142 (y142.length:Int) 0))=some r:=h
 clear h
 obtain⟨y142,hy142⟩:∃ y_:List ByteArray,y_=(([(⟨#[46,100,101,99,108]⟩:ByteArray),(⟨#[46,116,121,112,101]⟩:ByteArray),(⟨#[46,99,111,109,112]⟩:ByteArray),(⟨#[46,105,110,105,116]⟩:ByteArray)]:List ByteArray)):=⟨_,rfl⟩
 replace H:(vestryref08_sign.l0 k a0 a1 y142 (y142.length:Int) 0)=some r:=by first|(rw[hy142];with_reducible exact H)|(have H2_:=(Option.bind_some _ _).symm.trans H;rw[hy142];with_reducible exact H2_)|(have H2_:=(Option.bind_some _ _).symm.trans H;with_reducible exact H2_)|with_reducible exact H|(rw[hy142];exact H)|exact H
 have Ny142:=Aside0.mk hy142
 clear hy142
 have H':=Aside0.mk H
 clear H
 go_enter Try.func41,Try.ntmps41
 go_wp2_with (first|((with_reducible refine gate_dst (N:=11) rfl ?_);refine Kd.R_lit Kd.string _ 9 ?hg (N:=11) ?hd (xs:=([(⟨#[46,100,101,99,108]⟩:ByteArray),(⟨#[46,116,121,112,101]⟩:ByteArray),(⟨#[46,99,111,109,112]⟩:ByteArray),(⟨#[46,105,110,105,116]⟩:ByteArray)]:List ByteArray)) (inner:=[.string (⟨#[46,100,101,99,108]⟩:ByteArray),.string (⟨#[46,116,121,112,101]⟩:ByteArray),.string (⟨#[46,99,111,109,112]⟩:ByteArray),.string (⟨#[46,105,110,105,116]⟩:ByteArray)]) (ok:=fun _=>True) (okp:=fun _=>True) ?hr ?hp (fun _ hk=>hk) trivial (Below.refl _ _) (Nat.le_refl _) (by simp) ?_;(case hd=>rfl);(case hg=>rfl);(case hr=>first|(go_simp;done)|(go_simp;rfl));(case hp=>exact (Reps.one (show Kd.M Kd.string _ _ _ (⟨#[46,100,101,99,108]⟩:ByteArray) [.string (⟨#[46,100,101,99,108]⟩:ByteArray)] from rfl) (Reps.one (show Kd.M Kd.string _ _ _ (⟨#[46,116,121,112,101]⟩:ByteArray) [.string (⟨#[46,116,121,112,101]⟩:ByteArray)] from rfl) (Reps.one (show Kd.M Kd.string _ _ _ (⟨#[46,99,111,109,112]⟩:ByteArray) [.string (⟨#[46,99,111,109,112]⟩:ByteArray)] from rfl) (Reps.one (show Kd.M Kd.string _ _ _ (⟨#[46,105,110,105,116]⟩:ByteArray) [.string (⟨#[46,105,110,105,116]⟩:ByteArray)] from rfl) (Reps.none _ _))))));intro v143 w3 ho4 hb hg_ hnew_;clear hg_ hnew_;(first|rw[← Ny142.out] at ho4|(simp only[Int.reduceToNat] at ho4;rw[← Ny142.out] at ho4));have n0_:=Aside0.mk (Kd.R_lower ho4 (below_size (by repeat (first|(with_reducible first|exact HB.out|apply below_alloc|apply pw_below_drewN|apply below_drew1)|exact HB.out))));have n1_:=Aside0.mk (below_step (by repeat (first|(with_reducible first|exact HB.out|apply below_alloc|apply pw_below_drewN|apply below_drew1)|exact HB.out)) hb);clear HB;have HO144:=n0_;have HB:=n1_;clear n0_ n1_;clear hb ho4;obtain⟨Ao5,co5,eo5⟩:=Kd.R_slice HO144.out;subst eo5))
 repeat (go_quiet (first|((with_reducible refine gate_dst (N:=11) rfl ?_);refine Kd.R_lit Kd.string _ 9 ?hg (N:=11) ?hd (xs:=([(⟨#[46,100,101,99,108]⟩:ByteArray),(⟨#[46,116,121,112,101]⟩:ByteArray),(⟨#[46,99,111,109,112]⟩:ByteArray),(⟨#[46,105,110,105,116]⟩:ByteArray)]:List ByteArray)) (inner:=[.string (⟨#[46,100,101,99,108]⟩:ByteArray),.string (⟨#[46,116,121,112,101]⟩:ByteArray),.string (⟨#[46,99,111,109,112]⟩:ByteArray),.string (⟨#[46,105,110,105,116]⟩:ByteArray)]) (ok:=fun _=>True) (okp:=fun _=>True) ?hr ?hp (fun _ hk=>hk) trivial (Below.refl _ _) (Nat.le_refl _) (by simp) ?_;(case hd=>rfl);(case hg=>rfl);(case hr=>first|(go_simp;done)|(go_simp;rfl));(case hp=>exact (Reps.one (show Kd.M Kd.string _ _ _ (⟨#[46,100,101,99,108]⟩:ByteArray) [.string (⟨#[46,100,101,99,108]⟩:ByteArray)] from rfl) (Reps.one (show Kd.M Kd.string _ _ _ (⟨#[46,116,121,112,101]⟩:ByteArray) [.string (⟨#[46,116,121,112,101]⟩:ByteArray)] from rfl) (Reps.one (show Kd.M Kd.string _ _ _ (⟨#[46,99,111,109,112]⟩:ByteArray) [.string (⟨#[46,99,111,109,112]⟩:ByteArray)] from rfl) (Reps.one (show Kd.M Kd.string _ _ _ (⟨#[46,105,110,105,116]⟩:ByteArray) [.string (⟨#[46,105,110,105,116]⟩:ByteArray)] from rfl) (Reps.none _ _))))));intro v143 w3 ho4 hb hg_ hnew_;clear hg_ hnew_;(first|rw[← Ny142.out] at ho4|(simp only[Int.reduceToNat] at ho4;rw[← Ny142.out] at ho4));have n0_:=Aside0.mk (Kd.R_lower ho4 (below_size (by repeat (first|(with_reducible first|exact HB.out|apply below_alloc|apply pw_below_drewN|apply below_drew1)|exact HB.out))));have n1_:=Aside0.mk (below_step (by repeat (first|(with_reducible first|exact HB.out|apply below_alloc|apply pw_below_drewN|apply below_drew1)|exact HB.out)) hb);clear HB;have HO144:=n0_;have HB:=n1_;clear n0_ n1_;clear hb ho4;obtain⟨Ao5,co5,eo5⟩:=Kd.R_slice HO144.out;subst eo5));try go_wp2_with (first|((with_reducible refine gate_dst (N:=11) rfl ?_);refine Kd.R_lit Kd.string _ 9 ?hg (N:=11) ?hd (xs:=([(⟨#[46,100,101,99,108]⟩:ByteArray),(⟨#[46,116,121,112,101]⟩:ByteArray),(⟨#[46,99,111,109,112]⟩:ByteArray),(⟨#[46,105,110,105,116]⟩:ByteArray)]:List ByteArray)) (inner:=[.string (⟨#[46,100,101,99,108]⟩:ByteArray),.string (⟨#[46,116,121,112,101]⟩:ByteArray),.string (⟨#[46,99,111,109,112]⟩:ByteArray),.string (⟨#[46,105,110,105,116]⟩:ByteArray)]) (ok:=fun _=>True) (okp:=fun _=>True) ?hr ?hp (fun _ hk=>hk) trivial (Below.refl _ _) (Nat.le_refl _) (by simp) ?_;(case hd=>rfl);(case hg=>rfl);(case hr=>first|(go_simp;done)|(go_simp;rfl));(case hp=>exact (Reps.one (show Kd.M Kd.string _ _ _ (⟨#[46,100,101,99,108]⟩:ByteArray) [.string (⟨#[46,100,101,99,108]⟩:ByteArray)] from rfl) (Reps.one (show Kd.M Kd.string _ _ _ (⟨#[46,116,121,112,101]⟩:ByteArray) [.string (⟨#[46,116,121,112,101]⟩:ByteArray)] from rfl) (Reps.one (show Kd.M Kd.string _ _ _ (⟨#[46,99,111,109,112]⟩:ByteArray) [.string (⟨#[46,99,111,109,112]⟩:ByteArray)] from rfl) (Reps.one (show Kd.M Kd.string _ _ _ (⟨#[46,105,110,105,116]⟩:ByteArray) [.string (⟨#[46,105,110,105,116]⟩:ByteArray)] from rfl) (Reps.none _ _))))));intro v143 w3 ho4 hb hg_ hnew_;clear hg_ hnew_;(first|rw[← Ny142.out] at ho4|(simp only[Int.reduceToNat] at ho4;rw[← Ny142.out] at ho4));have n0_:=Aside0.mk (Kd.R_lower ho4 (below_size (by repeat (first|(with_reducible first|exact HB.out|apply below_alloc|apply pw_below_drewN|apply below_drew1)|exact HB.out))));have n1_:=Aside0.mk (below_step (by repeat (first|(with_reducible first|exact HB.out|apply below_alloc|apply pw_below_drewN|apply below_drew1)|exact HB.out)) hb);clear HB;have HO144:=n0_;have HB:=n1_;clear n0_ n1_;clear hb ho4;obtain⟨Ao5,co5,eo5⟩:=Kd.R_slice HO144.out;subst eo5)))
 go_loopg [13] k (fun kq v13 w'=>∃ (x13_1:Int),v13=.int .i64 x13_1∧Aside0 (vestryref08_sign.l0 kq a0 a1 y142 (y142.length:Int) x13_1=some r)∧Aside0 (kq≤k)∧Aside0 (Kd.R Kd.string 9 w' w.heap.size (fun _=>True) (.slice Ao5 y142.length co5) y142)∧Aside0 (Below w.heap.size w w'))
 case atStart=>exact⟨(0),(by first|rfl|(simp;done)|(simp[*];done)),H',⟨Nat.le_refl _⟩,⟨by (with_reducible repeat (first|apply Kd.R_alloc|apply Kd.R_drewN|apply Kd.R_drew));exact HO144.out⟩,⟨by repeat (first|(with_reducible first|exact HB.out|apply below_alloc|apply pw_below_drewN|apply below_drew1)|exact HB.out)⟩⟩
 case round=>
  clear H'
  try clear p2
  try clear c4
  obtain⟨x13_1,rfl,HA,HK1,HO_11,HB⟩:=hrel
  cases gk with
  | zero=>exact absurd HA.out (by simp[vestryref08_sign.l0])
  | succ k1=>
    have H:=HA.out
    clear HA
    simp only[vestryref08_sign.l0] at H
    by_cases c6:x13_1<(y142.length:Int)
    · rw[if_pos c6] at H
      have c6b0:decide (x13_1<(y142.length:Int))=true:=decide_eq_true c6
      clear c6
      by_cases c7:0≤x13_1
      · rw[if_pos c7] at H
        have c7b0:decide (0≤x13_1)=true:=decide_eq_true c7
        clear c7
        by_cases c8:x13_1<(y142.length:Int)
        · rw[if_pos c8] at H
          have c8b0:decide (x13_1<(y142.length:Int))=true:=decide_eq_true c8
          clear c8
          replace H:=Option.bind_eq_some_iff.mp H
          obtain⟨t146,A90,H⟩:=H
          replace H:(if t146=true then ((vestryref08_word.f k1 a0 (wrap64 (a1+1))).bind fun t147=>(if t147=4 then (some (rdOf ByteArray.empty y142 x13_1)) else (vestryref08_sign.l0 k1 a0 a1 y142 (y142.length:Int) (wrap64 (x13_1+1))))) else (vestryref08_sign.l0 k1 a0 a1 y142 (y142.length:Int) (wrap64 (x13_1+1))))=some r:=H
          have A9:=Aside0.mk A90
          clear A90
          by_cases c10:t146=true
          · subst c10
            have H1:((vestryref08_word.f k1 a0 (wrap64 (a1+1))).bind fun t147=>(if t147=4 then (some (rdOf ByteArray.empty y142 x13_1)) else (vestryref08_sign.l0 k1 a0 a1 y142 (y142.length:Int) (wrap64 (x13_1+1)))))=some r:=by rw[if_pos rfl] at H;exact H
            clear H
            have H:=H1
            clear H1
            replace H:=Option.bind_eq_some_iff.mp H
            obtain⟨t147,A110,H⟩:=H
            replace H:(if t147=4 then (some (rdOf ByteArray.empty y142 x13_1)) else (vestryref08_sign.l0 k1 a0 a1 y142 (y142.length:Int) (wrap64 (x13_1+1))))=some r:=H
            have A11:=Aside0.mk A110
            clear A110
            by_cases c12:t147=4
            · rw[if_pos c12] at H
              have c12b0:(t147==4)=true:=beq_iff_eq.mpr c12
              have c12b1:(t147 != 4)=false:=bne_eq_false_iff_eq.mpr c12
              clear c12
              obtain rfl:=Option.some.inj H
              have p145:0≤(x13_1:Int):=of_decide_eq_true (by first|(with_reducible assumption)|assumption)
              have q145:x13_1<(y142.length:Int):=of_decide_eq_true (by first|(with_reducible assumption)|assumption)
              obtain⟨ad145,e145,hx145_0⟩:=Kd.at_string (Kd.R_reads' HO_11.out).2.2 x13_1 p145 q145
              cases e145
              replace p145:=eq_true p145
              replace q145:=eq_true q145
              go_wp2_with (first|(go_at_call 68;(with_reducible refine (vestryref08_at.calls a0 a1 (rdOf ByteArray.empty y142 x13_1) true _ A9.out).mono ?_);rintro e w' ⟨rfl,⟨nd,rfl⟩⟩;(try first|exact⟨rfl,_,World.drewN_drewN _ _ _⟩|exact⟨rfl,_,Eq.trans (World.drewN_drewN _ _ _) (congrArg (World.drewN _) (Nat.add_assoc _ _ _))⟩))|(go_at_call 69;(with_reducible refine (vestryref08_word.calls k1 a0 (wrap64 (a1+1)) t147 _ A11.out).mono ?_);rintro e w' ⟨rfl,⟨nd,rfl⟩⟩;(try first|exact⟨rfl,_,World.drewN_drewN _ _ _⟩|exact⟨rfl,_,Eq.trans (World.drewN_drewN _ _ _) (congrArg (World.drewN _) (Nat.add_assoc _ _ _))⟩)))
              repeat (go_quiet (first|(go_at_call 68;(with_reducible refine (vestryref08_at.calls a0 a1 (rdOf ByteArray.empty y142 x13_1) true _ A9.out).mono ?_);rintro e w' ⟨rfl,⟨nd,rfl⟩⟩;(try first|exact⟨rfl,_,World.drewN_drewN _ _ _⟩|exact⟨rfl,_,Eq.trans (World.drewN_drewN _ _ _) (congrArg (World.drewN _) (Nat.add_assoc _ _ _))⟩))|(go_at_call 69;(with_reducible refine (vestryref08_word.calls k1 a0 (wrap64 (a1+1)) t147 _ A11.out).mono ?_);rintro e w' ⟨rfl,⟨nd,rfl⟩⟩;(try first|exact⟨rfl,_,World.drewN_drewN _ _ _⟩|exact⟨rfl,_,Eq.trans (World.drewN_drewN _ _ _) (congrArg (World.drewN _) (Nat.add_assoc _ _ _))⟩)));try go_wp2_with (first|(go_at_call 68;(with_reducible refine (vestryref08_at.calls a0 a1 (rdOf ByteArray.empty y142 x13_1) true _ A9.out).mono ?_);rintro e w' ⟨rfl,⟨nd,rfl⟩⟩;(try first|exact⟨rfl,_,World.drewN_drewN _ _ _⟩|exact⟨rfl,_,Eq.trans (World.drewN_drewN _ _ _) (congrArg (World.drewN _) (Nat.add_assoc _ _ _))⟩))|(go_at_call 69;(with_reducible refine (vestryref08_word.calls k1 a0 (wrap64 (a1+1)) t147 _ A11.out).mono ?_);rintro e w' ⟨rfl,⟨nd,rfl⟩⟩;(try first|exact⟨rfl,_,World.drewN_drewN _ _ _⟩|exact⟨rfl,_,Eq.trans (World.drewN_drewN _ _ _) (congrArg (World.drewN _) (Nat.add_assoc _ _ _))⟩))))
              go_ret
              exact⟨by first|rfl|(simp[errW_none,errW_some] <;> rfl)|(simp[*,errW_none,errW_some] <;> rfl),by repeat (first|(with_reducible first|exact HB.out|apply below_alloc|apply pw_below_drewN|apply below_drew1)|exact HB.out)⟩
            · rw[if_neg c12] at H
              have c12b0:(t147==4)=false:=beq_eq_false_iff_ne.mpr c12
              have c12b1:(t147 != 4)=true:=bne_iff_ne.mpr c12
              have H':=Aside0.mk H
              clear H
              have p145:0≤(x13_1:Int):=of_decide_eq_true (by first|(with_reducible assumption)|assumption)
              have q145:x13_1<(y142.length:Int):=of_decide_eq_true (by first|(with_reducible assumption)|assumption)
              obtain⟨ad145,e145,hx145_0⟩:=Kd.at_string (Kd.R_reads' HO_11.out).2.2 x13_1 p145 q145
              cases e145
              replace p145:=eq_true p145
              replace q145:=eq_true q145
              go_wp2_with (first|(go_at_call 68;(with_reducible refine (vestryref08_at.calls a0 a1 (rdOf ByteArray.empty y142 x13_1) true _ A9.out).mono ?_);rintro e w' ⟨rfl,⟨nd,rfl⟩⟩;(try first|exact⟨rfl,_,World.drewN_drewN _ _ _⟩|exact⟨rfl,_,Eq.trans (World.drewN_drewN _ _ _) (congrArg (World.drewN _) (Nat.add_assoc _ _ _))⟩))|(go_at_call 69;(with_reducible refine (vestryref08_word.calls k1 a0 (wrap64 (a1+1)) t147 _ A11.out).mono ?_);rintro e w' ⟨rfl,⟨nd,rfl⟩⟩;(try first|exact⟨rfl,_,World.drewN_drewN _ _ _⟩|exact⟨rfl,_,Eq.trans (World.drewN_drewN _ _ _) (congrArg (World.drewN _) (Nat.add_assoc _ _ _))⟩)))
              repeat (go_quiet (first|(go_at_call 68;(with_reducible refine (vestryref08_at.calls a0 a1 (rdOf ByteArray.empty y142 x13_1) true _ A9.out).mono ?_);rintro e w' ⟨rfl,⟨nd,rfl⟩⟩;(try first|exact⟨rfl,_,World.drewN_drewN _ _ _⟩|exact⟨rfl,_,Eq.trans (World.drewN_drewN _ _ _) (congrArg (World.drewN _) (Nat.add_assoc _ _ _))⟩))|(go_at_call 69;(with_reducible refine (vestryref08_word.calls k1 a0 (wrap64 (a1+1)) t147 _ A11.out).mono ?_);rintro e w' ⟨rfl,⟨nd,rfl⟩⟩;(try first|exact⟨rfl,_,World.drewN_drewN _ _ _⟩|exact⟨rfl,_,Eq.trans (World.drewN_drewN _ _ _) (congrArg (World.drewN _) (Nat.add_assoc _ _ _))⟩)));try go_wp2_with (first|(go_at_call 68;(with_reducible refine (vestryref08_at.calls a0 a1 (rdOf ByteArray.empty y142 x13_1) true _ A9.out).mono ?_);rintro e w' ⟨rfl,⟨nd,rfl⟩⟩;(try first|exact⟨rfl,_,World.drewN_drewN _ _ _⟩|exact⟨rfl,_,Eq.trans (World.drewN_drewN _ _ _) (congrArg (World.drewN _) (Nat.add_assoc _ _ _))⟩))|(go_at_call 69;(with_reducible refine (vestryref08_word.calls k1 a0 (wrap64 (a1+1)) t147 _ A11.out).mono ?_);rintro e w' ⟨rfl,⟨nd,rfl⟩⟩;(try first|exact⟨rfl,_,World.drewN_drewN _ _ _⟩|exact⟨rfl,_,Eq.trans (World.drewN_drewN _ _ _) (congrArg (World.drewN _) (Nat.add_assoc _ _ _))⟩))))
              go_roundg k1
              case measure=>have:=HK1.out;omega
              case rel=>exact⟨(wrap64 (x13_1+1)),(by first|rfl|(simp;done)|(simp[*];done)),H',⟨by have:=HK1.out;omega⟩,⟨by (with_reducible repeat (first|apply Kd.R_alloc|apply Kd.R_drewN|apply Kd.R_drew));exact HO_11.out⟩,⟨by repeat (first|(with_reducible first|exact HB.out|apply below_alloc|apply pw_below_drewN|apply below_drew1)|exact HB.out)⟩⟩
          · replace c10:=Bool.eq_false_iff.mpr c10
            subst c10
            have H1:(vestryref08_sign.l0 k1 a0 a1 y142 (y142.length:Int) (wrap64 (x13_1+1)))=some r:=by rw[if_neg (show ¬(false=true) by decide)] at H;exact H
            clear H
            have H:=H1
            clear H1
            have H':=Aside0.mk H
            clear H
            have p145:0≤(x13_1:Int):=of_decide_eq_true (by first|(with_reducible assumption)|assumption)
            have q145:x13_1<(y142.length:Int):=of_decide_eq_true (by first|(with_reducible assumption)|assumption)
            obtain⟨ad145,e145,hx145_0⟩:=Kd.at_string (Kd.R_reads' HO_11.out).2.2 x13_1 p145 q145
            cases e145
            replace p145:=eq_true p145
            replace q145:=eq_true q145
            go_wp2_with (first|(go_at_call 68;(with_reducible refine (vestryref08_at.calls a0 a1 (rdOf ByteArray.empty y142 x13_1) false _ A9.out).mono ?_);rintro e w' ⟨rfl,⟨nd,rfl⟩⟩;(try first|exact⟨rfl,_,World.drewN_drewN _ _ _⟩|exact⟨rfl,_,Eq.trans (World.drewN_drewN _ _ _) (congrArg (World.drewN _) (Nat.add_assoc _ _ _))⟩)))
            repeat (go_quiet (first|(go_at_call 68;(with_reducible refine (vestryref08_at.calls a0 a1 (rdOf ByteArray.empty y142 x13_1) false _ A9.out).mono ?_);rintro e w' ⟨rfl,⟨nd,rfl⟩⟩;(try first|exact⟨rfl,_,World.drewN_drewN _ _ _⟩|exact⟨rfl,_,Eq.trans (World.drewN_drewN _ _ _) (congrArg (World.drewN _) (Nat.add_assoc _ _ _))⟩)));try go_wp2_with (first|(go_at_call 68;(with_reducible refine (vestryref08_at.calls a0 a1 (rdOf ByteArray.empty y142 x13_1) false _ A9.out).mono ?_);rintro e w' ⟨rfl,⟨nd,rfl⟩⟩;(try first|exact⟨rfl,_,World.drewN_drewN _ _ _⟩|exact⟨rfl,_,Eq.trans (World.drewN_drewN _ _ _) (congrArg (World.drewN _) (Nat.add_assoc _ _ _))⟩))))
            go_roundg k1
            case measure=>have:=HK1.out;omega
            case rel=>exact⟨(wrap64 (x13_1+1)),(by first|rfl|(simp;done)|(simp[*];done)),H',⟨by have:=HK1.out;omega⟩,⟨by (with_reducible repeat (first|apply Kd.R_alloc|apply Kd.R_drewN|apply Kd.R_drew));exact HO_11.out⟩,⟨by repeat (first|(with_reducible first|exact HB.out|apply below_alloc|apply pw_below_drewN|apply below_drew1)|exact HB.out)⟩⟩
        · rw[if_neg c8] at H
          exact absurd H (by simp)
      · rw[if_neg c7] at H
        exact absurd H (by simp)
    · rw[if_neg c6] at H
      have c6b0:decide (x13_1<(y142.length:Int))=false:=decide_eq_false c6
      clear c6
      obtain⟨y148,hy148⟩:∃ y_:List ByteArray,y_=(([(⟨#[58,45]⟩:ByteArray),(⟨#[60,58]⟩:ByteArray),(⟨#[60,61]⟩:ByteArray),(⟨#[62,61]⟩:ByteArray),(⟨#[33,61]⟩:ByteArray)]:List ByteArray)):=⟨_,rfl⟩
      replace H:(vestryref08_sign.l1 k1 a0 a1 y148 (y148.length:Int) 0)=some r:=by first|(rw[hy148];with_reducible exact H)|(have H2_:=(Option.bind_some _ _).symm.trans H;rw[hy148];with_reducible exact H2_)|(have H2_:=(Option.bind_some _ _).symm.trans H;with_reducible exact H2_)|with_reducible exact H|(rw[hy148];exact H)|exact H
      have Ny148:=Aside0.mk hy148
      clear hy148
      have H':=Aside0.mk H
      clear H
      go_wp2_with (first|((with_reducible refine gate_dst (N:=30) rfl ?_);refine Kd.R_lit Kd.string _ 9 ?hg (N:=30) ?hd (xs:=([(⟨#[58,45]⟩:ByteArray),(⟨#[60,58]⟩:ByteArray),(⟨#[60,61]⟩:ByteArray),(⟨#[62,61]⟩:ByteArray),(⟨#[33,61]⟩:ByteArray)]:List ByteArray)) (inner:=[.string (⟨#[58,45]⟩:ByteArray),.string (⟨#[60,58]⟩:ByteArray),.string (⟨#[60,61]⟩:ByteArray),.string (⟨#[62,61]⟩:ByteArray),.string (⟨#[33,61]⟩:ByteArray)]) (ok:=fun _=>True) (okp:=fun _=>True) ?hr ?hp (fun _ hk=>hk) trivial (Below.refl _ _) (Nat.le_refl _) (by simp) ?_;(case hd=>rfl);(case hg=>rfl);(case hr=>first|(go_simp;done)|(go_simp;rfl));(case hp=>exact (Reps.one (show Kd.M Kd.string _ _ _ (⟨#[58,45]⟩:ByteArray) [.string (⟨#[58,45]⟩:ByteArray)] from rfl) (Reps.one (show Kd.M Kd.string _ _ _ (⟨#[60,58]⟩:ByteArray) [.string (⟨#[60,58]⟩:ByteArray)] from rfl) (Reps.one (show Kd.M Kd.string _ _ _ (⟨#[60,61]⟩:ByteArray) [.string (⟨#[60,61]⟩:ByteArray)] from rfl) (Reps.one (show Kd.M Kd.string _ _ _ (⟨#[62,61]⟩:ByteArray) [.string (⟨#[62,61]⟩:ByteArray)] from rfl) (Reps.one (show Kd.M Kd.string _ _ _ (⟨#[33,61]⟩:ByteArray) [.string (⟨#[33,61]⟩:ByteArray)] from rfl) (Reps.none _ _)))))));intro v149 w13 ho14 hb hg_ hnew_;clear hg_ hnew_;(first|rw[← Ny148.out] at ho14|(simp only[Int.reduceToNat] at ho14;rw[← Ny148.out] at ho14));have n0_:=Aside0.mk (Kd.R_elder' (by (with_reducible repeat (first|apply Kd.R_alloc|apply Kd.R_drewN|apply Kd.R_drew));exact HO_11.out) (Kd.R_base ho14) hb);have n1_:=Aside0.mk (Kd.R_lower (Kd.R_new' ho14 (Kd.R_lt (by (with_reducible repeat (first|apply Kd.R_alloc|apply Kd.R_drewN|apply Kd.R_drew));exact HO_11.out))) (below_size (by repeat (first|(with_reducible first|exact HB.out|apply below_alloc|apply pw_below_drewN|apply below_drew1)|exact HB.out))));have n2_:=Aside0.mk (below_step (by repeat (first|(with_reducible first|exact HB.out|apply below_alloc|apply pw_below_drewN|apply below_drew1)|exact HB.out)) hb);clear HO_11;clear HB;have HO_11:=n0_;have HO150:=n1_;have HB:=n2_;clear n0_ n1_ n2_;clear hb ho14;obtain⟨Ao15,co15,eo15⟩:=Kd.R_slice HO150.out;subst eo15))
      repeat (go_quiet (first|((with_reducible refine gate_dst (N:=30) rfl ?_);refine Kd.R_lit Kd.string _ 9 ?hg (N:=30) ?hd (xs:=([(⟨#[58,45]⟩:ByteArray),(⟨#[60,58]⟩:ByteArray),(⟨#[60,61]⟩:ByteArray),(⟨#[62,61]⟩:ByteArray),(⟨#[33,61]⟩:ByteArray)]:List ByteArray)) (inner:=[.string (⟨#[58,45]⟩:ByteArray),.string (⟨#[60,58]⟩:ByteArray),.string (⟨#[60,61]⟩:ByteArray),.string (⟨#[62,61]⟩:ByteArray),.string (⟨#[33,61]⟩:ByteArray)]) (ok:=fun _=>True) (okp:=fun _=>True) ?hr ?hp (fun _ hk=>hk) trivial (Below.refl _ _) (Nat.le_refl _) (by simp) ?_;(case hd=>rfl);(case hg=>rfl);(case hr=>first|(go_simp;done)|(go_simp;rfl));(case hp=>exact (Reps.one (show Kd.M Kd.string _ _ _ (⟨#[58,45]⟩:ByteArray) [.string (⟨#[58,45]⟩:ByteArray)] from rfl) (Reps.one (show Kd.M Kd.string _ _ _ (⟨#[60,58]⟩:ByteArray) [.string (⟨#[60,58]⟩:ByteArray)] from rfl) (Reps.one (show Kd.M Kd.string _ _ _ (⟨#[60,61]⟩:ByteArray) [.string (⟨#[60,61]⟩:ByteArray)] from rfl) (Reps.one (show Kd.M Kd.string _ _ _ (⟨#[62,61]⟩:ByteArray) [.string (⟨#[62,61]⟩:ByteArray)] from rfl) (Reps.one (show Kd.M Kd.string _ _ _ (⟨#[33,61]⟩:ByteArray) [.string (⟨#[33,61]⟩:ByteArray)] from rfl) (Reps.none _ _)))))));intro v149 w13 ho14 hb hg_ hnew_;clear hg_ hnew_;(first|rw[← Ny148.out] at ho14|(simp only[Int.reduceToNat] at ho14;rw[← Ny148.out] at ho14));have n0_:=Aside0.mk (Kd.R_elder' (by (with_reducible repeat (first|apply Kd.R_alloc|apply Kd.R_drewN|apply Kd.R_drew));exact HO_11.out) (Kd.R_base ho14) hb);have n1_:=Aside0.mk (Kd.R_lower (Kd.R_new' ho14 (Kd.R_lt (by (with_reducible repeat (first|apply Kd.R_alloc|apply Kd.R_drewN|apply Kd.R_drew));exact HO_11.out))) (below_size (by repeat (first|(with_reducible first|exact HB.out|apply below_alloc|apply pw_below_drewN|apply below_drew1)|exact HB.out))));have n2_:=Aside0.mk (below_step (by repeat (first|(with_reducible first|exact HB.out|apply below_alloc|apply pw_below_drewN|apply below_drew1)|exact HB.out)) hb);clear HO_11;clear HB;have HO_11:=n0_;have HO150:=n1_;have HB:=n2_;clear n0_ n1_ n2_;clear hb ho14;obtain⟨Ao15,co15,eo15⟩:=Kd.R_slice HO150.out;subst eo15));try go_wp2_with (first|((with_reducible refine gate_dst (N:=30) rfl ?_);refine Kd.R_lit Kd.string _ 9 ?hg (N:=30) ?hd (xs:=([(⟨#[58,45]⟩:ByteArray),(⟨#[60,58]⟩:ByteArray),(⟨#[60,61]⟩:ByteArray),(⟨#[62,61]⟩:ByteArray),(⟨#[33,61]⟩:ByteArray)]:List ByteArray)) (inner:=[.string (⟨#[58,45]⟩:ByteArray),.string (⟨#[60,58]⟩:ByteArray),.string (⟨#[60,61]⟩:ByteArray),.string (⟨#[62,61]⟩:ByteArray),.string (⟨#[33,61]⟩:ByteArray)]) (ok:=fun _=>True) (okp:=fun _=>True) ?hr ?hp (fun _ hk=>hk) trivial (Below.refl _ _) (Nat.le_refl _) (by simp) ?_;(case hd=>rfl);(case hg=>rfl);(case hr=>first|(go_simp;done)|(go_simp;rfl));(case hp=>exact (Reps.one (show Kd.M Kd.string _ _ _ (⟨#[58,45]⟩:ByteArray) [.string (⟨#[58,45]⟩:ByteArray)] from rfl) (Reps.one (show Kd.M Kd.string _ _ _ (⟨#[60,58]⟩:ByteArray) [.string (⟨#[60,58]⟩:ByteArray)] from rfl) (Reps.one (show Kd.M Kd.string _ _ _ (⟨#[60,61]⟩:ByteArray) [.string (⟨#[60,61]⟩:ByteArray)] from rfl) (Reps.one (show Kd.M Kd.string _ _ _ (⟨#[62,61]⟩:ByteArray) [.string (⟨#[62,61]⟩:ByteArray)] from rfl) (Reps.one (show Kd.M Kd.string _ _ _ (⟨#[33,61]⟩:ByteArray) [.string (⟨#[33,61]⟩:ByteArray)] from rfl) (Reps.none _ _)))))));intro v149 w13 ho14 hb hg_ hnew_;clear hg_ hnew_;(first|rw[← Ny148.out] at ho14|(simp only[Int.reduceToNat] at ho14;rw[← Ny148.out] at ho14));have n0_:=Aside0.mk (Kd.R_elder' (by (with_reducible repeat (first|apply Kd.R_alloc|apply Kd.R_drewN|apply Kd.R_drew));exact HO_11.out) (Kd.R_base ho14) hb);have n1_:=Aside0.mk (Kd.R_lower (Kd.R_new' ho14 (Kd.R_lt (by (with_reducible repeat (first|apply Kd.R_alloc|apply Kd.R_drewN|apply Kd.R_drew));exact HO_11.out))) (below_size (by repeat (first|(with_reducible first|exact HB.out|apply below_alloc|apply pw_below_drewN|apply below_drew1)|exact HB.out))));have n2_:=Aside0.mk (below_step (by repeat (first|(with_reducible first|exact HB.out|apply below_alloc|apply pw_below_drewN|apply below_drew1)|exact HB.out)) hb);clear HO_11;clear HB;have HO_11:=n0_;have HO150:=n1_;have HB:=n2_;clear n0_ n1_ n2_;clear hb ho14;obtain⟨Ao15,co15,eo15⟩:=Kd.R_slice HO150.out;subst eo15)))
      go_loopg [32] k1 (fun kq v32 w'=>∃ (x32_2:Int),v32=.int .i64 x32_2∧Aside0 (vestryref08_sign.l1 kq a0 a1 y148 (y148.length:Int) x32_2=some r)∧Aside0 (kq≤k1)∧Aside0 (Kd.R Kd.string 9 w' w.heap.size (fun _=>True) (.slice Ao15 y148.length co15) y148)∧Aside0 (Below w.heap.size w w'))
      case atStart=>exact⟨(0),(by first|rfl|(simp;done)|(simp[*];done)),H',⟨Nat.le_refl _⟩,⟨by (with_reducible repeat (first|apply Kd.R_alloc|apply Kd.R_drewN|apply Kd.R_drew));exact Kd.R_mono HO150.out (fun _ hk=>trivial)⟩,⟨by repeat (first|(with_reducible first|exact HB.out|apply below_alloc|apply pw_below_drewN|apply below_drew1)|exact HB.out)⟩⟩
      case round=>
       clear H'
       try clear c1
       try clear p1
       try clear q1
       try clear hx1
       try clear p2
       try clear c4
       try clear c6
       try clear c6b0
       try clear p6
       try clear c7
       try clear c7b0
       try clear c8
       try clear c8b0
       try clear c10
       try clear c12
       try clear c12b0
       try clear c12b1
       try clear p14
       try clear q14
       try clear hx14
       try clear hx145_0
       try clear p145
       try clear p2
       try clear q145
       obtain⟨x32_2,rfl,HA,HK2,HO_30,HB⟩:=hrel
       cases gk with
       | zero=>exact absurd HA.out (by simp[vestryref08_sign.l1])
       | succ k2=>
         have H:=HA.out
         clear HA
         simp only[vestryref08_sign.l1] at H
         by_cases c16:x32_2<(y148.length:Int)
         · rw[if_pos c16] at H
           have c16b0:decide (x32_2<(y148.length:Int))=true:=decide_eq_true c16
           clear c16
           by_cases c17:0≤x32_2
           · rw[if_pos c17] at H
             have c17b0:decide (0≤x32_2)=true:=decide_eq_true c17
             clear c17
             by_cases c18:x32_2<(y148.length:Int)
             · rw[if_pos c18] at H
               have c18b0:decide (x32_2<(y148.length:Int))=true:=decide_eq_true c18
               clear c18
               replace H:=Option.bind_eq_some_iff.mp H
               obtain⟨t152,A190,H⟩:=H
               replace H:(if t152=true then (some (rdOf ByteArray.empty y148 x32_2)) else (vestryref08_sign.l1 k2 a0 a1 y148 (y148.length:Int) (wrap64 (x32_2+1))))=some r:=H
               have A19:=Aside0.mk A190
               clear A190
               by_cases c20:t152=true
               · subst c20
                 have H1:(some (rdOf ByteArray.empty y148 x32_2))=some r:=by rw[if_pos rfl] at H;exact H
                 clear H
                 have H:=H1
                 clear H1
                 obtain rfl:=Option.some.inj H
                 have p151:0≤(x32_2:Int):=of_decide_eq_true (by first|(with_reducible assumption)|assumption)
                 have q151:x32_2<(y148.length:Int):=of_decide_eq_true (by first|(with_reducible assumption)|assumption)
                 obtain⟨ad151,e151,hx151_0⟩:=Kd.at_string (Kd.R_reads' HO_30.out).2.2 x32_2 p151 q151
                 cases e151
                 replace p151:=eq_true p151
                 replace q151:=eq_true q151
                 go_wp2_with (first|(go_at_call 68;(with_reducible refine (vestryref08_at.calls a0 a1 (rdOf ByteArray.empty y148 x32_2) true _ A19.out).mono ?_);rintro e w' ⟨rfl,⟨nd,rfl⟩⟩;(try first|exact⟨rfl,_,World.drewN_drewN _ _ _⟩|exact⟨rfl,_,Eq.trans (World.drewN_drewN _ _ _) (congrArg (World.drewN _) (Nat.add_assoc _ _ _))⟩)))
                 repeat (go_quiet (first|(go_at_call 68;(with_reducible refine (vestryref08_at.calls a0 a1 (rdOf ByteArray.empty y148 x32_2) true _ A19.out).mono ?_);rintro e w' ⟨rfl,⟨nd,rfl⟩⟩;(try first|exact⟨rfl,_,World.drewN_drewN _ _ _⟩|exact⟨rfl,_,Eq.trans (World.drewN_drewN _ _ _) (congrArg (World.drewN _) (Nat.add_assoc _ _ _))⟩)));try go_wp2_with (first|(go_at_call 68;(with_reducible refine (vestryref08_at.calls a0 a1 (rdOf ByteArray.empty y148 x32_2) true _ A19.out).mono ?_);rintro e w' ⟨rfl,⟨nd,rfl⟩⟩;(try first|exact⟨rfl,_,World.drewN_drewN _ _ _⟩|exact⟨rfl,_,Eq.trans (World.drewN_drewN _ _ _) (congrArg (World.drewN _) (Nat.add_assoc _ _ _))⟩))))
                 go_ret
                 exact⟨by first|rfl|(simp[errW_none,errW_some] <;> rfl)|(simp[*,errW_none,errW_some] <;> rfl),by repeat (first|(with_reducible first|exact HB.out|apply below_alloc|apply pw_below_drewN|apply below_drew1)|exact HB.out)⟩
               · replace c20:=Bool.eq_false_iff.mpr c20
                 subst c20
                 have H1:(vestryref08_sign.l1 k2 a0 a1 y148 (y148.length:Int) (wrap64 (x32_2+1)))=some r:=by rw[if_neg (show ¬(false=true) by decide)] at H;exact H
                 clear H
                 have H:=H1
                 clear H1
                 have H':=Aside0.mk H
                 clear H
                 have p151:0≤(x32_2:Int):=of_decide_eq_true (by first|(with_reducible assumption)|assumption)
                 have q151:x32_2<(y148.length:Int):=of_decide_eq_true (by first|(with_reducible assumption)|assumption)
                 obtain⟨ad151,e151,hx151_0⟩:=Kd.at_string (Kd.R_reads' HO_30.out).2.2 x32_2 p151 q151
                 cases e151
                 replace p151:=eq_true p151
                 replace q151:=eq_true q151
                 go_wp2_with (first|(go_at_call 68;(with_reducible refine (vestryref08_at.calls a0 a1 (rdOf ByteArray.empty y148 x32_2) false _ A19.out).mono ?_);rintro e w' ⟨rfl,⟨nd,rfl⟩⟩;(try first|exact⟨rfl,_,World.drewN_drewN _ _ _⟩|exact⟨rfl,_,Eq.trans (World.drewN_drewN _ _ _) (congrArg (World.drewN _) (Nat.add_assoc _ _ _))⟩)))
                 repeat (go_quiet (first|(go_at_call 68;(with_reducible refine (vestryref08_at.calls a0 a1 (rdOf ByteArray.empty y148 x32_2) false _ A19.out).mono ?_);rintro e w' ⟨rfl,⟨nd,rfl⟩⟩;(try first|exact⟨rfl,_,World.drewN_drewN _ _ _⟩|exact⟨rfl,_,Eq.trans (World.drewN_drewN _ _ _) (congrArg (World.drewN _) (Nat.add_assoc _ _ _))⟩)));try go_wp2_with (first|(go_at_call 68;(with_reducible refine (vestryref08_at.calls a0 a1 (rdOf ByteArray.empty y148 x32_2) false _ A19.out).mono ?_);rintro e w' ⟨rfl,⟨nd,rfl⟩⟩;(try first|exact⟨rfl,_,World.drewN_drewN _ _ _⟩|exact⟨rfl,_,Eq.trans (World.drewN_drewN _ _ _) (congrArg (World.drewN _) (Nat.add_assoc _ _ _))⟩))))
                 go_roundg k2
                 case measure=>have:=HK1.out;have:=HK2.out;omega
                 case rel=>exact⟨(wrap64 (x32_2+1)),(by first|rfl|(simp;done)|(simp[*];done)),H',⟨by have:=HK1.out;have:=HK2.out;omega⟩,⟨by (with_reducible repeat (first|apply Kd.R_alloc|apply Kd.R_drewN|apply Kd.R_drew));exact HO_30.out⟩,⟨by repeat (first|(with_reducible first|exact HB.out|apply below_alloc|apply pw_below_drewN|apply below_drew1)|exact HB.out)⟩⟩
             · rw[if_neg c18] at H
               exact absurd H (by simp)
           · rw[if_neg c17] at H
             exact absurd H (by simp)
         · rw[if_neg c16] at H
           have c16b0:decide (x32_2<(y148.length:Int))=false:=decide_eq_false c16
           clear c16
           have H':=Aside0.mk H
           clear H
           go_wp2
           repeat (go_quiet (fail);try go_wp2)
           go_loopg [10] k2 (fun kq v10 w'=>∃ (x10_3:Int),v10=.int .i64 x10_3∧Aside0 (vestryref08_sign.l2 kq a0 a1 (⟨#[40,41,123,125,44,46,58,124,33,61,60,62,43,45,42,47,37,36]⟩:ByteArray) x10_3=some r)∧Aside0 (kq≤k2)∧Aside0 (Below w.heap.size w w'))
           case atStart=>exact⟨(0),(by first|rfl|(simp;done)|(simp[*];done)),H',⟨Nat.le_refl _⟩,⟨by repeat (first|(with_reducible first|exact HB.out|apply below_alloc|apply pw_below_drewN|apply below_drew1)|exact HB.out)⟩⟩
           case round=>
            clear H'
            try clear c1
            try clear p1
            try clear q1
            try clear hx1
            try clear c2
            try clear p2
            try clear c4
            try clear c6
            try clear c6b0
            try clear p6
            try clear c7
            try clear c7b0
            try clear c8
            try clear c8b0
            try clear c10
            try clear c12
            try clear c12b0
            try clear c12b1
            try clear p14
            try clear q14
            try clear hx14
            try clear p15
            try clear q15
            try clear hx15
            try clear c16
            try clear c16b0
            try clear c17
            try clear c17b0
            try clear c18
            try clear c18b0
            try clear c20
            try clear hx145_0
            try clear hx151_0
            try clear p1
            try clear p14
            try clear p145
            try clear p151
            try clear p2
            try clear p6
            try clear q1
            try clear q14
            try clear q145
            try clear q151
            obtain⟨x10_3,rfl,HA,HK3,HB⟩:=hrel
            cases gk with
            | zero=>exact absurd HA.out (by simp[vestryref08_sign.l2])
            | succ k3=>
              have H:=HA.out
              clear HA
              simp only[vestryref08_sign.l2] at H
              by_cases c21:x10_3<((⟨#[40,41,123,125,44,46,58,124,33,61,60,62,43,45,42,47,37,36]⟩:ByteArray).size:Int)
              · rw[if_pos c21] at H
                have c21b0:decide (x10_3<((⟨#[40,41,123,125,44,46,58,124,33,61,60,62,43,45,42,47,37,36]⟩:ByteArray).size:Int))=true:=decide_eq_true c21
                have c21z:decide (x10_3<18)=true:=decide_eq_true c21
                clear c21
                by_cases c22:0≤a1
                · rw[if_pos c22] at H
                  have c22b0:decide (0≤a1)=true:=decide_eq_true c22
                  clear c22
                  by_cases c23:a1<(a0.size:Int)
                  · rw[if_pos c23] at H
                    have c23b0:decide (a1<(a0.size:Int))=true:=decide_eq_true c23
                    clear c23
                    by_cases c25:0≤x10_3
                    · rw[if_pos c25] at H
                      have c25b0:decide (0≤x10_3)=true:=decide_eq_true c25
                      clear c25
                      by_cases c27:(bt a0 a1)=(bt (⟨#[40,41,123,125,44,46,58,124,33,61,60,62,43,45,42,47,37,36]⟩:ByteArray) x10_3)
                      · rw[if_pos c27] at H
                        have c27b0:((bt a0 a1)==(bt (⟨#[40,41,123,125,44,46,58,124,33,61,60,62,43,45,42,47,37,36]⟩:ByteArray) x10_3))=true:=beq_iff_eq.mpr c27
                        have c27b1:((bt a0 a1) != (bt (⟨#[40,41,123,125,44,46,58,124,33,61,60,62,43,45,42,47,37,36]⟩:ByteArray) x10_3))=false:=bne_eq_false_iff_eq.mpr c27
                        clear c27
                        have c28b0:=eq_true (of_decide_eq_true (by first|(with_reducible assumption)|assumption):0≤a1)
                        by_cases c29:a1≤(wrap64 (a1+1))
                        · rw[if_pos c29] at H
                          have c29b0:=eq_true c29
                          have c29b1:decide (a1≤(wrap64 (a1+1)))=true:=decide_eq_true c29
                          by_cases c30:(wrap64 (a1+1))≤(a0.size:Int)
                          · rw[if_pos c30] at H
                            have c30b0:=eq_true c30
                            have c30b1:decide ((wrap64 (a1+1))≤(a0.size:Int))=true:=decide_eq_true c30
                            obtain rfl:=Option.some.inj H
                            have p24:0≤(a1:Int):=of_decide_eq_true (by first|(with_reducible assumption)|assumption)
                            have q24:a1<(a0.size:Int):=of_decide_eq_true (by first|(with_reducible assumption)|assumption)
                            have hx24:=bt_at a0 a1
                            replace p24:=eq_true p24
                            replace q24:=eq_true q24
                            have p26:0≤(x10_3:Int):=of_decide_eq_true (by first|(with_reducible assumption)|assumption)
                            have q26:x10_3<(18:Int):=of_decide_eq_true (by first|(with_reducible assumption)|assumption)
                            have hx26:=bt_at (⟨#[40,41,123,125,44,46,58,124,33,61,60,62,43,45,42,47,37,36]⟩:ByteArray) x10_3
                            replace p26:=eq_true p26
                            replace q26:=eq_true q26
                            go_wp2
                            repeat (go_quiet (fail);try go_wp2)
                            go_ret
                            exact⟨by first|rfl|(simp[errW_none,errW_some] <;> rfl)|(simp[*,errW_none,errW_some] <;> rfl),by repeat (first|(with_reducible first|exact HB.out|apply below_alloc|apply pw_below_drewN|apply below_drew1)|exact HB.out)⟩
                          · rw[if_neg c30] at H
                            exact absurd H (by simp)
                        · rw[if_neg c29] at H
                          exact absurd H (by simp)
                      · rw[if_neg c27] at H
                        have c27b0:((bt a0 a1)==(bt (⟨#[40,41,123,125,44,46,58,124,33,61,60,62,43,45,42,47,37,36]⟩:ByteArray) x10_3))=false:=beq_eq_false_iff_ne.mpr c27
                        have c27b1:((bt a0 a1) != (bt (⟨#[40,41,123,125,44,46,58,124,33,61,60,62,43,45,42,47,37,36]⟩:ByteArray) x10_3))=true:=bne_iff_ne.mpr c27
                        have H':=Aside0.mk H
                        clear H
                        have p24:0≤(a1:Int):=of_decide_eq_true (by first|(with_reducible assumption)|assumption)
                        have q24:a1<(a0.size:Int):=of_decide_eq_true (by first|(with_reducible assumption)|assumption)
                        have hx24:=bt_at a0 a1
                        replace p24:=eq_true p24
                        replace q24:=eq_true q24
                        have p26:0≤(x10_3:Int):=of_decide_eq_true (by first|(with_reducible assumption)|assumption)
                        have q26:x10_3<(18:Int):=of_decide_eq_true (by first|(with_reducible assumption)|assumption)
                        have hx26:=bt_at (⟨#[40,41,123,125,44,46,58,124,33,61,60,62,43,45,42,47,37,36]⟩:ByteArray) x10_3
                        replace p26:=eq_true p26
                        replace q26:=eq_true q26
                        go_wp2
                        repeat (go_quiet (fail);try go_wp2)
                        go_roundg k3
                        case measure=>have:=HK1.out;have:=HK2.out;have:=HK3.out;omega
                        case rel=>exact⟨(wrap64 (x10_3+1)),(by first|rfl|(simp;done)|(simp[*];done)),H',⟨by have:=HK1.out;have:=HK2.out;have:=HK3.out;omega⟩,⟨by repeat (first|(with_reducible first|exact HB.out|apply below_alloc|apply pw_below_drewN|apply below_drew1)|exact HB.out)⟩⟩
                    · rw[if_neg c25] at H
                      exact absurd H (by simp)
                  · rw[if_neg c23] at H
                    exact absurd H (by simp)
                · rw[if_neg c22] at H
                  exact absurd H (by simp)
              · rw[if_neg c21] at H
                have c21b0:decide (x10_3<((⟨#[40,41,123,125,44,46,58,124,33,61,60,62,43,45,42,47,37,36]⟩:ByteArray).size:Int))=false:=decide_eq_false c21
                have c21z:decide (x10_3<18)=false:=decide_eq_false c21
                clear c21
                obtain rfl:=Option.some.inj H
                go_wp2
                repeat (go_quiet (fail);try go_wp2)
                go_ret
                exact⟨by first|rfl|(simp[errW_none,errW_some] <;> rfl)|(simp[*,errW_none,errW_some] <;> rfl),by repeat (first|(with_reducible first|exact HB.out|apply below_alloc|apply pw_below_drewN|apply below_drew1)|exact HB.out)⟩
end Go.Proofs.Ytddmceldglelkaa.PTokens
namespace Go.Proofs.Ytddmceldglelkaa.LexRefTok
open Go Go.RowKit NumPure NumRead LexPure LexGap LexNumP LexToks YtddmceldglelkaaW.PrintWords YtddmceldglelkaaW.PrintLast PTokens
theorem up1 (a b m:Nat) (hm:m≤140737488351232) (h:a+b≤m+8):wrap64 ((a:Int)+(b:Int))=((a+b:Nat):Int):=by
 rw[wrap_in (by unfold In;omega)]
 omega
theorem up2 (a b m:Nat) (hm:m≤140737488351232) (h:a+1+b≤m):wrap64 ((a:Int)+wrap64 (1+(b:Int)))=((a+(1+b):Nat):Int):=by
 have e:=up1 1 b m hm (by omega)
 rw[show ((1:Nat):Int)=1 from rfl] at e
 rw[e]
 exact up1 a (1+b) m hm (by omega)
theorem bt_of (x:ByteArray) (i:Nat) (c:UInt8) (r:List UInt8) (h:x.data.toList.drop i=c :: r):bt x (i:Int)=c.toNat∧(i:Int)<(x.size:Int)∧x.data.toList.drop (i+1)=r:=by
 have hl:i<x.data.toList.length:=by
  rcases Nat.lt_or_ge i x.data.toList.length with h1|h1
  · exact h1
  · rw[List.drop_eq_nil_of_le h1] at h;cases h
 rw[List.drop_eq_getElem_cons hl] at h
 simp only[List.cons.injEq] at h
 have hs:x.size=x.data.toList.length:=Lib.size_eq x
 refine⟨?_,by omega,h.2⟩
 unfold bt
 rw[dif_pos (by simp;omega)]
 rw[← h.1]
 simp
 rfl
theorem letter_is (c:UInt8):vestryref03_Letter.f (c.toNat:Int)=some (letter c):=by
 have e:(c==95)=decide ((c.toNat:Int)=95):=by
  by_cases h:c=95
  · subst h;rfl
  · rw[beq_eq_false_iff_ne.mpr h,decide_eq_false]
    intro x
    exact h (UInt8.toNat_inj.mp (by have e9:(95:UInt8).toNat=95:=rfl;omega))
 unfold vestryref03_Letter.f letter
 rw[e]
 have hc:=c.toNat_lt
 repeat' split
 all_goals (refine congrArg some (Bool.eq_iff_iff.2 ?_);simp only[Bool.or_eq_true,Bool.and_eq_true,decide_eq_true_eq,true_iff,Bool.false_eq_true,false_iff];omega)
theorem digit_is (c:UInt8):vestryref03_Digit.f (c.toNat:Int)=some (dig c):=by
 unfold vestryref03_Digit.f dig
 split
 all_goals (refine congrArg some (Bool.eq_iff_iff.2 ?_);simp only[decide_eq_true_eq,Bool.false_eq_true,false_iff];omega)
theorem bt_byte (s:ByteArray) (i:Nat) (c:UInt8) (r:List UInt8) (h:s.data.toList.drop i=c :: r) (v:UInt8):(bt s (i:Int)=(v.toNat:Int))↔c=v:=by
 rw[(bt_of s i c r h).1]
 constructor
 · intro e;exact UInt8.toNat_inj.mp (by omega)
 · rintro rfl;rfl
theorem at_f (s t:ByteArray) (hs:s.size≤140737488351232) (ht:t.size≤8) (i:Nat) (hi:i≤s.size):vestryref08_at.f s i t=some (t.data.toList.isPrefixOf (s.data.toList.drop i)):=by
 have hz:s.size=s.data.toList.length:=Lib.size_eq s
 have htz:t.size=t.data.toList.length:=Lib.size_eq t
 unfold vestryref08_at.f
 rw[up1 i t.size s.size hs (by omega)]
 by_cases h:i+t.size≤s.size
 · rw[if_pos (by omega),if_pos (by omega),if_pos (by omega)]
   simp only[Int.toNat_natCast]
   have e:(s.extract i (i+t.size)).toList=(s.data.toList.drop i).take t.size:=by
    rw[Lib.toList_data,Lib.extract_data,show i+t.size - i=t.size by omega]
   rw[e,Lib.toList_data]
   refine congrArg some ?_
   rw[Bool.eq_iff_iff,beq_iff_eq,List.isPrefixOf_iff_prefix,List.prefix_iff_eq_take,← htz]
   exact eq_comm
 · rw[if_neg (by omega)]
   refine congrArg some (Eq.symm ?_)
   rw[Bool.eq_false_iff]
   intro hp
   have:=List.IsPrefix.length_le (List.isPrefixOf_iff_prefix.1 hp)
   rw[List.length_drop] at this
   omega
theorem gap_l0 (s:ByteArray) (hs:s.size≤140737488351232):∀ (r:List UInt8) (i k:Nat),s.data.toList.drop i=r→i≤s.size→r.length<k→vestryref08_gap.l0 k s i=some ((i+eol r:Nat):Int):=by
 have hz:s.size=s.data.toList.length:=Lib.size_eq s
 intro r
 induction r with
 | nil=>
   intro i k h hi hk
   have:s.size≤i:=by rw[hz];exact List.drop_eq_nil_iff.1 h
   obtain⟨k,rfl⟩:∃ j,k=j+1:=⟨k - 1,by omega⟩
   rw[vestryref08_gap.l0,if_neg (by omega)];rfl
 | cons c r ih=>
   intro i k h hi hk
   obtain⟨_,h2,h3⟩:=bt_of s i c r h
   obtain⟨k,rfl⟩:∃ j,k=j+1:=⟨k - 1,by omega⟩
   have hb:=bt_byte s i c r h 10
   have e10:((10:UInt8).toNat:Int)=10:=rfl
   rw[e10] at hb
   rw[vestryref08_gap.l0,if_pos h2,if_pos (by omega)]
   unfold eol
   by_cases hc:c=10
   · rw[if_pos (hb.2 hc),if_pos hc];rfl
   · rw[if_neg (fun x=>hc (hb.1 x)),if_neg hc,show ((i:Int)+1)=((i:Int)+((1:Nat):Int)) from rfl,up1 i 1 s.size hs (by omega),ih (i+1) k h3 (by omega) (by simp at hk;omega)]
     exact congrArg some (by omega)
theorem gap_l1 (s:ByteArray) (hs:s.size≤140737488351232):∀ (r:List UInt8) (i k:Nat),s.data.toList.drop i=r→i≤s.size→r.length<k→vestryref08_gap.l1 k s i=some (match close r with|none=>-1|some n=>((i+n:Nat):Int)):=by
 have hz:s.size=s.data.toList.length:=Lib.size_eq s
 intro r
 induction r with
 | nil=>
   intro i k h hi hk
   have:s.size≤i:=by rw[hz];exact List.drop_eq_nil_iff.1 h
   obtain⟨k,rfl⟩:∃ j,k=j+1:=⟨k - 1,by omega⟩
   rw[vestryref08_gap.l1,if_neg (by omega)];rfl
 | cons c r ih=>
   intro i k h hi hk
   obtain⟨_,h2,h3⟩:=bt_of s i c r h
   obtain⟨k,rfl⟩:∃ j,k=j+1:=⟨k - 1,by omega⟩
   rw[vestryref08_gap.l1,if_pos h2,at_f s _ hs (by decide) i hi,h]
   simp only[Option.bind_some]
   unfold close
   by_cases hc:[42,47].isPrefixOf (c :: r)=true
   · rw[if_pos hc,if_pos hc,show ((i:Int)+2)=((i:Int)+((2:Nat):Int)) from rfl,up1 i 2 s.size hs (by omega)]
   · rw[if_neg hc,if_neg hc,show ((i:Int)+1)=((i:Int)+((1:Nat):Int)) from rfl,up1 i 1 s.size hs (by omega),ih (i+1) k h3 (by omega) (by simp at hk;omega)]
     cases close r with
     | none=>rfl
     | some n=>
       show some (((i+1+n:Nat)):Int)=some ((i+(n+1):Nat):Int)
       rw[Nat.add_assoc,Nat.add_comm 1 n]
theorem gap_f (s:ByteArray) (hs:s.size≤140737488351232) (i k:Nat) (c:UInt8) (r:List UInt8) (h:s.data.toList.drop i=c :: r) (hk:r.length+2<k):vestryref08_gap.f k s i=some (if gap1 (c :: r)<0 then -1 else (i:Int)+gap1 (c :: r)):=by
 have hz:s.size=s.data.toList.length:=Lib.size_eq s
 obtain⟨_,h2,h3⟩:=bt_of s i c r h
 have b:=fun v=>bt_byte s i c r h v
 have e32:=b 32
 have e9:=b 9
 have e10:=b 10
 have e13:=b 13
 rw[show ((32:UInt8).toNat:Int)=32 from rfl] at e32
 rw[show ((9:UInt8).toNat:Int)=9 from rfl] at e9
 rw[show ((10:UInt8).toNat:Int)=10 from rfl] at e10
 rw[show ((13:UInt8).toNat:Int)=13 from rfl] at e13
 have key:∀ x:Bool,x=LexPure.blank c→vestryref08_gap.j0 k s i x=some (if gap1 (c :: r)<0 then -1 else (i:Int)+gap1 (c :: r)):=by
  rintro x rfl
  obtain⟨k,rfl⟩:∃ j,k=j+1:=⟨k - 1,by omega⟩
  rw[vestryref08_gap.j0,gap1_cons]
  by_cases hb:LexPure.blank c=true
  · rw[if_pos hb,if_pos hb,show ((i:Int)+1)=((i:Int)+((1:Nat):Int)) from rfl,up1 i 1 s.size hs (by omega)]
    rfl
  · rw[if_neg hb,if_neg hb,at_f s _ hs (by decide) i (by omega),h]
    simp only[Option.bind_some]
    by_cases h47:[47,47].isPrefixOf (c :: r)=true
    · rw[if_pos h47,if_pos h47,gap_l0 s hs _ i k h (by omega) (by simp;omega),if_neg (by omega)]
      rfl
    · rw[if_neg h47,if_neg h47,at_f s _ hs (by decide) i (by omega),h]
      simp only[Option.bind_some]
      by_cases h42:[47,42].isPrefixOf (c :: r)=true
      · have hl:=List.IsPrefix.length_le (List.isPrefixOf_iff_prefix.1 h42)
        have hcl:(c :: r).length=s.size - i:=by rw[← h,List.length_drop,hz]
        simp at hl hcl
        rw[if_pos h42,if_pos h42,show ((i:Int)+2)=((i:Int)+((2:Nat):Int)) from rfl,up1 i 2 s.size hs (by omega),gap_l1 s hs (r.drop 1) (i+2) k (by rw[← h3,List.drop_drop]) (by omega) (by rw[List.length_drop];omega)]
        cases close (r.drop 1) with
        | none=>rfl
        | some n=>simp only[];rw[if_neg (by omega)];exact congrArg some (by omega)
      · rw[if_neg h42,if_neg h42,if_neg (by omega)]
        exact congrArg some (by omega)
 unfold vestryref08_gap.f
 rw[if_pos (by omega),if_pos h2]
 have hbl:LexPure.blank c=(c==32 || c==9 || c==10 || c==13):=rfl
 by_cases h32:c=32
 · rw[if_pos (e32.2 h32)];exact key _ (by rw[h32];rfl)
 · rw[if_neg (fun x=>h32 (e32.1 x))]
   by_cases h9:c=9
   · rw[if_pos (e9.2 h9)];exact key _ (by rw[h9];rfl)
   · rw[if_neg (fun x=>h9 (e9.1 x))]
     by_cases h10:c=10
     · rw[if_pos (e10.2 h10)];exact key _ (by rw[h10];rfl)
     · rw[if_neg (fun x=>h10 (e10.1 x))]
       refine key _ ?_
       rw[hbl,beq_eq_false_iff_ne.mpr h32,beq_eq_false_iff_ne.mpr h9,beq_eq_false_iff_ne.mpr h10]
       simp only[Bool.false_or]
       rw[Bool.eq_iff_iff,beq_iff_eq,beq_iff_eq,e13]
theorem word_l0 (s:ByteArray) (hs:s.size≤140737488351232) (b:Nat):∀ (r:List UInt8) (i k:Nat),b+i≤s.size→s.data.toList.drop (b+i)=r→r.length<k→
    vestryref08_word.l0 k s b i=some ((i+wd (decide (0<i)) r:Nat):Int):=by
 intro r
 have hz:s.size=s.data.toList.length:=Lib.size_eq s
 induction r with
 | nil=>
   intro i k hb h hk
   have hi:s.size≤b+i:=by rw[hz];exact List.drop_eq_nil_iff.1 h
   obtain⟨k,rfl⟩:∃ j,k=j+1:=⟨k - 1,by simp at hk;omega⟩
   rw[vestryref08_word.l0,up1 b i s.size hs (by omega),if_neg (by omega)]
   simp[wd]
 | cons c r ih=>
   intro i k hb h hk
   obtain⟨h1,h2,h3⟩:=bt_of s (b+i) c r h
   have hw:=Lib.hid (up1 i 1 s.size hs (by omega))
   obtain⟨k,rfl⟩:∃ j,k=j+1:=⟨k - 1,by simp at hk;omega⟩
   have ih1:=ih (i+1) k (by omega) (by rw[← Nat.add_assoc];exact h3) (by simp at hk;omega)
   rw[decide_eq_true (show 0<i+1 by omega)] at ih1
   rw[vestryref08_word.l0,up1 b i s.size hs (by omega),if_pos h2,if_pos (by omega),h1,letter_is]
   simp only[Option.bind_some]
   unfold wd inWord
   by_cases hl:letter c=true
   · rw[if_pos hl,show ((i:Int)+1)=((i:Int)+((1:Nat):Int)) from rfl,hw.out,ih1,hl]
     simp;omega
   · rw[if_neg hl]
     have hl':letter c=false:=by simpa using hl
     rw[hl',digit_is]
     simp only[Option.bind_some]
     by_cases h0:0<i
     · rw[if_pos (by omega),decide_eq_true h0]
       by_cases hd:dig c=true
       · rw[if_pos hd,show ((i:Int)+1)=((i:Int)+((1:Nat):Int)) from rfl,hw.out,ih1,hd]
         simp;omega
       · rw[if_neg hd]
         have hd':dig c=false:=by simpa using hd
         rw[hd']
         simp
     · rw[if_neg (by omega),decide_eq_false h0]
       simp
theorem word_f (s:ByteArray) (hs:s.size≤140737488351232) (b k:Nat) (hb:b≤s.size) (hk:s.size - b<k):vestryref08_word.f k s b=some ((word (s.data.toList.drop b):Nat):Int):=by
 have:=word_l0 s hs b (s.data.toList.drop b) 0 k (by omega) rfl (by rw[List.length_drop,← Lib.size_eq];exact hk)
 unfold vestryref08_word.f
 rw[Nat.zero_add] at this
 exact this
theorem dot_is (l:List UInt8):[46].isPrefixOf l=(match l with|[]=>false|c :: _=>c==46):=by
 cases l with
 | nil=>rfl
 | cons c r=>simp[List.isPrefixOf];exact BEq.comm
theorem name_l0 (s:ByteArray) (hs:s.size≤140737488351232) (b:Nat):∀ (f:Nat) (l:List UInt8) (n k:Nat),0<n→b+n≤s.size→s.data.toList.drop (b+n)=l→l.length≤f→l.length+1<k→
    vestryref08_name.l0 k s b n=some ((n+more f l:Nat):Int):=by
 intro f
 have hz:s.size=s.data.toList.length:=Lib.size_eq s
 induction f with
 | zero=>
   intro l n k hn hns h hf hk
   obtain rfl:l=[]:=List.eq_nil_of_length_eq_zero (by omega)
   obtain⟨k,rfl⟩:∃ j,k=j+1:=⟨k - 1,by omega⟩
   rw[vestryref08_name.l0,if_pos (by omega),up1 b n s.size hs (by omega),at_f s _ hs (by decide) (b+n) hns,h,show (ByteArray.mk #[46]).data.toList=[46] from rfl]
   simp only[Option.bind_some]
   rw[if_neg (by simp)]
   simp[more]
 | succ f ih=>
   intro l n k hn hns h hf hk
   obtain⟨k,rfl⟩:∃ j,k=j+1:=⟨k - 1,by omega⟩
   rw[vestryref08_name.l0,if_pos (by omega),up1 b n s.size hs (by omega),at_f s _ hs (by decide) (b+n) hns,h]
   rw[show (ByteArray.mk #[46]).data.toList=[46] from rfl,dot_is]
   simp only[Option.bind_some]
   cases l with
   | nil=>simp[more]
   | cons c r=>
     obtain⟨_,h2,h3⟩:=bt_of s (b+n) c r h
     have hlr:r.length=s.size - (b+n+1):=by rw[← h3,List.length_drop,hz]
     have hwf:=word_f s hs (b+n+1) k (by omega) (by simp at hk;omega)
     rw[h3] at hwf
     simp only[]
     unfold more
     by_cases hc:c=46
     · rw[if_pos (by rw[hc];rfl),show (((b+n:Nat):Int)+1)=(((b+n:Nat):Int)+((1:Nat):Int)) from rfl,up1 (b+n) 1 s.size hs (by omega),hwf]
       simp only[Option.bind_some]
       have hwl:=word_le r
       by_cases hp:0<word r
       · rw[if_pos (by omega),if_pos ⟨hc,hp⟩]
         have H1:=Lib.hid (up2 n (word r) s.size hs (by omega))
         rw[H1.out,ih (r.drop (word r)) (n+(1+word r)) k (by omega) (by omega) (by rw[← h3,List.drop_drop];exact congrArg (fun x=>List.drop x s.data.toList) (by omega)) (by rw[List.length_drop];simp at hf;omega) (by rw[List.length_drop];simp at hk;omega)]
         rw[Nat.add_assoc n]
       · rw[if_neg (by omega),if_neg (fun h=>hp h.2)]
         simp
     · rw[if_neg (by simpa using hc),if_neg (fun h=>hc h.1)]
       simp
theorem name_f (s:ByteArray) (hs:s.size≤140737488351232) (b k:Nat) (hb:b≤s.size) (hk:s.size - b+2≤k):vestryref08_name.f k s b=some ((name (s.data.toList.drop b):Nat):Int):=by
 have hz:s.size=s.data.toList.length:=Lib.size_eq s
 obtain⟨l,hl⟩:∃ l,s.data.toList.drop b=l:=⟨_,rfl⟩
 have hll:l.length=s.size - b:=by rw[← hl,List.length_drop,hz]
 have hw:=word_f s hs b k hb (by omega)
 rw[hl] at hw ⊢
 have hwl:=word_le l
 unfold vestryref08_name.f name
 rw[hw]
 simp only[Option.bind_some]
 by_cases h0:word l=0
 · obtain⟨k,rfl⟩:∃ j,k=j+1:=⟨k - 1,by omega⟩
   rw[if_pos h0,h0,vestryref08_name.l0,if_neg (by omega)]
 · rw[if_neg h0]
   have h1:=name_l0 s hs b l.length (l.drop (word l)) (word l) k (by omega) (by omega) (by rw[← hl,List.drop_drop]) (by rw[List.length_drop];omega) (by rw[List.length_drop];omega)
   exact h1
end Go.Proofs.Ytddmceldglelkaa.LexRefTok
