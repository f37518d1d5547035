/- A claim's texts, in the order of what they need: RefSameF. -/
import Derived.Test.YtddmceldglelkaaBCompBases24
set_option maxRecDepth 100000
set_option maxHeartbeats 8000000
set_option linter.unusedVariables false
set_option linter.unusedSimpArgs false
set_option linter.unusedSectionVars false
namespace Go.Proofs.Ytddmceldglelkaa
namespace RefSameF
open Go Go.RowKit RefPure RefKinds RefMem RefTake RefSmall RefFields RefExprs RefExpr RefOne RefCells YtddmceldglelkaaW.PrintWords
open LexPure (T lex)
attribute [local go_sem] fld0 fld1 fld2 fld3
open RefSameP RefSame
theorem drewn_below {w wr:World} (h:∃ m,wr=w.drewN m):Below w.heap.size w wr:=by obtain⟨m,rfl⟩:=h;exact Zu (Below.refl _ _) m
theorem drewn_next {w wr:World} (h:∃ m,wr=w.drewN m):∃ m,wr.drew=w.drewN m:=by obtain⟨m,rfl⟩:=h;exact⟨m+1,rfl⟩
theorem field_cells {w:World} {A:Option Addr} {n c:Nat} {l:List FieldT} (h:Vw kField w (.slice A n c) l) (i:Nat) (x:FieldT) (hx:l[i]?=some x) :
    ∃ ad,A=some ad∧w.cell? (ad.add (i*2))=some (.string x.name)∧w.cell? ⟨(ad.add (i*2)).block,(ad.add (i*2)).off+1,none⟩=some (.string x.type):=by
 obtain⟨ad,cs,hA,hK,hcell0⟩:=h.at_ i x hx;have hcell:∀ j u,cs[j]?=some u→w.cell? (ad.add (i*2+j))=some u:=hcell0;obtain rfl:=kField_open hK;exact⟨ad,hA,hcell 0 _ rfl,by rw[← ZN _ _ 1 (by omega)];exact hcell 1 _ rfl⟩
theorem text_cells {w:World} {A:Option Addr} {n c:Nat} {l:List ByteArray} (h:Vw Kd.string w (.slice A n c) l) (i:Nat) (x:ByteArray) (hx:l[i]?=some x) :
    ∃ ad,A=some ad∧w.cell? (ad.add i)=some (.string x):=by
 obtain⟨ad,cs,hA,hK,hcell0⟩:=h.at_ i x hx;have hcell:∀ j u,cs[j]?=some u→w.cell? (ad.add (i*1+j))=some u:=hcell0;have hK2:cs=[.string x]:=hK;subst hK2;exact⟨ad,hA,by simpa using hcell 0 _ rfl⟩
theorem fields_any (w:World) (l m:List FieldT) (vl vm:Value) (hl:Vw kField w vl l) (hm:Vw kField w vm m):Calls Try.prog 59 #[vl,vm] w fun e w'=>e=.returned (.bool (sameAll sameF l m))∧∃ m,w'=w.drewN m:=by
 obtain⟨A,c,rfl⟩:=hl.slice;obtain⟨A',c',rfl⟩:=hm.slice;by_cases hn:l.length=m.length
 · have HA:=Za hl;have HB:=Za hm;have HM:=Za hl.max;rw[← hn] at HB ⊢;obtain⟨n,hn1⟩:∃ n,l.length=n:=⟨_,rfl⟩;rw[hn1] at HA HB HM ⊢;have HN1:=Za hn1;have HN2:Hid (m.length=n):=Za (by rw[← hn,hn1]);clear hl hm hn hn1;go_enter Try.func59,Try.ntmps59;go_wp2;go_loopg [5] (n+1) (fun g v7 wr=>∃ i:Nat,v7=.int .i64 (i:Int)∧Hid (i≤n∧(∃ m,wr=w.drewN m)∧n - i<g∧sameAll sameF l m=sameAll sameF (l.drop i) (m.drop i)))
   case atStart=>exact⟨0,rfl,Za ⟨Nat.zero_le _,⟨0,rfl⟩,by omega,rfl⟩⟩
   case round=>
    obtain⟨i,rfl,HI2⟩:=hrel;by_cases hi:i<n
    · have hib:decide (i<n)=true:=Zl hi;obtain⟨x,hx⟩:∃ t,l[i]?=some t:=⟨l[i]'(by rw[HN1.out];exact hi),by simp⟩;obtain⟨y,hy⟩:∃ t,m[i]?=some t:=⟨m[i]'(by rw[HN2.out];exact hi),by simp⟩;obtain⟨d1,rfl,a0,a1⟩:=field_cells (HA.out.below (drewn_below HI2.out.2.1)) i x hx;obtain⟨d2,rfl,b0,b1⟩:=field_cells (HB.out.below (drewn_below HI2.out.2.1)) i y hy;have HD:=Za (sameAll_drop sameF l m i x y hx hy);clear hx hy;have hi0:(0:Int)≤(i:Int):=(by omega);have hi1:(i:Int)<(n:Int):=(by omega);by_cases h0:x.name=y.name;rotate_left
      · have hsm:sameF x y=false:=(by simp[sameF,h0]);have e0:(x.name.toList==y.name.toList)=false:=(by rw[bytes_beq];exact Zm h0);have g0:(x.name.toList != y.name.toList)=true:=(by rw[bne,e0];rfl);go_wp2;go_region;(all_goals go_wp2);all_goals go_ret
        all_goals first
         | exact⟨retb (by rw[HI2.out.2.2.2,HD.out,hsm];rfl),drewn_next HI2.out.2.1⟩
      by_cases h1:x.type=y.type;rotate_left
      · have hsm:sameF x y=false:=(by simp[sameF,h1]);have e0:(x.name.toList==y.name.toList)=true:=(by rw[bytes_beq];exact Zl h0);have e1:(x.type.toList==y.type.toList)=false:=(by rw[bytes_beq];exact Zm h1);have g0:(x.name.toList != y.name.toList)=false:=(by rw[bne,e0];rfl);have g1:(x.type.toList != y.type.toList)=true:=(by rw[bne,e1];rfl);go_wp2;go_region;(all_goals go_wp2);all_goals go_ret
        all_goals first
         | exact⟨retb (by rw[HI2.out.2.2.2,HD.out,hsm];rfl),drewn_next HI2.out.2.1⟩
      have hsm:sameF x y=true:=(by simp[sameF,h0,h1]);have e0:(x.name.toList==y.name.toList)=true:=(by rw[bytes_beq];exact Zl h0);have g0:(x.name.toList != y.name.toList)=false:=(by rw[bne,e0];rfl);have e1:(x.type.toList==y.type.toList)=true:=(by rw[bytes_beq];exact Zl h1);have g1:(x.type.toList != y.type.toList)=false:=(by rw[bne,e1];rfl);go_wp2;go_region;(all_goals go_wp2);all_goals go_roundg (n - i)
      all_goals first
       | (have:=HI2.out.2.2.1;omega)
       | exact⟨i+1,by rw[wrap_up i (Ze hi HM.out)],Za ⟨hi,drewn_next HI2.out.2.1,by omega,by rw[HI2.out.2.2.2,HD.out,hsm];rfl⟩⟩
    · have hib:decide (i<n)=false:=Zm hi;go_wp2;go_ret;exact⟨retb (by rw[HI2.out.2.2.2];exact (sameAll_end _ l m i (by rw[HN1.out];omega) (by rw[HN2.out];omega)).symm),HI2.out.2.1⟩
 · have hnb:((l.length:Int)==(m.length:Int))=false:=(by simp;omega);have hnc:(l.length==m.length)=false:=(by simpa using hn);have HE:=Za (sameAll_len sameF l m hn);clear hl hm;go_enter Try.func59,Try.ntmps59;go_wp2;go_ret;exact⟨retb HE.out.symm,0,rfl⟩
theorem texts_any (w:World) (l m:List ByteArray) (vl vm:Value) (hl:Vw Kd.string w vl l) (hm:Vw Kd.string w vm m):Calls Try.prog 60 #[vl,vm] w fun e w'=>e=.returned (.bool (sameAll sameS l m))∧∃ m,w'=w.drewN m:=by
 obtain⟨A,c,rfl⟩:=hl.slice;obtain⟨A',c',rfl⟩:=hm.slice;by_cases hn:l.length=m.length
 · have HA:=Za hl;have HB:=Za hm;have HM:=Za hl.max;rw[← hn] at HB ⊢;obtain⟨n,hn1⟩:∃ n,l.length=n:=⟨_,rfl⟩;rw[hn1] at HA HB HM ⊢;have HN1:=Za hn1;have HN2:Hid (m.length=n):=Za (by rw[← hn,hn1]);clear hl hm hn hn1;go_enter Try.func60,Try.ntmps60;go_wp2;go_loopg [5] (n+1) (fun g v7 wr=>∃ i:Nat,v7=.int .i64 (i:Int)∧Hid (i≤n∧(∃ m,wr=w.drewN m)∧n - i<g∧sameAll sameS l m=sameAll sameS (l.drop i) (m.drop i)))
   case atStart=>exact⟨0,rfl,Za ⟨Nat.zero_le _,⟨0,rfl⟩,by omega,rfl⟩⟩
   case round=>
    obtain⟨i,rfl,HI2⟩:=hrel;by_cases hi:i<n
    · have hib:decide (i<n)=true:=Zl hi;obtain⟨x,hx⟩:∃ t,l[i]?=some t:=⟨l[i]'(by rw[HN1.out];exact hi),by simp⟩;obtain⟨y,hy⟩:∃ t,m[i]?=some t:=⟨m[i]'(by rw[HN2.out];exact hi),by simp⟩;obtain⟨d1,rfl,a0⟩:=text_cells (HA.out.below (drewn_below HI2.out.2.1)) i x hx;obtain⟨d2,rfl,b0⟩:=text_cells (HB.out.below (drewn_below HI2.out.2.1)) i y hy;have HD:=Za (sameAll_drop sameS l m i x y hx hy);clear hx hy;have hi0:(0:Int)≤(i:Int):=(by omega);have hi1:(i:Int)<(n:Int):=(by omega);by_cases h0:x=y;rotate_left
      · have hsm:sameS x y=false:=(by simp[sameS,h0]);have e0:(x.toList==y.toList)=false:=(by rw[bytes_beq];exact Zm h0);have g0:(x.toList != y.toList)=true:=(by rw[bne,e0];rfl);go_wp2;go_region;(all_goals go_wp2);all_goals go_ret
        all_goals first
         | exact⟨retb (by rw[HI2.out.2.2.2,HD.out,hsm];rfl),drewn_next HI2.out.2.1⟩
      have hsm:sameS x y=true:=(by simp[sameS,h0]);have e0:(x.toList==y.toList)=true:=(by rw[bytes_beq];exact Zl h0);have g0:(x.toList != y.toList)=false:=(by rw[bne,e0];rfl);go_wp2;go_region;(all_goals go_wp2);all_goals go_roundg (n - i)
      all_goals first
       | (have:=HI2.out.2.2.1;omega)
       | exact⟨i+1,by rw[wrap_up i (Ze hi HM.out)],Za ⟨hi,drewn_next HI2.out.2.1,by omega,by rw[HI2.out.2.2.2,HD.out,hsm];rfl⟩⟩
    · have hib:decide (i<n)=false:=Zm hi;go_wp2;go_ret;exact⟨retb (by rw[HI2.out.2.2.2];exact (sameAll_end _ l m i (by rw[HN1.out];omega) (by rw[HN2.out];omega)).symm),HI2.out.2.1⟩
 · have hnb:((l.length:Int)==(m.length:Int))=false:=(by simp;omega);have hnc:(l.length==m.length)=false:=(by simpa using hn);have HE:=Za (sameAll_len sameS l m hn);clear hl hm;go_enter Try.func60,Try.ntmps60;go_wp2;go_ret;exact⟨retb HE.out.symm,0,rfl⟩
end RefSameF
end Go.Proofs.Ytddmceldglelkaa
