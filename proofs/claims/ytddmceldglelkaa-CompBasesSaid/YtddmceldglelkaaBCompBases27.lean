/- A claim's texts, in the order of what they need: RefSameD, RefSameT, RefSameQ, CmpPure, CmpMap, CmpMem, CmpClone. -/
import Derived.Test.YtddmceldglelkaaBCompBases3
import Derived.Test.YtddmceldglelkaaBCompBases10
import Derived.Test.YtddmceldglelkaaBCompBases24
import Derived.Test.YtddmceldglelkaaBCompBases25
import Derived.Test.YtddmceldglelkaaBCompBases26
import Derived.Deep.QuietTactic
import Derived.Test.YtddmceldglelkaaProg
import Derived.Maps.Own
import Derived.Maps.OwnOps
import Derived.Maps.OwnSet
import Derived.Maps.Views
import Derived.StringKeys
import Derived.Below
import Derived.Deep.LoopGhost
import Derived.Lib.SliceRun
set_option maxRecDepth 100000
set_option maxHeartbeats 8000000
set_option linter.unusedVariables false
set_option linter.unusedSimpArgs false
set_option linter.unusedSectionVars false
namespace Go.Proofs.Ytddmceldglelkaa
namespace RefSameD
open Go Go.RowKit RefPure RefKinds RefMem RefTake RefSmall RefFields RefExprs RefExpr RefOne RefCells YtddmceldglelkaaW.PrintWords
open LexPure (T lex)
attribute [local go_sem] fld0 fld1 fld2 fld3
open RefSameP RefSame RefSameF RefSameC
theorem decl_cells {w:World} {A:Option Addr} {n c:Nat} {l:List DeclT} (h:Vw kDecl w (.slice A n c) l) (i:Nat) (x:DeclT) (hx:l[i]?=some x) :
    ∃ ad K k,A=some ad∧Vw kField w (.slice K x.cols.length k) x.cols∧w.cell? (ad.add (i*5))=some (.string x.name)∧w.cell? ⟨(ad.add (i*5)).block,(ad.add (i*5)).off+1,none⟩=some (.slice K x.cols.length k)∧w.cell? ⟨(ad.add (i*5)).block,(ad.add (i*5)).off+2,none⟩=some (.bool x.input)∧w.cell? ⟨(ad.add (i*5)).block,(ad.add (i*5)).off+3,none⟩=some (.bool x.output)∧w.cell? ⟨(ad.add (i*5)).block,(ad.add (i*5)).off+4,none⟩=some (.int .i64 x.at_):=by
 obtain⟨ad,cs,hA,hK,hcell0⟩:=h.at_ i x hx;have hcell:∀ j u,cs[j]?=some u→w.cell? (ad.add (i*5+j))=some u:=hcell0;obtain⟨K,k,rfl,l1,c1⟩:=kDecl_open hK;exact⟨ad,K,k,hA,⟨K,k,rfl,l1,c1⟩,hcell 0 _ rfl,by rw[← ZN _ _ 1 (by omega)];exact hcell 1 _ rfl,by rw[← ZN _ _ 2 (by omega)];exact hcell 2 _ rfl,by rw[← ZN _ _ 3 (by omega)];exact hcell 3 _ rfl,by rw[← ZN _ _ 4 (by omega)];exact hcell 4 _ rfl⟩
theorem decls_any (w:World) (l m:List DeclT) (vl vm:Value) (pl:Bool) (hl:Vw kDecl w vl l) (hm:Vw kDecl w vm m):Calls Try.prog 24 #[vl,vm,.bool pl] w fun e w'=>e=.returned (.bool (sameAll (sameD pl) l m))∧Below w.heap.size w w':=by
 obtain⟨A,c,rfl⟩:=hl.slice;obtain⟨A',c',rfl⟩:=hm.slice;by_cases hn:l.length=m.length
 · have HA:=Za hl;have HB:=Za hm;have HM:=Za hl.max;rw[← hn] at HB ⊢;obtain⟨n,hn1⟩:∃ n,l.length=n:=⟨_,rfl⟩;rw[hn1] at HA HB HM ⊢;have HN1:=Za hn1;have HN2:Hid (m.length=n):=Za (by rw[← hn,hn1]);clear hl hm hn hn1;go_enter Try.func24,Try.ntmps24;go_wp2;go_loopg [7] (n+1) (fun g v7 wr=>∃ i:Nat,v7=.int .i64 (i:Int)∧Hid (i≤n∧Below w.heap.size w wr∧n - i<g∧sameAll (sameD pl) l m=sameAll (sameD pl) (l.drop i) (m.drop i)))
   case atStart=>exact⟨0,rfl,Za ⟨Nat.zero_le _,Below.refl _ _,by omega,rfl⟩⟩
   case round=>
    obtain⟨i,rfl,HI2⟩:=hrel;by_cases hi:i<n
    · have hib:decide (i<n)=true:=Zl hi;obtain⟨x,hx⟩:∃ t,l[i]?=some t:=⟨l[i]'(by rw[HN1.out];exact hi),by simp⟩;obtain⟨y,hy⟩:∃ t,m[i]?=some t:=⟨m[i]'(by rw[HN2.out];exact hi),by simp⟩;obtain⟨d1,K1,k1,rfl,hV1,a0,a1,a2,a3,a4⟩:=decl_cells (HA.out.below HI2.out.2.1) i x hx;obtain⟨d2,K2,k2,rfl,hV2,b0,b1,b2,b3,b4⟩:=decl_cells (HB.out.below HI2.out.2.1) i y hy;have HV1:=Za hV1;have HV2:=Za hV2;have HD:=Za (sameAll_drop (sameD pl) l m i x y hx hy);clear hV1 hV2 hx hy;have hi0:(0:Int)≤(i:Int):=(by omega);have hi1:(i:Int)<(n:Int):=(by omega);by_cases h0:x.name=y.name;rotate_left
      · have HF0:Hid (decide (x.name=y.name)=false):=Za (Zm h0);have h0b:(x.name.toList==y.name.toList)=false:=(by rw[bytes_beq];exact Zm h0);have h0d:(x.name.toList != y.name.toList)=true:=(by rw[bne,h0b];rfl);clear h0;go_wp2;simp only[List.append_eq,List.cons_append,List.nil_append]
        go_quiet (first
            | (go_at_call 26;exact Calls.quiet_of_same ((ZU _ _ _ _).mono fun _ _ q=>⟨q.1,q.2.symm⟩))
            | (go_at_call 59;exact Calls.quiet_of (fields_any _ _ _ _ _ (HV1.out.below (Zu (Below.refl _ _) _)) (HV2.out.below (Zu (Below.refl _ _) _)))))
        go_wp2;have hsm:sameD pl x y=false:=(by unfold sameD;rw[HF0.out];simp);go_ret;exact⟨retb (by rw[HI2.out.2.2.2,HD.out,hsm];rfl),HI2.out.2.1.trans (Below.mono (Zu (Below.refl _ _) _) HI2.out.2.1.size)⟩
      have HT0:Hid (decide (x.name=y.name)=true):=Za (Zl h0);have h0b:(x.name.toList==y.name.toList)=true:=(by rw[bytes_beq];exact Zl h0);have h0d:(x.name.toList != y.name.toList)=false:=(by rw[bne,h0b];rfl);clear h0;by_cases h1:x.input=y.input;rotate_left
      · have HF1:Hid (decide (x.input=y.input)=false):=Za (Zm h1);have h1b:(x.input==y.input)=false:=(by simpa using h1);have h1d:(x.input != y.input)=true:=(by simpa using h1);clear h1;go_wp2;simp only[List.append_eq,List.cons_append,List.nil_append]
        go_quiet (first
            | (go_at_call 26;exact Calls.quiet_of_same ((ZU _ _ _ _).mono fun _ _ q=>⟨q.1,q.2.symm⟩))
            | (go_at_call 59;exact Calls.quiet_of (fields_any _ _ _ _ _ (HV1.out.below (Zu (Below.refl _ _) _)) (HV2.out.below (Zu (Below.refl _ _) _)))))
        go_wp2;have hsm:sameD pl x y=false:=(by unfold sameD;rw[HT0.out,HF1.out];simp);go_ret;exact⟨retb (by rw[HI2.out.2.2.2,HD.out,hsm];rfl),HI2.out.2.1.trans (Below.mono (Zu (Below.refl _ _) _) HI2.out.2.1.size)⟩
      have HT1:Hid (decide (x.input=y.input)=true):=Za (Zl h1);have h1b:(x.input==y.input)=true:=(by simpa using h1);have h1d:(x.input != y.input)=false:=(by simpa using h1);clear h1;by_cases h2:x.output=y.output;rotate_left
      · have HF2:Hid (decide (x.output=y.output)=false):=Za (Zm h2);have h2b:(x.output==y.output)=false:=(by simpa using h2);have h2d:(x.output != y.output)=true:=(by simpa using h2);clear h2;go_wp2;simp only[List.append_eq,List.cons_append,List.nil_append]
        go_quiet (first
            | (go_at_call 26;exact Calls.quiet_of_same ((ZU _ _ _ _).mono fun _ _ q=>⟨q.1,q.2.symm⟩))
            | (go_at_call 59;exact Calls.quiet_of (fields_any _ _ _ _ _ (HV1.out.below (Zu (Below.refl _ _) _)) (HV2.out.below (Zu (Below.refl _ _) _)))))
        go_wp2;have hsm:sameD pl x y=false:=(by unfold sameD;rw[HT0.out,HT1.out,HF2.out];simp);go_ret;exact⟨retb (by rw[HI2.out.2.2.2,HD.out,hsm];rfl),HI2.out.2.1.trans (Below.mono (Zu (Below.refl _ _) _) HI2.out.2.1.size)⟩
      have HT2:Hid (decide (x.output=y.output)=true):=Za (Zl h2);have h2b:(x.output==y.output)=true:=(by simpa using h2);have h2d:(x.output != y.output)=false:=(by simpa using h2);clear h2;cases h3:plc pl x.at_ y.at_
      · have HC3:=Za h3;clear h3;have v3:=HC3.out;go_wp2;simp only[List.append_eq,List.cons_append,List.nil_append]
        go_quiet (first
            | (go_at_call 26;exact Calls.quiet_of_same ((ZU _ _ _ _).mono fun _ _ q=>⟨q.1,q.2.symm⟩))
            | (go_at_call 59;exact Calls.quiet_of (fields_any _ _ _ _ _ (HV1.out.below (Zu (Below.refl _ _) _)) (HV2.out.below (Zu (Below.refl _ _) _)))))
        go_wp2;have hsm:sameD pl x y=false:=(by unfold sameD;rw[HT0.out,HT1.out,HT2.out,HC3.out];simp);go_ret;exact⟨retb (by rw[HI2.out.2.2.2,HD.out,hsm];rfl),HI2.out.2.1.trans (Below.mono (Zu (Below.refl _ _) _) HI2.out.2.1.size)⟩
      have HC3:=Za h3;clear h3;cases h4:sameAll sameF x.cols y.cols
      · have HC4:=Za h4;clear h4;have v3:=HC3.out;have v4:=HC4.out;go_wp2;simp only[List.append_eq,List.cons_append,List.nil_append]
        go_quiet (first
            | (go_at_call 26;exact Calls.quiet_of_same ((ZU _ _ _ _).mono fun _ _ q=>⟨q.1,q.2.symm⟩))
            | (go_at_call 59;exact Calls.quiet_of (fields_any _ _ _ _ _ (HV1.out.below (Zu (Below.refl _ _) _)) (HV2.out.below (Zu (Below.refl _ _) _)))))
        go_wp2;have hsm:sameD pl x y=false:=(by unfold sameD;rw[HT0.out,HT1.out,HT2.out,HC3.out,HC4.out];simp);go_ret;exact⟨retb (by rw[HI2.out.2.2.2,HD.out,hsm];rfl),HI2.out.2.1.trans (Below.mono (Zu (Below.refl _ _) _) HI2.out.2.1.size)⟩
      have HC4:=Za h4;clear h4;have v3:=HC3.out;have v4:=HC4.out;go_wp2;simp only[List.append_eq,List.cons_append,List.nil_append]
      go_quiet (first
          | (go_at_call 26;exact Calls.quiet_of_same ((ZU _ _ _ _).mono fun _ _ q=>⟨q.1,q.2.symm⟩))
          | (go_at_call 59;exact Calls.quiet_of (fields_any _ _ _ _ _ (HV1.out.below (Zu (Below.refl _ _) _)) (HV2.out.below (Zu (Below.refl _ _) _)))))
      go_wp2;have hsm:sameD pl x y=true:=(by unfold sameD;rw[HT0.out,HT1.out,HT2.out,HC3.out,HC4.out];simp);go_roundg (n - i)
      case measure=>have:=HI2.out.2.2.1;omega
      case rel=>exact⟨i+1,by rw[wrap_up i (Ze hi HM.out)],Za ⟨hi,HI2.out.2.1.trans (Below.mono (Zu (Below.refl _ _) _) HI2.out.2.1.size),by omega,by rw[HI2.out.2.2.2,HD.out,hsm];rfl⟩⟩
    · have hib:decide (i<n)=false:=Zm hi;go_wp2;go_ret;exact⟨retb (by rw[HI2.out.2.2.2];exact (sameAll_end _ l m i (by rw[HN1.out];omega) (by rw[HN2.out];omega)).symm),HI2.out.2.1⟩
 · have hnb:((l.length:Int)==(m.length:Int))=false:=(by simp;omega);have hnc:(l.length==m.length)=false:=(by simpa using hn);have HE:=Za (sameAll_len (sameD pl) l m hn);clear hl hm;go_enter Try.func24,Try.ntmps24;go_wp2;go_ret;exact⟨retb HE.out.symm,Below.refl _ _⟩
end RefSameD
namespace RefSameT
open Go Go.RowKit RefPure RefKinds RefMem RefTake RefSmall RefFields RefExprs RefExpr RefOne RefCells YtddmceldglelkaaW.PrintWords
open LexPure (T lex)
attribute [local go_sem] fld0 fld1 fld2 fld3
open RefSameP RefSame RefSameF RefSameC
theorem drewn_more {w wr:World} (h:∃ m,wr=w.drewN m) (n:Nat):∃ m,wr.drewN n=w.drewN m:=by obtain⟨m,rfl⟩:=h;exact⟨_,World.drewN_drewN _ _ _⟩
theorem ctor_cells {w:World} {A:Option Addr} {n c:Nat} {l:List CtorT} (h:Vw kCtor w (.slice A n c) l) (i:Nat) (x:CtorT) (hx:l[i]?=some x) :
    ∃ ad K k,A=some ad∧Vw kField w (.slice K x.fields.length k) x.fields∧w.cell? (ad.add (i*2))=some (.string x.name)∧w.cell? ⟨(ad.add (i*2)).block,(ad.add (i*2)).off+1,none⟩=some (.slice K x.fields.length k):=by
 obtain⟨ad,cs,hA,hK,hcell0⟩:=h.at_ i x hx;have hcell:∀ j u,cs[j]?=some u→w.cell? (ad.add (i*2+j))=some u:=hcell0;obtain⟨K,k,rfl,l1,c1⟩:=kCtor_open hK;exact⟨ad,K,k,hA,⟨K,k,rfl,l1,c1⟩,hcell 0 _ rfl,by rw[← ZN _ _ 1 (by omega)];exact hcell 1 _ rfl⟩
theorem type_cells {w:World} {A:Option Addr} {n c:Nat} {l:List TDecl} (h:Vw kTDecl w (.slice A n c) l) (i:Nat) (x:TDecl) (hx:l[i]?=some x) :
    ∃ ad K k,A=some ad∧Vw kCtor w (.slice K x.ctors.length k) x.ctors∧w.cell? (ad.add (i*4))=some (.string x.name)∧w.cell? ⟨(ad.add (i*4)).block,(ad.add (i*4)).off+1,none⟩=some (.string x.sub)∧w.cell? ⟨(ad.add (i*4)).block,(ad.add (i*4)).off+2,none⟩=some (.slice K x.ctors.length k)∧w.cell? ⟨(ad.add (i*4)).block,(ad.add (i*4)).off+3,none⟩=some (.int .i64 x.at_):=by
 obtain⟨ad,cs,hA,hK,hcell0⟩:=h.at_ i x hx;have hcell:∀ j u,cs[j]?=some u→w.cell? (ad.add (i*4+j))=some u:=hcell0;obtain⟨K,k,rfl,l1,c1⟩:=kTDecl_open hK;exact⟨ad,K,k,hA,⟨K,k,rfl,l1,c1⟩,hcell 0 _ rfl,by rw[← ZN _ _ 1 (by omega)];exact hcell 1 _ rfl,by rw[← ZN _ _ 2 (by omega)];exact hcell 2 _ rfl,by rw[← ZN _ _ 3 (by omega)];exact hcell 3 _ rfl⟩
theorem kinds_any (w:World) (l m:List TDecl) (vl vm:Value) (pl:Bool) (hl:Vw kTDecl w vl l) (hm:Vw kTDecl w vm m):Calls Try.prog 23 #[vl,vm,.bool pl] w fun e w'=>e=.returned (.bool (sameAll (sameT pl) l m))∧Below w.heap.size w w':=by
 obtain⟨A,c,rfl⟩:=hl.slice;obtain⟨A',c',rfl⟩:=hm.slice;by_cases hn:l.length=m.length
 · have HA:=Za hl;have HB:=Za hm;have HM:=Za hl.max;rw[← hn] at HB ⊢;obtain⟨n,hn1⟩:∃ n,l.length=n:=⟨_,rfl⟩;rw[hn1] at HA HB HM ⊢;have HN1:=Za hn1;have HN2:Hid (m.length=n):=Za (by rw[← hn,hn1]);clear hl hm hn hn1;go_enter Try.func23,Try.ntmps23;go_wp2;go_loopg [7] (n+1) (fun g v7 wr=>∃ i:Nat,v7=.int .i64 (i:Int)∧Hid (i≤n∧Below w.heap.size w wr∧n - i<g∧sameAll (sameT pl) l m=sameAll (sameT pl) (l.drop i) (m.drop i)))
   case atStart=>exact⟨0,rfl,Za ⟨Nat.zero_le _,Below.refl _ _,by omega,rfl⟩⟩
   case round=>
    obtain⟨i,rfl,HI2⟩:=hrel;by_cases hi:i<n
    · have hib:decide (i<n)=true:=Zl hi;obtain⟨x,hx⟩:∃ t,l[i]?=some t:=⟨l[i]'(by rw[HN1.out];exact hi),by simp⟩;obtain⟨y,hy⟩:∃ t,m[i]?=some t:=⟨m[i]'(by rw[HN2.out];exact hi),by simp⟩;obtain⟨d1,K1,k1,rfl,hV1,a0,a1,a2,a3⟩:=type_cells (HA.out.below HI2.out.2.1) i x hx;obtain⟨d2,K2,k2,rfl,hV2,b0,b1,b2,b3⟩:=type_cells (HB.out.below HI2.out.2.1) i y hy;have HV1:=Za hV1;have HV2:=Za hV2;have HD:=Za (sameAll_drop (sameT pl) l m i x y hx hy);clear hV1 hV2 hx hy;have hi0:(0:Int)≤(i:Int):=(by omega);have hi1:(i:Int)<(n:Int):=(by omega);by_cases h0:x.name=y.name;rotate_left
      · have HF0:Hid (decide (x.name=y.name)=false):=Za (Zm h0);have h0b:(x.name.toList==y.name.toList)=false:=(by rw[bytes_beq];exact Zm h0);have h0d:(x.name.toList != y.name.toList)=true:=(by rw[bne,h0b];rfl);clear h0;go_wp2;(try simp only[List.append_eq,List.cons_append,List.nil_append])
        go_quiet (first
            | (go_at_call 26;exact Calls.quiet_of_same ((ZU _ _ _ _).mono fun _ _ q=>⟨q.1,q.2.symm⟩)))
        go_wp2;have hsm:sameT pl x y=false:=(by unfold sameT;rw[HF0.out];simp);go_ret;exact⟨retb (by rw[HI2.out.2.2.2,HD.out,hsm];rfl),HI2.out.2.1.trans (Below.mono (Zu (Below.refl _ _) _) HI2.out.2.1.size)⟩
      have HT0:Hid (decide (x.name=y.name)=true):=Za (Zl h0);have h0b:(x.name.toList==y.name.toList)=true:=(by rw[bytes_beq];exact Zl h0);have h0d:(x.name.toList != y.name.toList)=false:=(by rw[bne,h0b];rfl);clear h0;by_cases h1:x.sub=y.sub;rotate_left
      · have HF1:Hid (decide (x.sub=y.sub)=false):=Za (Zm h1);have h1b:(x.sub.toList==y.sub.toList)=false:=(by rw[bytes_beq];exact Zm h1);have h1d:(x.sub.toList != y.sub.toList)=true:=(by rw[bne,h1b];rfl);clear h1;go_wp2;(try simp only[List.append_eq,List.cons_append,List.nil_append])
        go_quiet (first
            | (go_at_call 26;exact Calls.quiet_of_same ((ZU _ _ _ _).mono fun _ _ q=>⟨q.1,q.2.symm⟩)))
        go_wp2;have hsm:sameT pl x y=false:=(by unfold sameT;rw[HT0.out,HF1.out];simp);go_ret;exact⟨retb (by rw[HI2.out.2.2.2,HD.out,hsm];rfl),HI2.out.2.1.trans (Below.mono (Zu (Below.refl _ _) _) HI2.out.2.1.size)⟩
      have HT1:Hid (decide (x.sub=y.sub)=true):=Za (Zl h1);have h1b:(x.sub.toList==y.sub.toList)=true:=(by rw[bytes_beq];exact Zl h1);have h1d:(x.sub.toList != y.sub.toList)=false:=(by rw[bne,h1b];rfl);clear h1;cases h2:plc pl x.at_ y.at_
      · have HC2:=Za h2;go_wp2;(try simp only[List.append_eq,List.cons_append,List.nil_append])
        go_quiet (first
            | (go_at_call 26;exact Calls.quiet_of_same ((ZU _ _ _ _).mono fun _ _ q=>⟨q.1,q.2.symm⟩)))
        go_wp2;have hsm:sameT pl x y=false:=(by unfold sameT;rw[HT0.out,HT1.out,HC2.out];simp);go_ret;exact⟨retb (by rw[HI2.out.2.2.2,HD.out,hsm];rfl),HI2.out.2.1.trans (Below.mono (Zu (Below.refl _ _) _) HI2.out.2.1.size)⟩
      have HC2:=Za h2;clear h2;by_cases h3:x.ctors.length=y.ctors.length;rotate_left
      · have HF3:Hid (sameAll sameCt x.ctors y.ctors=false):=Za (sameAll_len _ _ _ h3);have hza:((x.ctors.length:Int)==(y.ctors.length:Int))=false:=(by simp;omega);have hzb:((x.ctors.length:Int) != (y.ctors.length:Int))=true:=(by simp;omega);have hzc:(x.ctors.length==y.ctors.length)=false:=(by simp;omega);have hzd:(x.ctors.length != y.ctors.length)=true:=(by simp;omega);have v2:=HC2.out;go_wp2;(try simp only[List.append_eq,List.cons_append,List.nil_append])
        go_quiet (first
            | (go_at_call 26;exact Calls.quiet_of_same ((ZU _ _ _ _).mono fun _ _ q=>⟨q.1,q.2.symm⟩)))
        go_wp2;have hsm:sameT pl x y=false:=(by unfold sameT;rw[HT0.out,HT1.out,HC2.out,HF3.out];simp);go_ret;exact⟨retb (by rw[HI2.out.2.2.2,HD.out,hsm];rfl),HI2.out.2.1.trans (Below.mono (Zu (Below.refl _ _) _) HI2.out.2.1.size)⟩
      have HMC:=Za HV1.out.max;obtain⟨nc,hnc⟩:∃ k,x.ctors.length=k:=⟨_,rfl⟩;rw[hnc] at a2 HV1 HMC;rw[← h3,hnc] at b2 HV2;have HC5:Hid (x.ctors.length=nc):=Za hnc;have HC6:Hid (y.ctors.length=nc):=Za (by rw[← h3,hnc]);clear h3 hnc;have v2:=HC2.out;go_wp2;(try simp only[List.append_eq,List.cons_append,List.nil_append])
      go_quiet (first
          | (go_at_call 26;exact Calls.quiet_of_same ((ZU _ _ _ _).mono fun _ _ q=>⟨q.1,q.2.symm⟩)))
      go_wp2;clear v2;rename World=>wo
      go_loopg [8] (nc+1) (fun g2 v8 wi=>∃ k:Nat,v8=.int .i64 (k:Int)∧Hid (k≤nc∧(∃ m,wi=wo.drewN m)∧nc - k<g2∧sameAll sameCt x.ctors y.ctors=sameAll sameCt (x.ctors.drop k) (y.ctors.drop k)))
      case atStart=>exact⟨0,rfl,Za ⟨Nat.zero_le _,⟨_,rfl⟩,by omega,rfl⟩⟩
      case round=>
       obtain⟨k,rfl,HI3⟩:=hrel;obtain⟨hk3,hdr,hg3,hs3⟩:=HI3.out;have HDR:=Za hdr;have HBR:=Za (drewn_below hdr);have a2:=ZG a2 HBR.out;have b2:=ZG b2 HBR.out;have HS3:=Za hs3;clear HI3 hs3 hdr;by_cases hk:k<nc
       · have hkb:decide (k<nc)=true:=Zl hk;obtain⟨p,hp⟩:∃ t,x.ctors[k]?=some t:=⟨x.ctors[k]'(by rw[HC5.out];exact hk),by simp⟩;obtain⟨r,hr⟩:∃ t,y.ctors[k]?=some t:=⟨y.ctors[k]'(by rw[HC6.out];exact hk),by simp⟩;obtain⟨d3,K3,k3,rfl,hV3,m0,m1⟩:=ctor_cells (HV1.out.below HBR.out) k p hp;obtain⟨d4,K4,k4,rfl,hV4,n0,n1⟩:=ctor_cells (HV2.out.below HBR.out) k r hr;have HV3:=Za hV3;have HV4:=Za hV4;have HD3:=Za (sameAll_drop sameCt x.ctors y.ctors k p r hp hr);clear hV3 hV4 hp hr;have hk0:(0:Int)≤(k:Int):=(by omega);have hk1:(k:Int)<(nc:Int):=(by omega);by_cases h7:p.name=r.name;rotate_left
         · have hct:sameCt p r=false:=(by simp[sameCt,h7]);have h7b:(p.name.toList==r.name.toList)=false:=(by rw[bytes_beq];exact Zm h7);have h7d:(p.name.toList != r.name.toList)=true:=(by rw[bne,h7b];rfl);clear h7;go_wp2;(try simp only[List.append_eq,List.cons_append,List.nil_append])
           go_quiet (first
               | (go_at_call 59;exact Calls.quiet_of (fields_any _ _ _ _ _ (HV3.out.below (Zu (Below.refl _ _) _)) (HV4.out.below (Zu (Below.refl _ _) _)))))
           go_wp2;have hsm:sameT pl x y=false:=(by unfold sameT;rw[HT0.out,HT1.out,HC2.out,HS3.out,HD3.out,hct];simp);go_ret;exact⟨retb (by rw[HI2.out.2.2.2,HD.out,hsm];rfl),HI2.out.2.1.trans (Below.mono (HBR.out.trans (Zu (Below.refl _ _) _)) HI2.out.2.1.size)⟩
         have h7b:(p.name.toList==r.name.toList)=true:=(by rw[bytes_beq];exact Zl h7);have h7d:(p.name.toList != r.name.toList)=false:=(by rw[bne,h7b];rfl);cases h8:sameAll sameF p.fields r.fields
         · have hct:sameCt p r=false:=(by simp[sameCt,h8]);clear h7;go_wp2;(try simp only[List.append_eq,List.cons_append,List.nil_append])
           go_quiet (first
               | (go_at_call 59;exact Calls.quiet_of (fields_any _ _ _ _ _ (HV3.out.below (Zu (Below.refl _ _) _)) (HV4.out.below (Zu (Below.refl _ _) _)))))
           go_wp2;have hsm:sameT pl x y=false:=(by unfold sameT;rw[HT0.out,HT1.out,HC2.out,HS3.out,HD3.out,hct];simp);go_ret;exact⟨retb (by rw[HI2.out.2.2.2,HD.out,hsm];rfl),HI2.out.2.1.trans (Below.mono (HBR.out.trans (Zu (Below.refl _ _) _)) HI2.out.2.1.size)⟩
         have hct:sameCt p r=true:=(by simp[sameCt,h7,h8]);clear h7;go_wp2;(try simp only[List.append_eq,List.cons_append,List.nil_append])
         go_quiet (first
             | (go_at_call 59;exact Calls.quiet_of (fields_any _ _ _ _ _ (HV3.out.below (Zu (Below.refl _ _) _)) (HV4.out.below (Zu (Below.refl _ _) _)))))
         go_wp2;go_roundg (nc - k)
         case measure=>omega
         case rel=>exact⟨k+1,by rw[wrap_up k (Ze hk HMC.out)],Za ⟨hk,drewn_more HDR.out _,by omega,by rw[HS3.out,HD3.out,hct];rfl⟩⟩
       · have hkb:decide (k<nc)=false:=Zm hk;have hsm:sameT pl x y=true:=(by unfold sameT;rw[HT0.out,HT1.out,HC2.out,HS3.out,sameAll_end _ _ _ _ (by rw[HC5.out];omega) (by rw[HC6.out];omega)];simp);go_wp2;go_roundg (n - i)
         case measure=>have:=HI2.out.2.2.1;omega
         case rel=>exact⟨i+1,by rw[wrap_up i (Ze hi HM.out)],Za ⟨hi,HI2.out.2.1.trans (Below.mono HBR.out HI2.out.2.1.size),by omega,by rw[HI2.out.2.2.2,HD.out,hsm];rfl⟩⟩
    · have hib:decide (i<n)=false:=Zm hi;go_wp2;go_ret;exact⟨retb (by rw[HI2.out.2.2.2];exact (sameAll_end _ l m i (by rw[HN1.out];omega) (by rw[HN2.out];omega)).symm),HI2.out.2.1⟩
 · have hnb:((l.length:Int)==(m.length:Int))=false:=(by simp;omega);have hnc:(l.length==m.length)=false:=(by simpa using hn);have HE:=Za (sameAll_len (sameT pl) l m hn);clear hl hm;go_enter Try.func23,Try.ntmps23;go_wp2;go_ret;exact⟨retb HE.out.symm,Below.refl _ _⟩
end RefSameT
namespace RefSameP
open Go Go.RowKit RefPure
theorem sameS_refl (a:ByteArray):sameS a a=true:=by simp[sameS]
end RefSameP
namespace CmpPure
open Go Go.RowKit RefPure
def hasS (l:List ByteArray) (s:ByteArray):Bool:=l.any (fun x=>decide (x=s))
theorem hasS_cons (s:ByteArray) (l:List ByteArray) (u:ByteArray):hasS (s :: l) u=(decide (s=u) || hasS l u):=rfl
theorem hasS_iff (l:List ByteArray) (u:ByteArray):hasS l u=true↔u∈l:=by unfold hasS;rw[List.any_eq_true];exact⟨fun ⟨x,hx,e⟩=>by rw[decide_eq_true_eq] at e;exact e▸hx,fun h=>⟨u,h,Zl rfl⟩⟩
def findC (cs:List CompT) (n:ByteArray):Option CompT:=cs.find? (fun c=>decide (c.name=n))
def manyP (p:ProgT):Nat:=p.types.length+p.decls.length+p.comps.length+p.inits.length+p.clauses.length
def addP (p q:ProgT):ProgT:=⟨p.types++q.types,p.decls++q.decls,p.comps++q.comps,p.inits++q.inits,p.clauses++q.clauses⟩
def basesS (f:ByteArray→Nat→Option (Nat×Int×ProgT)):List ByteArray→Nat→ProgT→Option (Nat×Int×ProgT)
 | [],n,out=>some (n,0,out)
 | b :: l,n,out=>
   match f b n with
   | none=>none
   | some (m,e,q)=>if e≠0 then some (m,e,prog0) else if 96<manyP (addP out q) then some (m,3,prog0) else basesS f l m (addP out q)
def wholeS (cs:List CompT):Nat→List ByteArray→ByteArray→Nat→Option (Nat×Int×ProgT)
 | 0,_,_,_=>none
 | k+1,on,nm,n=>
   match findC cs nm with
   | none=>some (n,6,prog0)
   | some c=>
     if hasS on nm=true then some (n,12,prog0)
     else if 96<n+1 then some (n+1,3,prog0)
     else
      match basesS (wholeS cs k (nm :: on)) c.bases (n+1) prog0 with
      | none=>none
      | some (m,e,out)=>if e≠0 then some (m,e,prog0) else if 96<manyP (addP out c.body) then some (m,3,prog0) else some (m,0,addP out c.body)
def wordL:List UInt8→List UInt8
 | []=>[]
 | b :: l=>if b=46 then [] else b :: wordL l
def wordS (n:ByteArray):ByteArray:=str (wordL n.data.toList)
def nameS (pre:ByteArray) (own:List ByteArray) (n:ByteArray):Option ByteArray:=
 if hasS own (wordS n)=true then (if 64<pre.size+n.size then none else some (pre++n)) else some n
def allS {α:Type} (f:α→Except (Int×Int) α):List α→Except (Int×Int) (List α)
 | []=>.ok []
 | x :: l=>
   match f x with
   | .error z=>.error z
   | .ok y=>match allS f l with
     | .error z=>.error z
     | .ok m=>.ok (y :: m)
def declS (pre:ByteArray) (own:List ByteArray) (d:DeclT):Except (Int×Int) DeclT:=
 match nameS pre own d.name with
 | none=>.error (2,d.at_)
 | some n=>.ok { d with name:=n }
def atomS (pre:ByteArray) (own:List ByteArray) (a:AtomT):Except (Int×Int) AtomT:=
 match nameS pre own a.rel with
 | none=>.error (2,a.at_)
 | some n=>.ok { a with rel:=n }
def litS (pre:ByteArray) (own:List ByteArray) (l:LitT):Except (Int×Int) LitT:=
 if l.kind=1∨l.kind=2 then
  match atomS pre own l.atom with
  | .error z=>.error z
  | .ok a=>.ok { l with atom:=a }
 else .ok l
def clauseS (pre:ByteArray) (own:List ByteArray) (c:ClauseT):Except (Int×Int) ClauseT:=
 match atomS pre own c.head with
 | .error z=>.error z
 | .ok a=>match allS (litS pre own) c.body with
   | .error z=>.error z
   | .ok b=>.ok { c with head:=a,body:=b }
structure Out where
 made:Nat
 decls:List DeclT
 clauses:List ClauseT
def dot (pre n:ByteArray):ByteArray:=pre++n++str [46]
def initsS (whole:ByteArray→Option (Int×ProgT)) (inst:ProgT→ByteArray→Int→List ByteArray→Out→Option (Except (Int×Int) Out)) (pre:ByteArray) (way:List ByteArray) :
    List InitT→List ByteArray→Out→Option (Except (Int×Int) Out)
 | [],_,o=>some (.ok o)
 | x :: l,met,o=>
   if hasS met x.name=true then some (.error (11,x.at_))
   else match whole x.comp with
    | none=>none
    | some (e,b)=>
      if e≠0 then some (.error (e,x.at_))
      else if hasS way x.comp=true then some (.error (12,x.at_))
      else match inst b (dot pre x.name) x.at_ (way++[x.comp]) o with
       | none=>none
       | some (.error z)=>some (.error z)
       | some (.ok o')=>initsS whole inst pre way l (x.name :: met) o'
def names (l:List DeclT):List ByteArray:=l.map (·.name)
def inames (l:List InitT):List ByteArray:=l.map (·.name)
def ownS (b:ProgT):List ByteArray:=(inames b.inits).reverse++(names b.decls).reverse
def instS (whole:ByteArray→Option (Int×ProgT)):Nat→ProgT→ByteArray→Int→List ByteArray→Out→Option (Except (Int×Int) Out)
 | 0,_,_,_,_,_=>none
 | k+1,b,pre,at_,way,o=>
   if 96<o.made+1 then some (.error (3,at_))
   else match allS (declS pre (ownS b)) b.decls with
    | .error z=>some (.error z)
    | .ok ds=>match allS (clauseS pre (ownS b)) b.clauses with
      | .error z=>some (.error z)
      | .ok ls=>
        if 96<o.decls.length+o.clauses.length+ds.length+ls.length then some (.error (3,at_))
        else initsS whole (instS whole k) pre way b.inits (names b.decls).reverse ⟨o.made+1,o.decls++ds,o.clauses++ls⟩
def twice:List CompT→List ByteArray→Option (Int×Int)
 | [],_=>none
 | c :: l,met=>if hasS met c.name=true then some (11,c.at_) else twice l (c.name :: met)
def inner:List CompT→Option (Int×Int)
 | []=>none
 | c :: l=>
   match c.body.types with
   | t :: _=>some (1,t.at_)
   | []=>match c.body.comps with
     | d :: _=>some (1,d.at_)
     | []=>inner l
def rulesS (cs:List CompT):Option (Int×Int):=
 match twice cs [] with
 | some z=>some z
 | none=>inner cs
def wholeOf (cs:List CompT) (nm:ByteArray):Option (Int×ProgT):=(wholeS cs (cs.length+1) [] nm 0).map (fun r=>r.2)
def flatS (p:ProgT):Option (Except (Int×Int) ProgT):=
 match rulesS p.comps with
 | some z=>some (.error z)
 | none=>(initsS (wholeOf p.comps) (instS (wholeOf p.comps) (p.comps.length+1)) (str []) [] p.inits (names p.decls).reverse ⟨0,p.decls,p.clauses⟩).map
     (fun r=>match r with|.error z=>.error z|.ok o=>.ok ⟨p.types,o.decls,[],[],o.clauses⟩)
theorem nodup_le {α:Type} [DecidableEq α]:∀ (l m:List α),l.Nodup→(∀ x∈l,x∈m)→l.length≤m.length:=by
 intro l;induction l with
 | nil=>intro m _ _;exact Nat.zero_le _
 | cons a l ih=>intro m hd hm;have ha:a∈m:=hm a (List.mem_cons_self ..);have:=ih (m.erase a) (List.nodup_cons.1 hd).2 (fun x hx=>by have hne:x≠a:=fun e=>(List.nodup_cons.1 hd).1 (e▸hx);exact (List.mem_erase_of_ne hne).2 (hm x (List.mem_cons_of_mem _ hx)));rw[List.length_erase_of_mem ha] at this;have:0<m.length:=List.length_pos_of_mem ha;simp only[Zj];omega
theorem findC_mem {cs:List CompT} {n:ByteArray} {c:CompT} (h:findC cs n=some c):c∈cs∧c.name=n:=by have h1:=List.mem_of_find?_eq_some h;have h2:=List.find?_some h;exact⟨h1,by simpa using h2⟩
theorem basesS_tot (f:ByteArray→Nat→Option (Nat×Int×ProgT)) (hf:∀ b n,(f b n).isSome=true):∀ (l:List ByteArray) (n:Nat) (out:ProgT),(basesS f l n out).isSome=true:=by
 intro l;induction l with
 | nil=>intro n out;rfl
 | cons b l ih=>
   intro n out;unfold basesS;have:=hf b n;cases e:f b n with
   | none=>rw[e] at this;cases this
   | some r=>
     obtain⟨m,e,q⟩:=r;simp only;split
     · rfl
     · split
       · rfl
       · exact ih _ _
theorem wholeS_tot (cs:List CompT):∀ (k:Nat) (on:List ByteArray) (nm:ByteArray) (n:Nat),on.Nodup→(∀ x∈on,x∈cs.map (·.name))→cs.length+1≤k+on.length→(wholeS cs k on nm n).isSome=true:=by
 intro k;induction k with
 | zero=>intro on nm n hd hs hl;have:=nodup_le on (cs.map (·.name)) hd hs;rw[List.length_map] at this;omega
 | succ k ih=>
   intro on nm n hd hs hl;unfold wholeS;cases e:findC cs nm with
   | none=>rfl
   | some c=>
     simp only;split
     · rfl
     · next hon=>
       split
       · rfl
       · have hbs:=basesS_tot (wholeS cs k (nm :: on)) (fun b m=>ih (nm :: on) b m (List.nodup_cons.2 ⟨fun q=>hon ((hasS_iff _ _).2 q),hd⟩) (fun x hx=>by
           rcases List.mem_cons.1 hx with rfl|hx
           · have:=findC_mem e;exact List.mem_map.2 ⟨c,this.1,this.2⟩
           · exact hs x hx) (by rw[Zj];omega)) c.bases (n+1) prog0
         cases eb:basesS (wholeS cs k (nm :: on)) c.bases (n+1) prog0 with
         | none=>rw[eb] at hbs;cases hbs
         | some r=>
           obtain⟨m,e,q⟩:=r;simp only;split
           · rfl
           · split <;> rfl
theorem wholeOf_tot (cs:List CompT) (nm:ByteArray):(wholeOf cs nm).isSome=true:=by unfold wholeOf;rw[Option.isSome_map];exact wholeS_tot cs _ [] nm 0 List.nodup_nil (fun x hx=>absurd hx List.not_mem_nil) (by rw[Zk];omega)
theorem wholeS_found {cs:List CompT} {k:Nat} {on:List ByteArray} {nm:ByteArray} {n m:Nat} {q:ProgT} (h:wholeS cs k on nm n=some (m,0,q)):nm∈cs.map (·.name):=by
 cases k with
 | zero=>cases h
 | succ k=>
   unfold wholeS at h;cases e:findC cs nm with
   | none=>rw[e] at h;simp at h
   | some c=>have:=findC_mem e;exact List.mem_map.2 ⟨c,this.1,this.2⟩
theorem wholeOf_found {cs:List CompT} {nm:ByteArray} {q:ProgT} (h:wholeOf cs nm=some (0,q)):nm∈cs.map (·.name):=by unfold wholeOf at h;obtain⟨⟨m,e,q'⟩,h1,h2⟩:=Option.map_eq_some_iff.1 h;simp only[Prod.mk.injEq] at h2;obtain⟨rfl,rfl⟩:=h2;exact wholeS_found h1
theorem initsS_tot (cs:List CompT) (inst:ProgT→ByteArray→Int→List ByteArray→Out→Option (Except (Int×Int) Out)) (pre:ByteArray) (way:List ByteArray)
    (hi:∀ b p a nm o,nm∈cs.map (·.name)→hasS way nm=false→(inst b p a (way++[nm]) o).isSome=true):∀ (l:List InitT) (met:List ByteArray) (o:Out),(initsS (wholeOf cs) inst pre way l met o).isSome=true:=by
 intro l;induction l with
 | nil=>intro met o;rfl
 | cons x l ih=>
   intro met o;unfold initsS;split
   · rfl
   · have hw:=wholeOf_tot cs x.comp;cases e:wholeOf cs x.comp with
     | none=>rw[e] at hw;cases hw
     | some r=>
       obtain⟨z,b⟩:=r;simp only;split
       · rfl
       · next hz=>
         have hz0:z=0:=Decidable.not_not.1 hz;subst hz0;split
         · rfl
         · next hway=>
           have:=hi b (dot pre x.name) x.at_ x.comp o (wholeOf_found e) (by simpa using hway);cases e2:inst b (dot pre x.name) x.at_ (way++[x.comp]) o with
           | none=>rw[e2] at this;cases this
           | some r=>cases r with
             | error z=>rfl
             | ok o'=>exact ih _ _
theorem instS_tot (cs:List CompT):∀ (k:Nat) (b:ProgT) (pre:ByteArray) (at_:Int) (way:List ByteArray) (o:Out),way.Nodup→(∀ x∈way,x∈cs.map (·.name))→cs.length+1≤k+way.length→(instS (wholeOf cs) k b pre at_ way o).isSome=true:=by
 intro k;induction k with
 | zero=>intro b pre at_ way o hd hs hl;have:=nodup_le way (cs.map (·.name)) hd hs;rw[List.length_map] at this;omega
 | succ k ih=>
   intro b pre at_ way o hd hs hl;unfold instS;split
   · rfl
   · cases allS (declS pre (ownS b)) b.decls with
     | error z=>rfl
     | ok ds=>cases allS (clauseS pre (ownS b)) b.clauses with
       | error z=>rfl
       | ok ls=>
         simp only;split
         · rfl
         · refine initsS_tot cs _ pre way (fun b p a nm o hnm hway=>ih _ _ _ _ _ ?_ ?_ ?_) _ _ _
           · rw[List.nodup_append];refine⟨hd,by simp,fun x hx y hy e=>?_⟩;rw[List.mem_singleton] at hy;have:=(hasS_iff way nm).2 (hy▸e▸hx);rw[hway] at this;cases this
           · intro x hx;rcases List.mem_append.1 hx with hx|hx
             · exact hs x hx
             · rw[List.mem_singleton] at hx;exact hx▸hnm
           · rw[Zi,List.length_singleton];omega
theorem flatS_tot (p:ProgT):(flatS p).isSome=true:=by
 unfold flatS;cases rulesS p.comps with
 | some z=>rfl
 | none=>
   simp only[Option.isSome_map];refine initsS_tot p.comps _ _ _ (fun b q a nm o hnm _=>instS_tot p.comps _ _ _ _ _ _ ?_ ?_ ?_) _ _ _
   · simp
   · intro x hx;rw[List.nil_append,List.mem_singleton] at hx;exact hx▸hnm
   · simp only[List.nil_append,List.length_singleton];omega
theorem allS_snoc {α:Type} (f:α→Except (Int×Int) α):∀ (l:List α) (m:List α) (x y:α),allS f l=.ok m→f x=.ok y→allS f (l++[x])=.ok (m++[y]):=by
 intro l;induction l with
 | nil=>intro m x y h hx;injection h with h;subst h;simp only[List.nil_append,allS,hx]
 | cons a l ih=>
   intro m x y h hx;rw[allS] at h;rw[List.cons_append,allS];cases e:f a with
   | error z=>rw[e] at h;cases h
   | ok b=>
     rw[e] at h;simp only at h ⊢;cases e2:allS f l with
     | error z=>rw[e2] at h;cases h
     | ok n=>
       rw[e2] at h;injection h with h
       subst h;rw[ih n x y e2 hx];rfl
theorem allS_fall {α:Type} (f:α→Except (Int×Int) α):∀ (l r:List α) (m:List α) (x:α) (z:Int×Int),allS f l=.ok m→f x=.error z→allS f (l++x :: r)=.error z:=by
 intro l;induction l with
 | nil=>intro r m x z _ hx;simp only[List.nil_append,allS,hx]
 | cons a l ih=>
   intro r m x z h hx;rw[allS] at h;rw[List.cons_append,allS];cases e:f a with
   | error z=>rw[e] at h;cases h
   | ok b=>
     rw[e] at h;simp only at h ⊢;cases e2:allS f l with
     | error z=>rw[e2] at h;cases h
     | ok n=>rw[ih r n x z e2 hx]
theorem allS_len {α:Type} (f:α→Except (Int×Int) α):∀ (l m:List α),allS f l=.ok m→m.length=l.length:=by
 intro l;induction l with
 | nil=>intro m h;injection h with h;subst h;rfl
 | cons a l ih=>
   intro m h;rw[allS] at h;cases e:f a with
   | error z=>rw[e] at h;cases h
   | ok b=>
     rw[e] at h;simp only at h;cases e2:allS f l with
     | error z=>rw[e2] at h;cases h
     | ok n=>rw[e2] at h;injection h with h;subst h;simp[ih n e2]
end CmpPure
namespace CmpMap
open Go Go.Maps Go.WideMaps CmpPure
theorem skey:Keyed Try.prog 9:=string_keyed Try.underlying9
theorem plainElem_bool_inv {H:Type} {P:Program} {e:TypeId} (he:P.underlying e=some .bool) {v:Value} {z:DataW H×List MemPlace} (h:plainElem P e v=some z):∃ a,v=.bool a∧z=(.lit (.bool a),[]):=by unfold plainElem at h;rw[he] at h;cases v <;> simp at h;subst h;exact⟨_,rfl,rfl⟩
def Met (w:World) (b m:Nat) (l:List ByteArray):Prop:=
 ∃ D:DataW Unit,w.ownsMap Try.prog 9 (plainElem Try.prog 4) b m D∧IsMap D∧∀ s:ByteArray,s.size≤maxLen→D.atKey (.string s.data.toList) (.lit (.bool false))=.lit (.bool (hasS l s))
section
variable {w w':World} {b m:Nat} {l:List ByteArray}
theorem Met.made (w:World):Met (w.alloc (.map #[] 0)) w.heap.size 0 []:=⟨.map [],World.ownsMap_made _ _ _ _,⟨_,rfl⟩,fun s _=>rfl⟩
theorem Met.kept {row:Option Nat} (h:Met w b m l) (hg:w.grownBy w' row) (hne:some b≠row):Met w' b m l:=by obtain⟨D,h1,h2,h3⟩:=h;exact⟨D,h1.kept hg hne,h2,h3⟩
theorem Met.alloc (h:Met w b m l) (o:Obj):Met (w.alloc o) b m l:=h.kept (World.grownBy_alloc w o none) (by simp)
theorem text_inj {a b:ByteArray} (h:a.data.toList=b.data.toList):a=b:=by cases a;cases b;congr 1;exact Array.toList_inj.1 h
theorem Met.get (h:Met w b m l) {s:ByteArray} (hs:s.size≤maxLen):(Instr.lookup 85 (.map (some b)) (.string s) false).run Try.prog w=.ok (.bool (hasS l s)) w:=by obtain⟨D,h1,h2,h3⟩:=h;obtain⟨v,ps,hrun,hv⟩:=h1.lookup (t:=85) (e:=4) skey Try.underlying85 (z:=.bool false) (by kernel_rfl) (plainElem_bool Try.underlying4 false) (keyOf_string_mk Try.underlying9 hs);obtain⟨c,rfl,hc⟩:=plainElem_bool_inv Try.underlying4 hv;simp only[Prod.mk.injEq] at hc;rw[h3 s hs] at hc;have:hasS l s=c:=(by simpa using hc.1);rw[this];exact hrun
theorem Met.put (h:Met w b m l) (hm:m<maxLen) {s:ByteArray} (hs:s.size≤maxLen):∃ w',(Instr.mapUpdate 85 (.map (some b)) (.string s) (.bool true)).run Try.prog w=.ok () w'∧Met w' b (m+1) (s :: l)∧w.grownBy w' (some b):=by
 obtain⟨D,h1,h2,h3⟩:=h;obtain⟨w',hrun,h1',hg⟩:=h1.update (t:=85) (e:=4) skey Try.underlying85 hm (keyOf_string_mk Try.underlying9 hs) (plainElem_bool Try.underlying4 true);refine⟨w',hrun,⟨_,h1',?_,fun u hu=>?_⟩,hg⟩
 · obtain⟨es,rfl⟩:=h2;exact⟨_,rfl⟩
 · by_cases e:u=s
   · subst e;rw[atKey_put_same h2 (by trivial),hasS_cons,Zl rfl];rfl
   · rw[atKey_put_other (fun q=>e (text_inj (by simpa using q))),h3 u hu,hasS_cons,Zm (fun q=>e q.symm)];rfl
theorem Met.drop (h:Met w b m l) {s:ByteArray} (hs:s.size≤maxLen) (ty:TypeId):∃ w',(Builtin.delete_ #[85,9] ty #[.map (some b),.string s]).run Try.prog w=.ok (.tuple #[]) w'∧w.grownBy w' (some b)∧∀ l':List ByteArray,(∀ u,hasS l' u=(hasS l u&&!decide (s=u)))→Met w' b m l':=by
 obtain⟨D,h1,h2,h3⟩:=h;obtain⟨w',hrun,h1',hg⟩:=h1.drop (t:=85) (e:=4) skey Try.underlying85 (keyOf_string_mk Try.underlying9 hs) ty;refine⟨w',hrun,hg.grown,fun l' hl'=>⟨_,h1',?_,fun u hu=>?_⟩⟩
 · obtain⟨es,rfl⟩:=h2;exact⟨_,rfl⟩
 · rw[hl' u];by_cases e:u=s
   · subst e;rw[atKey_del_same,Zl rfl,Bool.not_true,Bool.and_false]
   · rw[atKey_del_other (fun q=>e (text_inj (by simpa using q))),h3 u hu,Zm (fun q=>e q.symm),Bool.not_false,Bool.and_true]
end
end CmpMap
namespace CmpMem
open Go Go.RowKit RefPure RefKinds RefMem RefSameP CmpPure CmpMap YtddmceldglelkaaW.PrintWords
structure Kp (S:Nat→Prop) (w w':World):Prop where
 os:w'.os=w.os
 tape:w'.tape=w.tape
 output:w'.output=w.output
 size:w.heap.size≤w'.heap.size
 block:∀ k,k<w.heap.size→¬S k→w'.heap[k]?=w.heap[k]?
section
variable {S S':Nat→Prop} {w w1 w2:World}
theorem Kp.refl (S:Nat→Prop) (w:World):Kp S w w:=⟨rfl,rfl,rfl,Zc _,fun _ _ _=>rfl⟩
theorem Kp.trans (h:Kp S w w1) (k:Kp S' w1 w2) (hS:∀ b,b<w.heap.size→S' b→S b):Kp S w w2:=
 ⟨k.os.trans h.os,k.tape.trans h.tape,k.output.trans h.output,Ze h.size k.size,fun b hb hs=>(k.block b (Nat.lt_of_lt_of_le hb h.size) (fun q=>hs (hS b hb q))).trans (h.block b hb hs)⟩
theorem Kp.of_below (S:Nat→Prop) (h:Below w.heap.size w w1):Kp S w w1:=⟨h.os,h.tape,h.output,h.size,fun b hb _=>h.block b hb⟩
theorem Kp.of_grown {row:Option Nat} (h:w.grownBy w1 row) (hS:∀ k,row=some k→S k):Kp S w w1:=⟨h.os,h.tape,h.output,h.size,fun b hb hs=>h.block b hb (fun e=>hs (hS b e.symm))⟩
theorem Kp.below {n:Nat} (h:Kp S w w1) (hS:∀ k,k<n→S k→False) (hn:n≤w.heap.size):Below n w w1:=⟨h.os,h.tape,h.output,h.size,fun b hb=>h.block b (Nat.lt_of_lt_of_le hb hn) (hS b hb)⟩
theorem Kp.below2 {n:Nat} {w0:World} (hb0:Below n w0 w) (h:Kp S w w1) (hS:∀ k,k<n→S k→False) (hn:n≤w.heap.size):Below n w0 w1:=hb0.trans (h.below hS hn)
theorem Kp.mono (h:Kp S w w1) (hS:∀ b,b<w.heap.size→S b→S' b):Kp S' w w1:=⟨h.os,h.tape,h.output,h.size,fun b hb hs=>h.block b hb (fun q=>hs (hS b hb q))⟩
theorem Kp.then_below (h:Kp S w w1) (k:Below w1.heap.size w1 w2):Kp S w w2:=h.trans (Kp.of_below (fun _=>False) k) (fun _ _ q=>q.elim)
theorem Kp.then_grown {row:Option Nat} (h:Kp S w w1) (k:w1.grownBy w2 row) (hS:∀ b,row=some b→b<w.heap.size→S b):Kp S w w2:=
 h.trans (Kp.of_grown (S:=fun b=>row=some b) k (fun _ q=>q)) (fun b hb q=>hS b q hb)
theorem Kp.alloc (h:Kp S w w1) (o:Obj):Kp S w (w1.alloc o):=h.then_below ((Below.refl _ _).alloc (Zc _) o)
theorem Kp.drew (h:Kp S w w1):Kp S w w1.drew:=h.then_below (Below.refl _ _).drew
theorem Kp.set (h:Kp S w w1) {X:Nat} (hX:X<w.heap.size→S X) (j:Nat) (u:Value):Kp S w (w1.setCell ⟨X,j,none⟩ u):=
 h.then_grown (grown_set w1 X j u) (fun b e hb=>by injection e with e;subst e;exact hX hb)
theorem Kp.blk {g:Nat} {t:TypeId} {cs:Array Value} (h:Kp S w w1) (hB:Blk w g t cs) (hg:¬S g):Blk w1 g t cs:=(h.block g hB.lt hg).trans hB
theorem Kp.R {α:Type} {d:Kd α} {e base:Nat} {ok:Nat→Prop} {v:Value} {xs:List α} (h:Kp S w w1) (hR:d.R e w base ok v xs) (hS:∀ k,ok k→k<w.heap.size→¬S k):d.R e w1 base ok v xs:=
 Kd.R_mono (Kd.R_move (Kd.R_mono (ok':=fun k=>ok k∧k<w.heap.size) (Kd.R_bound hR) (fun k hk=>⟨hk.1,hk.2.2.1⟩)) (fun k hk=>h.block k hk.2 (hS k hk.1 hk.2))) (fun k hk=>hk.1)
theorem Kp.met {b m:Nat} {l:List ByteArray} (h:Kp S w w1) (hM:CmpMap.Met w b m l) (hb:¬S b):CmpMap.Met w1 b m l:=by
 obtain⟨D,⟨es,ck,h1,h2⟩,h3⟩:=hM;have hlt:b<w.heap.size:=by
  rcases Nat.lt_or_ge b w.heap.size with q|q
  · exact q
  · rw[Array.getElem?_eq_none q] at h1;cases h1
 exact⟨D,⟨es,ck,(h.block b hlt hb).trans h1,h2⟩,h3⟩
end
theorem size1 (w:World) (o:Obj):(w.alloc o).heap.size=w.heap.size+1:=Array.size_push ..
theorem blk_new1 (w:World) (o:Obj) (t:TypeId) (cs:Array Value):Blk ((w.alloc o).alloc (.cells cs t)) (w.heap.size+1) t cs:=by have:=Blk.new (w.alloc o) t cs;rwa [size1] at this
theorem blk_new2 (w:World) (o o':Obj) (t:TypeId) (cs:Array Value):Blk (((w.alloc o).alloc o').alloc (.cells cs t)) (w.heap.size+1+1) t cs:=by have:=blk_new1 (w.alloc o) o' t cs;rwa [size1] at this
theorem blk_new3 (w:World) (o o' o2:Obj) (t:TypeId) (cs:Array Value):Blk ((((w.alloc o).alloc o').alloc o2).alloc (.cells cs t)) (w.heap.size+1+1+1) t cs:=by have:=blk_new2 (w.alloc o) o' o2 t cs;rwa [size1] at this
theorem below1 (w:World) (o:Obj):Below w.heap.size w (w.alloc o):=(Below.refl _ w).alloc (Zc _) o
theorem below2 (w:World) (o o2:Obj):Below w.heap.size w ((w.alloc o).alloc o2):=(below1 w o).alloc (below1 w o).size o2
theorem below3 (w:World) (o o2 o3:Obj):Below w.heap.size w (((w.alloc o).alloc o2).alloc o3):=(below2 w o o2).alloc (below2 w o o2).size o3
theorem below4 (w:World) (o o2 o3 o4:Obj):Below w.heap.size w ((((w.alloc o).alloc o2).alloc o3).alloc o4):=(below3 w o o2 o3).alloc (below3 w o o2 o3).size o4
theorem wrap_up (i:Nat) (h:i+1≤9223372036854775807):wrap64 ((i:Int)+1)=((i+1:Nat):Int):=by unfold wrap64;omega
def Off (n0:Nat) (os:List Value) (b:Nat):Prop:=n0≤b∧∀ o∈os,o.ownBlock≠some b
structure FRows (w0 w:World) (n0:Nat) (vT vD vC vI vL:Value) (p:ProgT):Prop where
 t:(Kd.fixed kTDecl w0).R 73 w n0 (Off n0 [vD,vC,vI,vL]) vT p.types
 d:(Kd.fixed kDecl w0).R 46 w n0 (Off n0 [vT,vC,vI,vL]) vD p.decls
 c:(Kd.fixed kComp w0).R 42 w n0 (Off n0 [vT,vD,vI,vL]) vC p.comps
 i:(Kd.fixed kInit w0).R 48 w n0 (Off n0 [vT,vD,vC,vL]) vI p.inits
 l:(Kd.fixed kClause w0).R 54 w n0 (Off n0 [vT,vD,vC,vI]) vL p.clauses
structure PV (w0 w:World) (vT vD vC vI vL:Value) (p:ProgT):Prop where
 t:Vw (Kd.fixed kTDecl w0) w vT p.types
 d:Vw (Kd.fixed kDecl w0) w vD p.decls
 c:Vw (Kd.fixed kComp w0) w vC p.comps
 i:Vw (Kd.fixed kInit w0) w vI p.inits
 l:Vw (Kd.fixed kClause w0) w vL p.clauses
theorem vw_fixed {α:Type} {d:Kd α} {w:World} {v:Value} {xs:List α} (h:Vw d w v xs):Vw (Kd.fixed d w) w v xs:=h
section
variable {w0 w w1:World} {n0:Nat} {vT vD vC vI vL v1:Value} {p:ProgT} {S:Nat→Prop}
theorem PV.below (h:PV w0 w vT vD vC vI vL p) (hb:Below w.heap.size w w1):PV w0 w1 vT vD vC vI vL p:=⟨h.t.below hb,h.d.below hb,h.c.below hb,h.i.below hb,h.l.below hb⟩
theorem PV.values (h:PV w0 w vT vD vC vI vL p):∃ A1 c1 A2 c2 A3 c3 A4 c4 A5 c5,vT=.slice A1 p.types.length c1∧vD=.slice A2 p.decls.length c2∧vC=.slice A3 p.comps.length c3∧vI=.slice A4 p.inits.length c4∧vL=.slice A5 p.clauses.length c5:=by obtain⟨A1,c1,e1⟩:=h.t.slice;obtain⟨A2,c2,e2⟩:=h.d.slice;obtain⟨A3,c3,e3⟩:=h.c.slice;obtain⟨A4,c4,e4⟩:=h.i.slice;obtain⟨A5,c5,e5⟩:=h.l.slice;exact⟨A1,c1,A2,c2,A3,c3,A4,c4,A5,c5,e1,e2,e3,e4,e5⟩
theorem FRows.nil (w0 w:World) (n0:Nat):FRows w0 w n0 (.slice none 0 0) (.slice none 0 0) (.slice none 0 0) (.slice none 0 0) (.slice none 0 0) prog0:=
 ⟨Kd.R_nil _ _ _ _ _,Kd.R_nil _ _ _ _ _,Kd.R_nil _ _ _ _ _,Kd.R_nil _ _ _ _ _,Kd.R_nil _ _ _ _ _⟩
theorem FRows.view (h:FRows w0 w n0 vT vD vC vI vL p):PV w0 w vT vD vC vI vL p:=⟨Vw.of_R h.t,Vw.of_R h.d,Vw.of_R h.c,Vw.of_R h.i,Vw.of_R h.l⟩
theorem FRows.kp (h:FRows w0 w n0 vT vD vC vI vL p) (hk:Kp S w w1) (hS:∀ k,n0≤k→k<w.heap.size→¬S k):FRows w0 w1 n0 vT vD vC vI vL p:=
 ⟨hk.R h.t (fun k q=>hS k q.1),hk.R h.d (fun k q=>hS k q.1),hk.R h.c (fun k q=>hS k q.1),hk.R h.i (fun k q=>hS k q.1),hk.R h.l (fun k q=>hS k q.1)⟩
theorem FRows.lower (h:FRows w0 w n0 vT vD vC vI vL p) {m:Nat} (hm:m≤n0):FRows w0 w m vT vD vC vI vL p:=by have q:∀ (os:List Value) (b:Nat),Off n0 os b→Off m os b:=fun os b hb=>⟨Ze hm hb.1,hb.2⟩;exact⟨Kd.R_mono (Kd.R_lower h.t hm) (q _),Kd.R_mono (Kd.R_lower h.d hm) (q _),Kd.R_mono (Kd.R_lower h.c hm) (q _),Kd.R_mono (Kd.R_lower h.i hm) (q _),Kd.R_mono (Kd.R_lower h.l hm) (q _)⟩
theorem FRows.newer (h:FRows w0 w n0 vT vD vC vI vL p) (k:Nat) (hk:w.heap.size≤k):∀ o∈[vT,vD,vC,vI,vL],o.ownBlock≠some k:=by
 intro o ho e;have:k<w.heap.size:=by
  simp only[List.mem_cons,List.not_mem_nil,or_false] at ho;rcases ho with rfl|rfl|rfl|rfl|rfl
  · exact Kd.R_lt h.t k e
  · exact Kd.R_lt h.d k e
  · exact Kd.R_lt h.c k e
  · exact Kd.R_lt h.i k e
  · exact Kd.R_lt h.l k e
 omega
theorem FRows.off (h:FRows w0 w n0 vT vD vC vI vL p) (h0:n0≤w.heap.size) (os:List Value) (hos:∀ o∈os,o∈[vT,vD,vC,vI,vL]) (k:Nat) (hk:w.heap.size≤k):Off n0 os k:=
 ⟨Ze h0 hk,fun o ho=>h.newer k hk o (hos o ho)⟩
theorem FRows.own (h:FRows w0 w n0 vT vD vC vI vL p):∀ o∈[vT,vD,vC,vI,vL],∀ k,o.ownBlock=some k→n0≤k:=by
 intro o ho;simp only[List.mem_cons,List.not_mem_nil,or_false] at ho;rcases ho with rfl|rfl|rfl|rfl|rfl
 · exact Kd.R_base h.t
 · exact Kd.R_base h.d
 · exact Kd.R_base h.c
 · exact Kd.R_base h.i
 · exact Kd.R_base h.l
theorem off_next {α:Type} {d:Kd α} {e n0:Nat} {W w1:World} {os os':List Value} {v v1 vl:Value} {l:List α} (h:d.R e W n0 (Off n0 os) vl l) (hv:v∈os) (hgr:W.grownBy w1 v.ownBlock)
    (hat:v1.ownBlock=v.ownBlock∨∃ b,v1.ownBlock=some b∧W.heap.size≤b) (hos:∀ o∈os',o∈os∨o=v1):d.R e w1 n0 (Off n0 os') vl l:=by
 have h1:=Kd.R_mono (ok':=fun b=>Off n0 os b∧b<W.heap.size) (Kd.R_bound h) (fun b hb=>⟨hb.1,hb.2.2.1⟩);have h2:=Kd.R_grown h1 hgr (fun b hb e=>hb.1.2 v hv e.symm);refine Kd.R_mono h2 (fun b hb=>⟨hb.1.1,fun o ho=>?_⟩);rcases hos o ho with q|q
 · exact hb.1.2 o q
 · subst q;rcases hat with q|⟨c,q,hc⟩
   · rw[q];exact hb.1.2 v hv
   · rw[q];intro e2;injection e2 with e2
     have:=hb.2;omega
end
theorem infoTDecl:(Try.prog.info? 73).map (fun i=>(i.zero,i.size,i.bytes))=some (some (.agg #[.string ⟨#[]⟩,.string ⟨#[]⟩,.slice none 0 0,.int .i64 0]),4,64):=by kernel_rfl
theorem infoDecl:(Try.prog.info? 46).map (fun i=>(i.zero,i.size,i.bytes))=some (some (.agg #[.string ⟨#[]⟩,.slice none 0 0,.bool false,.bool false,.int .i64 0]),5,56):=by kernel_rfl
theorem infoInit:(Try.prog.info? 48).map (fun i=>(i.zero,i.size,i.bytes))=some (some (.agg #[.string ⟨#[]⟩,.string ⟨#[]⟩,.int .i64 0]),3,40):=by kernel_rfl
theorem infoClause:(Try.prog.info? 54).map (fun i=>(i.zero,i.size,i.bytes))=some (some (.agg #[.string ⟨#[]⟩,.slice none 0 0,.int .i64 0,.slice none 0 0,.int .i64 0]),5,80):=by kernel_rfl
theorem infoComp:(Try.prog.info? 42).map (fun i=>(i.zero,i.size,i.bytes))=some (some (.agg #[.string ⟨#[]⟩,.slice none 0 0,.slice none 0 0,.slice none 0 0,.slice none 0 0,.slice none 0 0,.slice none 0 0,.int .i64 0]),8,168):=by kernel_rfl
theorem infoStr:(Try.prog.info? 9).map (fun i=>(i.zero,i.size,i.bytes))=some (some (.string ⟨#[]⟩),1,16):=by kernel_rfl
end CmpMem
namespace CmpClone
open Go Go.RowKit Go.Lib RefPure RefKinds RefMem RefSameP CmpPure CmpMem YtddmceldglelkaaW.PrintWords
theorem infoLit:(Try.prog.info? 58).map (fun i=>(i.zero,i.size,i.bytes))=some (some (.agg #[.int .i64 0,.string ⟨#[]⟩,.slice none 0 0,.int .i64 0,.string ⟨#[]⟩,.int .i64 0,.int .i64 0,.string ⟨#[]⟩,.slice none 0 0,.int .i64 0,.int .i64 0,.int .i64 0,.string ⟨#[]⟩,.slice none 0 0,.int .i64 0,.int .i64 0]),16,208):=by kernel_rfl
theorem R_empty {α:Type} (d:Kd α) (e:Nat) (w:World):d.R e (w.alloc (.cells #[] e)) w.heap.size (fun b=>w.heap.size≤b) (.slice (some ⟨w.heap.size,0,none⟩) 0 0) []:=
 ⟨fun k hk=>by have e2:some w.heap.size=some k:=hk;injection e2 with e2;exact Nat.le_of_eq e2,[],World.ownsRow_made w #[] 0 (Zc _) (Nat.zero_le _) (by simp),⟨by simp,fun j p hj=>by simp at hj⟩⟩
def ClonePost {α:Type} (d:Kd α) (t:Nat) (w:World) (xs:List α) (e:Ending) (w':World):Prop:=
 ∃ v,e=.returned v∧d.R t w' w.heap.size (fun b=>w.heap.size≤b) v xs∧Below w.heap.size w w'
theorem types_any (w0 w:World) (v:Value) (xs:List _) (hv:Vw (Kd.fixed kTDecl w0) w v xs) (hl:xs.length≤1048576):Calls Try.prog 18 #[v] w (ClonePost (Kd.fixed kTDecl w0) 73 w xs):=by
 obtain⟨A,c,rfl,hc,hr⟩:=hv;have qnil:∀ (w:World) (a:Option Addr) (n c n' c':Nat),(binOp .eql 22 (.slice a n c) (.slice none n' c')).run Try.prog w=.ok (.bool a.isNone) w:=fun w a n c n' c'=>Lib.run_eql_slice_nil w _ _ a n c n' c' Try.underlying22;have hrow:∀ o:Obj,ReadsRow (fun x cs=>kTDecl.K w0 x cs) (Kd.fixed kTDecl w0).sz (w.alloc o) A xs.length xs:=fun o=>Kd.C_below hr (below1 w o);have HR:=Za hrow;have HL:=Za hl;cases A with
 | none=>
   have h0:xs=[]:=by
    rcases xs with _|⟨x,xs⟩
    · rfl
    · obtain⟨ad,e,_⟩:=hr.2.2 (Nat.succ_pos _);cases e
   subst h0;clear hr hc hl hrow;go_enter Try.func18,Try.ntmps18;go_wp2;go_ret;exact⟨_,rfl,Kd.R_nil _ _ _ _ _,Below.refl _ _⟩
 | some ad=>
   clear hr hc hl hrow;go_enter Try.func18,Try.ntmps18;go_wp2_with (at_builtin;refine Kd.R_append_rows (Kd.fixed kTDecl w0) (Rr:=fun x cs=>kTDecl.K w0 x cs) w.heap.size (by rfl) _ _ 22 73 (.agg #[.string ⟨#[]⟩,.string ⟨#[]⟩,.slice none 0 0,.int .i64 0]) 64 rfl Try.underlying22 infoTDecl rfl (show 0<Kd.sz kTDecl by decide) (by decide) _ [] xs (some ad) xs.length c (fun b=>w.heap.size≤b) (fun _=>False) rfl rfl (R_empty _ _ _) (HR.out _) (fun _ _ h=>h) (fun _ h=>h.elim) (fun k hk=>Ze (below1 w _).size hk) (Below.refl _ _) (below1 w _).size (by have:=HL.out;simp only[Zk];omega) ?_)
   intro v1 w1 h1 _ hg hat;go_wp2;go_ret;exact⟨v1,rfl,h1,(below1 w _).grown hg (below1 w _).size (fun k hk=>by have e2:some w.heap.size=some k:=hk;injection e2 with e2;exact Nat.le_of_eq e2)⟩
theorem decls_any (w0 w:World) (v:Value) (xs:List _) (hv:Vw (Kd.fixed kDecl w0) w v xs) (hl:xs.length≤1048576):Calls Try.prog 19 #[v] w (ClonePost (Kd.fixed kDecl w0) 46 w xs):=by
 obtain⟨A,c,rfl,hc,hr⟩:=hv;have qnil:∀ (w:World) (a:Option Addr) (n c n' c':Nat),(binOp .eql 23 (.slice a n c) (.slice none n' c')).run Try.prog w=.ok (.bool a.isNone) w:=fun w a n c n' c'=>Lib.run_eql_slice_nil w _ _ a n c n' c' Try.underlying23;have hrow:∀ o:Obj,ReadsRow (fun x cs=>kDecl.K w0 x cs) (Kd.fixed kDecl w0).sz (w.alloc o) A xs.length xs:=fun o=>Kd.C_below hr (below1 w o);have HR:=Za hrow;have HL:=Za hl;cases A with
 | none=>
   have h0:xs=[]:=by
    rcases xs with _|⟨x,xs⟩
    · rfl
    · obtain⟨ad,e,_⟩:=hr.2.2 (Nat.succ_pos _);cases e
   subst h0;clear hr hc hl hrow;go_enter Try.func19,Try.ntmps19;go_wp2;go_ret;exact⟨_,rfl,Kd.R_nil _ _ _ _ _,Below.refl _ _⟩
 | some ad=>
   clear hr hc hl hrow;go_enter Try.func19,Try.ntmps19;go_wp2_with (at_builtin;refine Kd.R_append_rows (Kd.fixed kDecl w0) (Rr:=fun x cs=>kDecl.K w0 x cs) w.heap.size (by rfl) _ _ 23 46 (.agg #[.string ⟨#[]⟩,.slice none 0 0,.bool false,.bool false,.int .i64 0]) 56 rfl Try.underlying23 infoDecl rfl (show 0<Kd.sz kDecl by decide) (by decide) _ [] xs (some ad) xs.length c (fun b=>w.heap.size≤b) (fun _=>False) rfl rfl (R_empty _ _ _) (HR.out _) (fun _ _ h=>h) (fun _ h=>h.elim) (fun k hk=>Ze (below1 w _).size hk) (Below.refl _ _) (below1 w _).size (by have:=HL.out;simp only[Zk];omega) ?_)
   intro v1 w1 h1 _ hg hat;go_wp2;go_ret;exact⟨v1,rfl,h1,(below1 w _).grown hg (below1 w _).size (fun k hk=>by have e2:some w.heap.size=some k:=hk;injection e2 with e2;exact Nat.le_of_eq e2)⟩
theorem clauses_any (w0 w:World) (v:Value) (xs:List _) (hv:Vw (Kd.fixed kClause w0) w v xs) (hl:xs.length≤1048576):Calls Try.prog 53 #[v] w (ClonePost (Kd.fixed kClause w0) 54 w xs):=by
 obtain⟨A,c,rfl,hc,hr⟩:=hv;have qnil:∀ (w:World) (a:Option Addr) (n c n' c':Nat),(binOp .eql 26 (.slice a n c) (.slice none n' c')).run Try.prog w=.ok (.bool a.isNone) w:=fun w a n c n' c'=>Lib.run_eql_slice_nil w _ _ a n c n' c' Try.underlying26;have hrow:∀ o:Obj,ReadsRow (fun x cs=>kClause.K w0 x cs) (Kd.fixed kClause w0).sz (w.alloc o) A xs.length xs:=fun o=>Kd.C_below hr (below1 w o);have HR:=Za hrow;have HL:=Za hl;cases A with
 | none=>
   have h0:xs=[]:=by
    rcases xs with _|⟨x,xs⟩
    · rfl
    · obtain⟨ad,e,_⟩:=hr.2.2 (Nat.succ_pos _);cases e
   subst h0;clear hr hc hl hrow;go_enter Try.func53,Try.ntmps53;go_wp2;go_ret;exact⟨_,rfl,Kd.R_nil _ _ _ _ _,Below.refl _ _⟩
 | some ad=>
   clear hr hc hl hrow;go_enter Try.func53,Try.ntmps53;go_wp2_with (at_builtin;refine Kd.R_append_rows (Kd.fixed kClause w0) (Rr:=fun x cs=>kClause.K w0 x cs) w.heap.size (by rfl) _ _ 26 54 (.agg #[.string ⟨#[]⟩,.slice none 0 0,.int .i64 0,.slice none 0 0,.int .i64 0]) 80 rfl Try.underlying26 infoClause rfl (show 0<Kd.sz kClause by decide) (by decide) _ [] xs (some ad) xs.length c (fun b=>w.heap.size≤b) (fun _=>False) rfl rfl (R_empty _ _ _) (HR.out _) (fun _ _ h=>h) (fun _ h=>h.elim) (fun k hk=>Ze (below1 w _).size hk) (Below.refl _ _) (below1 w _).size (by have:=HL.out;simp only[Zk];omega) ?_)
   intro v1 w1 h1 _ hg hat;go_wp2;go_ret;exact⟨v1,rfl,h1,(below1 w _).grown hg (below1 w _).size (fun k hk=>by have e2:some w.heap.size=some k:=hk;injection e2 with e2;exact Nat.le_of_eq e2)⟩
theorem lits_any (w0 w:World) (v:Value) (xs:List _) (hv:Vw (Kd.fixed kLit w0) w v xs) (hl:xs.length≤1048576):Calls Try.prog 54 #[v] w (ClonePost (Kd.fixed kLit w0) 58 w xs):=by
 obtain⟨A,c,rfl,hc,hr⟩:=hv;have qnil:∀ (w:World) (a:Option Addr) (n c n' c':Nat),(binOp .eql 52 (.slice a n c) (.slice none n' c')).run Try.prog w=.ok (.bool a.isNone) w:=fun w a n c n' c'=>Lib.run_eql_slice_nil w _ _ a n c n' c' Try.underlying52;have hrow:∀ o:Obj,ReadsRow (fun x cs=>kLit.K w0 x cs) (Kd.fixed kLit w0).sz (w.alloc o) A xs.length xs:=fun o=>Kd.C_below hr (below1 w o);have HR:=Za hrow;have HL:=Za hl;cases A with
 | none=>
   have h0:xs=[]:=by
    rcases xs with _|⟨x,xs⟩
    · rfl
    · obtain⟨ad,e,_⟩:=hr.2.2 (Nat.succ_pos _);cases e
   subst h0;clear hr hc hl hrow;go_enter Try.func54,Try.ntmps54;go_wp2;go_ret;exact⟨_,rfl,Kd.R_nil _ _ _ _ _,Below.refl _ _⟩
 | some ad=>
   clear hr hc hl hrow;go_enter Try.func54,Try.ntmps54;go_wp2_with (at_builtin;refine Kd.R_append_rows (Kd.fixed kLit w0) (Rr:=fun x cs=>kLit.K w0 x cs) w.heap.size (by rfl) _ _ 52 58 (.agg #[.int .i64 0,.string ⟨#[]⟩,.slice none 0 0,.int .i64 0,.string ⟨#[]⟩,.int .i64 0,.int .i64 0,.string ⟨#[]⟩,.slice none 0 0,.int .i64 0,.int .i64 0,.int .i64 0,.string ⟨#[]⟩,.slice none 0 0,.int .i64 0,.int .i64 0]) 208 rfl Try.underlying52 infoLit rfl (show 0<Kd.sz kLit by decide) (by decide) _ [] xs (some ad) xs.length c (fun b=>w.heap.size≤b) (fun _=>False) rfl rfl (R_empty _ _ _) (HR.out _) (fun _ _ h=>h) (fun _ h=>h.elim) (fun k hk=>Ze (below1 w _).size hk) (Below.refl _ _) (below1 w _).size (by have:=HL.out;simp only[Zk];omega) ?_)
   intro v1 w1 h1 _ hg hat;go_wp2;go_ret;exact⟨v1,rfl,h1,(below1 w _).grown hg (below1 w _).size (fun k hk=>by have e2:some w.heap.size=some k:=hk;injection e2 with e2;exact Nat.le_of_eq e2)⟩
theorem texts_any (w:World) (v:Value) (xs:List _) (hv:Vw Kd.string w v xs) (hl:xs.length≤2097152):Calls Try.prog 58 #[v] w (ClonePost Kd.string 9 w xs):=by
 obtain⟨A,c,rfl,hc,hr⟩:=hv;have qnil:∀ (w:World) (a:Option Addr) (n c n' c':Nat),(binOp .eql 40 (.slice a n c) (.slice none n' c')).run Try.prog w=.ok (.bool a.isNone) w:=fun w a n c n' c'=>Lib.run_eql_slice_nil w _ _ a n c n' c' Try.underlying40;have hrow:∀ o:Obj,ReadsRow (fun x cs=>Kd.string.K w x cs) Kd.string.sz (w.alloc o) A xs.length xs:=fun o=>Kd.C_below hr (below1 w o);have HR:=Za hrow;have HL:=Za hl;cases A with
 | none=>
   have h0:xs=[]:=by
    rcases xs with _|⟨x,xs⟩
    · rfl
    · obtain⟨ad,e,_⟩:=hr.2.2 (Nat.succ_pos _);cases e
   subst h0;clear hr hc hl hrow;go_enter Try.func58,Try.ntmps58;go_wp2;go_ret;exact⟨_,rfl,Kd.R_nil _ _ _ _ _,Below.refl _ _⟩
 | some ad=>
   clear hr hc hl hrow;go_enter Try.func58,Try.ntmps58;go_wp2_with (at_builtin;refine Kd.R_append_rows Kd.string (Rr:=fun x cs=>Kd.string.K w x cs) w.heap.size (by rfl) _ _ 40 9 (.string ⟨#[]⟩) 16 rfl Try.underlying40 infoStr rfl (show 0<Kd.sz Kd.string by decide) (by decide) _ [] xs (some ad) xs.length c (fun b=>w.heap.size≤b) (fun _=>False) rfl rfl (R_empty _ _ _) (HR.out _) (fun _ _ h=>h) (fun _ h=>h.elim) (fun k hk=>Ze (below1 w _).size hk) (Below.refl _ _) (below1 w _).size (by have:=HL.out;simp only[Zk];omega) ?_)
   intro v1 w1 h1 _ hg hat;go_wp2;go_ret;exact⟨v1,rfl,h1,(below1 w _).grown hg (below1 w _).size (fun k hk=>by have e2:some w.heap.size=some k:=hk;injection e2 with e2;exact Nat.le_of_eq e2)⟩
end CmpClone
end Go.Proofs.Ytddmceldglelkaa
