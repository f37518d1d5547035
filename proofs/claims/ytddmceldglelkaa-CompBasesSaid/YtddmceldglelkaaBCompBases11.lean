/- A claim's texts, in the order of what they need: RefFields, RefExprs, RefExpr. -/
import Derived.Test.YtddmceldglelkaaBCompBases10
import Derived.Deep.LoopGhost
set_option maxRecDepth 100000
set_option maxHeartbeats 8000000
set_option linter.unusedVariables false
set_option linter.unusedSimpArgs false
set_option linter.unusedSectionVars false
namespace Go.Proofs.Ytddmceldglelkaa
namespace RefFields
open Go Go.RowKit RefPure RefKinds RefMem RefTake RefSmall YtddmceldglelkaaW.PrintWords
open LexPure (T lex)
attribute [local go_sem] fld0 fld1 fld2 fld3
theorem infoField:(Try.prog.info? 139).map (fun i=>(i.zero,i.size,i.bytes))=some (some (.agg #[.string ⟨#[]⟩,.string ⟨#[]⟩]),2,32):=by kernel_rfl
theorem ZX {w W w1:World} {g:Nat} {row:Option Nat} (h:w.grownBy W (some g)) (k:W.grownBy w1 row) (hr:∀ b,row=some b→w.heap.size≤b):w.grownBy w1 (some g):=
 ⟨k.os.trans h.os,k.tape.trans h.tape,k.output.trans h.output,Ze h.size k.size,fun i hi hne=>(k.block i (Nat.lt_of_lt_of_le hi h.size) (fun e=>by have:=hr i e.symm;omega)).trans (h.block i hi hne)⟩
theorem RS.row_ {w w':World} {g:Nat} {v:Value} {ts:List T} {st:St} (h:RS w g v ts st) {row:Option Nat} (k:w.grownBy w' row) (hr:∀ X,row=some X→g<X∧∀ b,v.ownBlock=some b→b<X):RS w' g v ts st:=by refine⟨h.blk.grown k (fun e=>by have:=(hr g e.symm).1;omega),?_,h.lt,h.len,h.txt⟩;obtain⟨b,cap,rfl,hne,hlt,hc⟩:=h.row;have hb:w'.heap[b]?=w.heap[b]?:=k.block b hlt (fun e=>by have:=(hr b e.symm).2 b (by simp[Value.ownBlock]);omega);refine⟨b,cap,rfl,hne,Nat.lt_of_lt_of_le hlt k.size,fun i t ht=>?_⟩;obtain⟨c0,c1,c2,c3⟩:=hc i t ht;exact⟨cell_moved c0 hb,cell_moved c1 hb,cell_moved c2 hb,cell_moved c3 hb⟩
theorem set_size (W:World) (a:Addr) (u:Value):(W.setCell a u).heap.size=W.heap.size:=by simp[World.setCell]
theorem R_ready {α:Type} {d:Kd α} {e:Nat} {n0:Nat} {wr W:World} {g X:Nat} {vl:Value} {l:List α} (hO:d.R e wr n0 (fun b=>n0≤b) vl l) (hg:g<n0) (hG:wr.grownBy W (some g)) (hX:wr.heap.size≤X) (j:Nat) (u:Value):d.R e (W.setCell ⟨X,j,none⟩ u) n0 (fun b=>n0≤b) vl l:=by have h1:=Kd.R_mono (ok':=fun b=>n0≤b∧b<wr.heap.size) (Kd.R_bound hO) (fun b hb=>⟨hb.1,hb.2.2.1⟩);have h2:=Kd.R_grown h1 hG (fun b hb e=>by injection e with e;have:=hb.1;omega);have h3:=Kd.R_far h2 (p:=⟨X,j,none⟩) (fun b hb e=>by have e2:b=X:=e;have:=hb.2;omega) u;exact Kd.R_mono h3 (fun b hb=>hb.1)
theorem R_kept {α:Type} {d:Kd α} {e:Nat} {n0:Nat} {wr W:World} {g:Nat} {vl:Value} {l:List α} (hO:d.R e wr n0 (fun b=>n0≤b) vl l) (hg:g<n0) (hG:wr.grownBy W (some g)):d.R e W n0 (fun b=>n0≤b) vl l:=
 Kd.R_grown hO hG (fun b hb e=>by injection e with e;omega)
section
variable (w:World) (g:Nat) (v:Value) (ts:List T) (st:St)
def FRel (w:World) (g:Nat) (v:Value) (ts:List T) (fin:List UInt8) (k:Nat) (r:List FieldT×St) (kq:Nat) (first:Bool) (vl:Value) (wr:World):Prop:=
 ∃ l s,fieldsL ts fin kq first l s=some r∧kField.R 139 wr w.heap.size (fun b=>w.heap.size≤b) vl l∧RS wr g v ts s∧w.grownBy wr (some g)∧l.length+kq≤k
theorem goes_not {first:Bool} {fin:List UInt8} {s:St} (hw:well s=false):goes ts first fin s=(false,s):=by unfold goes;rw[if_neg (by simp[hw])]
theorem goes_end {fin:List UInt8} {s:St} (hs:sign ts fin s=true):goes ts true fin s=(false,s):=by
 unfold goes;by_cases hw:well s=true
 · rw[if_pos hw,if_neg (by simp[hs]),if_pos rfl]
 · rw[if_neg hw]
theorem goes_first {fin:List UInt8} {s:St} (hw:well s=true) (hs:sign ts fin s=false):goes ts true fin s=(true,s):=by unfold goes;rw[if_pos hw,if_pos ⟨rfl,hs⟩]
theorem goes_next {fin:List UInt8} {s:St} (hw:well s=true):goes ts false fin s=may ts [44] s:=by unfold goes;rw[if_pos hw,if_neg (by simp),if_neg (by simp)]
theorem fieldsL_stop {fin:List UInt8} {k:Nat} {first:Bool} {l:List FieldT} {s:St} {b:Bool×St} (e:goes ts first fin s=b) (h:b.1=false):fieldsL ts fin (k+1) first l s=some (l,b.2):=by rw[fieldsL,e,if_neg (by simp[h])]
theorem fieldsL_go {fin:List UInt8} {k:Nat} {first:Bool} {l:List FieldT} {s:St} {b:Bool×St} (e:goes ts first fin s=b) (h:b.1=true):fieldsL ts fin (k+1) first l s =
    fieldsL ts fin k false (l++[⟨(word ts (many ts l.length 8 b.2)).1,(name ts (must ts [58] (word ts (many ts l.length 8 b.2)).2)).1⟩]) (name ts (must ts [58] (word ts (many ts l.length 8 b.2)).2)).2:=by
 rw[fieldsL,e,if_pos h]
theorem fields_any (k:Nat) (op fin:ByteArray) (r:List FieldT×St) (hk:k≤549755813888) (h:RS w g v ts st) (hF:fields ts k op.data.toList fin.data.toList st=some r) :
    Calls Try.prog 71 #[.pointer (some ⟨g,0,none⟩),.string op,.string fin] w fun e w'=>∃ vl,e=.returned vl∧kField.R 139 w' w.heap.size (fun b=>w.heap.size≤b) vl r.1∧RS w' g v ts r.2∧w.grownBy w' (some g):=by
 unfold fields at hF;obtain⟨r0,hL,hr0⟩:=Zp hF;injection hr0 with hr0
 subst hr0;have HL0:=Za hL;have HK:=Za hk;have H0:=Za h;have G0:=Za (ZL w g);have hg:=h.blk.lt;have HX:=Za (fun X (hX:w.heap.size≤X)=>h.elder hX);clear h hF hL hk;go_enter Try.func71,Try.ntmps71
 go_wp2_with (first
       | (go_at_call 50;(with_reducible refine (must_any _ _ _ _ _ _ H0.out).mono ?_);rintro e w1 ⟨rfl,hr,hb⟩
          have H1:=Za hr;have G1:=Za (Zs G0.out hb);clear hr hb H0 G0))
 go_loopg [7,8] k (fun kq v7 v8 wr=>∃ first:Bool,v8=.bool first∧Hid (FRel w g v ts fin.data.toList k r0 kq first v7 wr))
 case atStart=>exact⟨true,rfl,Za ⟨[],_,HL0.out,Kd.R_nil _ _ _ _ _,H1.out,G1.out,by simp⟩⟩
 case round=>
  clear H1 G1;obtain⟨first,rfl,HR⟩:=hrel;obtain⟨l,s,hL,hO,hS,hG,hlk⟩:=HR.out;cases gk with
  | zero=>exact absurd hL (by simp[fieldsL])
  | succ k1=>
  obtain⟨p7,c7,rfl⟩:=Kd.R_slice hO;have H0:=Za hS;have HG:=Za hG;have G0:=Za (ZL wr g);have HO:=Za hO;have HOW:Hid (∀ X,(Value.slice p7 l.length c7).ownBlock=some X→w.heap.size≤X):=Za (fun X hX=>hO.1 X hX);have HLK:=Za hlk;have hg0:=hS.blk.lt;clear HR hO hS hG hlk;by_cases hw:well s=true
  · cases first with
    | true=>
      by_cases hs:sign ts fin.data.toList s=true
      · rw[fieldsL_stop ts (goes_end ts hs) rfl] at hL;injection hL with hL
        subst hL;clear HLK
        go_wp2_with (first
            | (go_at_call 17;(with_reducible refine (ZP _ _ _ _ _ true hw H0.out).mono ?_);rintro e w' ⟨rfl,rfl⟩)
            | (go_at_call 42;(with_reducible refine (ZJ _ _ _ _ _ _ H0.out).mono ?_);rintro e w1 ⟨rfl,hb⟩
               have H1:=Za (H0.out.below hb);have G1:=Za (Zs G0.out (Zr hb g));clear hb H0 G0)
            | (go_at_call 50;(with_reducible refine (must_any _ _ _ _ _ _ H1.out).mono ?_);rintro e w2 ⟨rfl,hr,hb⟩
               have H2:=Za hr;have G2:=Za (Zs G1.out hb);clear hr hb H1 G1))
        go_ret;exact⟨_,rfl,Kd.R_grown HO.out G2.out (fun b hb e=>by have:=hg;injection e with e;omega),H2.out,Zs HG.out G2.out⟩
      · have hs2:sign ts fin.data.toList s=false:=(by simpa using hs);clear hs;rw[fieldsL_go ts (goes_first ts hw hs2) rfl] at hL;simp only[] at hL;by_cases hlen:8≤l.length
        · have hm:8≤l.length:=hlen;have hmb:decide (8≤l.length)=true:=Zl hm;have hmi:decide (8≤(l.length:Int))=true:=Zl (by omega);have hM:many ts l.length 8 s=fails ts 3 s:=(by unfold many;rw[if_pos hm]);rw[hM] at hL;obtain⟨nm,hnm⟩:∃ x,(word ts (fails ts 3 s)).1=x:=⟨_,rfl⟩;obtain⟨ty,hty⟩:∃ x,(name ts (must ts [58] (word ts (fails ts 3 s)).2)).1=x:=⟨_,rfl⟩;rw[hnm,hty] at hL;have HL1:=Za hL;have HNM:=Za hnm;have HTY:Hid ((name ts (must ts (ByteArray.mk #[58]).data.toList (word ts (fails ts 3 s)).2)).1=ty):=Za hty;clear hL hM hm hnm hty hlen
          go_wp2_with (first
              | (go_at_call 17;(with_reducible refine (ZP _ _ _ _ _ true hw H0.out).mono ?_);rintro e w' ⟨rfl,rfl⟩)
              | (go_at_call 42;(with_reducible refine (ZJ _ _ _ _ _ _ H0.out).mono ?_);rintro e w1 ⟨rfl,hb⟩
                 have H1:=Za (H0.out.below hb);have G1:=Za (Zs G0.out (Zr hb g));clear hb H0 G0)
              | (go_at_call 16;(with_reducible refine (Z2 _ _ _ _ _ _ H1.out).mono ?_);rintro e w2 ⟨rfl,hr,hb⟩
                 have H2:=Za hr;have G2:=Za (Zs G1.out hb);clear hr hb H1 G1)
              | (go_at_call 49;(with_reducible refine (word_any _ _ _ _ _ H2.out).mono ?_);rintro e w3 ⟨rfl,hr,hb⟩
                 rw[HNM.out];have H3:=Za hr;have G3:=Za (Zs G2.out hb);clear hr hb H2 G2)
              | (go_at_call 50;(with_reducible refine (must_any _ _ _ _ _ _ (H3.out.alloc _)).mono ?_);rintro e w4 ⟨rfl,hr,hb⟩
                 have H4:=Za hr;have G4:=Za (Zs (ZD G3.out _) hb);have hne:w3.heap.size≠g:=(by have:=G3.out.size;have:=hg0;omega);have GB:Hid (wr.heap.size≤w3.heap.size):=Za G3.out.size;have HBW:Hid (w.heap.size≤w3.heap.size):=Za (Ze HG.out.size G3.out.size);have hBX:=(Blk.new w3 139 #[.string nm,.string ⟨#[]⟩]).grown hb (fun e=>hne (Zb e));have HBX4:=Za hBX;have hlt4:w3.heap.size<w4.heap.size:=hBX.lt;clear hr hb hBX H3)
              | (go_at_call 51;(with_reducible refine (name_any _ _ _ _ _ H4.out).mono ?_);rintro e w5 ⟨rfl,hr,hb⟩
                 rw[HTY.out];have H5:=Za hr;have G5:=Za (Zs G4.out hb);have hBX:=HBX4.out.grown hb (fun e=>hne (Zb e));have HBX5:=Za hBX;have x0:=hBX.cell 0;have x1:=hBX.cell 1;have fx0:=hBX.frozen 0;have fx1:=hBX.frozen 1;simp at x0 x1;have hlt5:w3.heap.size<w5.heap.size:=hBX.lt;clear hr hb hBX H4 G4 HBX4)
              | ((with_reducible refine ZR (b:=.append) (xs:=#[.tmp 45,.tmp 47]) rfl ?_);at_builtin;refine Kd.R_append kField w.heap.size rfl (.tmp 45) (.tmp 47) 44 139 (.agg #[.string ⟨#[]⟩,.string ⟨#[]⟩]) 32 rfl Try.underlying44 infoField rfl (by decide) (by decide) (.slice p7 l.length c7) l ⟨nm,ty⟩ [.string nm,.string ty] (fun b=>w.heap.size≤b) (fun _=>False) ?a1 ?a2 (kField_mkM _ _ _ ⟨nm,ty⟩) (fun _ hk=>hk.elim) ?aF ?aO (Below.refl _ _) ?aS ?aL ?_;(try (case a1=>rfl));(try (case a2=>first|rfl|(rw[set_size];rfl)));(case aF=>exact fun X hX=>Ze (Zs HG.out G5.out).size (by rw[set_size] at hX;exact hX));(case aO=>exact R_ready HO.out hg G5.out GB.out 1 _);(case aS=>rw[set_size];exact (Zs HG.out G5.out).size);(case aL=>have:=HLK.out;have:=HK.out;omega)
                 intro v1 wn ho hb hgr hat;have HO2:=Za ho;have HS2:=Za (RS.row_ (RS.other H5.out (HX.out _ HBW.out) 1 _) hgr (fun X hX=>HX.out X (HOW.out X hX)));have HG2:=Za (ZX (Zx (Zs HG.out G5.out) HBW.out 1 _) hgr HOW.out);clear ho hb hgr hat HO HG G5 H5))
          go_roundg k1
          case measure=>omega
          case rel=>exact⟨false,rfl,Za ⟨_,_,HL1.out,HO2.out,HS2.out,HG2.out,by have:=HLK.out;rw[Zi];simp only[Zj,Zk];omega⟩⟩
        · have hm:¬8≤l.length:=hlen;have hmb:decide (8≤l.length)=false:=Zm hm;have hmi:decide (8≤(l.length:Int))=false:=Zm (by omega);have hM:many ts l.length 8 s=s:=(by unfold many;rw[if_neg hm]);rw[hM] at hL;obtain⟨nm,hnm⟩:∃ x,(word ts s).1=x:=⟨_,rfl⟩;obtain⟨ty,hty⟩:∃ x,(name ts (must ts [58] (word ts s).2)).1=x:=⟨_,rfl⟩;rw[hnm,hty] at hL;have HL1:=Za hL;have HNM:=Za hnm;have HTY:Hid ((name ts (must ts (ByteArray.mk #[58]).data.toList (word ts s).2)).1=ty):=Za hty;clear hL hM hm hnm hty hlen
          go_wp2_with (first
              | (go_at_call 17;(with_reducible refine (ZP _ _ _ _ _ true hw H0.out).mono ?_);rintro e w' ⟨rfl,rfl⟩)
              | (go_at_call 42;(with_reducible refine (ZJ _ _ _ _ _ _ H0.out).mono ?_);rintro e w1 ⟨rfl,hb⟩
                 have H1:=Za (H0.out.below hb);have G1:=Za (Zs G0.out (Zr hb g));clear hb H0 G0)
              | (go_at_call 49;(with_reducible refine (word_any _ _ _ _ _ H1.out).mono ?_);rintro e w2 ⟨rfl,hr,hb⟩
                 rw[HNM.out];have H2:=Za hr;have G2:=Za (Zs G1.out hb);clear hr hb H1 G1)
              | (go_at_call 50;(with_reducible refine (must_any _ _ _ _ _ _ (H2.out.alloc _)).mono ?_);rintro e w3 ⟨rfl,hr,hb⟩
                 have H3:=Za hr;have G3:=Za (Zs (ZD G2.out _) hb);have hne:w2.heap.size≠g:=(by have:=G2.out.size;have:=hg0;omega);have GB:Hid (wr.heap.size≤w2.heap.size):=Za G2.out.size;have HBW:Hid (w.heap.size≤w2.heap.size):=Za (Ze HG.out.size G2.out.size);have hBX:=(Blk.new w2 139 #[.string nm,.string ⟨#[]⟩]).grown hb (fun e=>hne (Zb e));have HBX3:=Za hBX;have hlt3:w2.heap.size<w3.heap.size:=hBX.lt;clear hr hb hBX H2)
              | (go_at_call 51;(with_reducible refine (name_any _ _ _ _ _ H3.out).mono ?_);rintro e w4 ⟨rfl,hr,hb⟩
                 rw[HTY.out];have H4:=Za hr;have G4:=Za (Zs G3.out hb);have hBX:=HBX3.out.grown hb (fun e=>hne (Zb e));have HBX4:=Za hBX;have x0:=hBX.cell 0;have x1:=hBX.cell 1;have fx0:=hBX.frozen 0;have fx1:=hBX.frozen 1;simp at x0 x1;have hlt4:w2.heap.size<w4.heap.size:=hBX.lt;clear hr hb hBX H3 G3 HBX3)
              | ((with_reducible refine ZR (b:=.append) (xs:=#[.tmp 45,.tmp 47]) rfl ?_);at_builtin;refine Kd.R_append kField w.heap.size rfl (.tmp 45) (.tmp 47) 44 139 (.agg #[.string ⟨#[]⟩,.string ⟨#[]⟩]) 32 rfl Try.underlying44 infoField rfl (by decide) (by decide) (.slice p7 l.length c7) l ⟨nm,ty⟩ [.string nm,.string ty] (fun b=>w.heap.size≤b) (fun _=>False) ?a1 ?a2 (kField_mkM _ _ _ ⟨nm,ty⟩) (fun _ hk=>hk.elim) ?aF ?aO (Below.refl _ _) ?aS ?aL ?_;(try (case a1=>rfl));(try (case a2=>first|rfl|(rw[set_size];rfl)));(case aF=>exact fun X hX=>Ze (Zs HG.out G4.out).size (by rw[set_size] at hX;exact hX));(case aO=>exact R_ready HO.out hg G4.out GB.out 1 _);(case aS=>rw[set_size];exact (Zs HG.out G4.out).size);(case aL=>have:=HLK.out;have:=HK.out;omega)
                 intro v1 wn ho hb hgr hat;have HO2:=Za ho;have HS2:=Za (RS.row_ (RS.other H4.out (HX.out _ HBW.out) 1 _) hgr (fun X hX=>HX.out X (HOW.out X hX)));have HG2:=Za (ZX (Zx (Zs HG.out G4.out) HBW.out 1 _) hgr HOW.out);clear ho hb hgr hat HO HG G4 H4))
          go_roundg k1
          case measure=>omega
          case rel=>exact⟨false,rfl,Za ⟨_,_,HL1.out,HO2.out,HS2.out,HG2.out,by have:=HLK.out;rw[Zi];simp only[Zj,Zk];omega⟩⟩
    | false=>
      by_cases hs:(may ts [44] s).1=true
      · have hs3:(may ts (ByteArray.mk #[44]).data.toList s).1=true:=hs;rw[fieldsL_go ts (goes_next ts hw) hs] at hL;by_cases hlen:8≤l.length
        · have hm:8≤l.length:=hlen;have hmb:decide (8≤l.length)=true:=Zl hm;have hmi:decide (8≤(l.length:Int))=true:=Zl (by omega);have hM:many ts l.length 8 (may ts [44] s).2=fails ts 3 (may ts [44] s).2:=(by unfold many;rw[if_pos hm]);rw[hM] at hL;obtain⟨nm,hnm⟩:∃ x,(word ts (fails ts 3 (may ts [44] s).2)).1=x:=⟨_,rfl⟩;obtain⟨ty,hty⟩:∃ x,(name ts (must ts [58] (word ts (fails ts 3 (may ts [44] s).2)).2)).1=x:=⟨_,rfl⟩;rw[hnm,hty] at hL;have HL1:=Za hL;have HNM:=Za hnm;have HTY:Hid ((name ts (must ts (ByteArray.mk #[58]).data.toList (word ts (fails ts 3 (may ts [44] s).2)).2)).1=ty):=Za hty;clear hL hM hm hnm hty hlen
          go_wp2_with (first
              | (go_at_call 17;(with_reducible refine (ZP _ _ _ _ _ true hw H0.out).mono ?_);rintro e w' ⟨rfl,rfl⟩)
              | (go_at_call 43;(with_reducible refine (ZQ _ _ _ _ _ _ H0.out).mono ?_);rintro e w1 ⟨rfl,hr,hb⟩
                 have H1:=Za hr;have G1:=Za (Zs G0.out hb);clear hr hb H0 G0)
              | (go_at_call 16;(with_reducible refine (Z2 _ _ _ _ _ _ H1.out).mono ?_);rintro e w2 ⟨rfl,hr,hb⟩
                 have H2:=Za hr;have G2:=Za (Zs G1.out hb);clear hr hb H1 G1)
              | (go_at_call 49;(with_reducible refine (word_any _ _ _ _ _ H2.out).mono ?_);rintro e w3 ⟨rfl,hr,hb⟩
                 rw[HNM.out];have H3:=Za hr;have G3:=Za (Zs G2.out hb);clear hr hb H2 G2)
              | (go_at_call 50;(with_reducible refine (must_any _ _ _ _ _ _ (H3.out.alloc _)).mono ?_);rintro e w4 ⟨rfl,hr,hb⟩
                 have H4:=Za hr;have G4:=Za (Zs (ZD G3.out _) hb);have hne:w3.heap.size≠g:=(by have:=G3.out.size;have:=hg0;omega);have GB:Hid (wr.heap.size≤w3.heap.size):=Za G3.out.size;have HBW:Hid (w.heap.size≤w3.heap.size):=Za (Ze HG.out.size G3.out.size);have hBX:=(Blk.new w3 139 #[.string nm,.string ⟨#[]⟩]).grown hb (fun e=>hne (Zb e));have HBX4:=Za hBX;have hlt4:w3.heap.size<w4.heap.size:=hBX.lt;clear hr hb hBX H3)
              | (go_at_call 51;(with_reducible refine (name_any _ _ _ _ _ H4.out).mono ?_);rintro e w5 ⟨rfl,hr,hb⟩
                 rw[HTY.out];have H5:=Za hr;have G5:=Za (Zs G4.out hb);have hBX:=HBX4.out.grown hb (fun e=>hne (Zb e));have HBX5:=Za hBX;have x0:=hBX.cell 0;have x1:=hBX.cell 1;have fx0:=hBX.frozen 0;have fx1:=hBX.frozen 1;simp at x0 x1;have hlt5:w3.heap.size<w5.heap.size:=hBX.lt;clear hr hb hBX H4 G4 HBX4)
              | ((with_reducible refine ZR (b:=.append) (xs:=#[.tmp 45,.tmp 47]) rfl ?_);at_builtin;refine Kd.R_append kField w.heap.size rfl (.tmp 45) (.tmp 47) 44 139 (.agg #[.string ⟨#[]⟩,.string ⟨#[]⟩]) 32 rfl Try.underlying44 infoField rfl (by decide) (by decide) (.slice p7 l.length c7) l ⟨nm,ty⟩ [.string nm,.string ty] (fun b=>w.heap.size≤b) (fun _=>False) ?a1 ?a2 (kField_mkM _ _ _ ⟨nm,ty⟩) (fun _ hk=>hk.elim) ?aF ?aO (Below.refl _ _) ?aS ?aL ?_;(try (case a1=>rfl));(try (case a2=>first|rfl|(rw[set_size];rfl)));(case aF=>exact fun X hX=>Ze (Zs HG.out G5.out).size (by rw[set_size] at hX;exact hX));(case aO=>exact R_ready HO.out hg G5.out GB.out 1 _);(case aS=>rw[set_size];exact (Zs HG.out G5.out).size);(case aL=>have:=HLK.out;have:=HK.out;omega)
                 intro v1 wn ho hb hgr hat;have HO2:=Za ho;have HS2:=Za (RS.row_ (RS.other H5.out (HX.out _ HBW.out) 1 _) hgr (fun X hX=>HX.out X (HOW.out X hX)));have HG2:=Za (ZX (Zx (Zs HG.out G5.out) HBW.out 1 _) hgr HOW.out);clear ho hb hgr hat HO HG G5 H5))
          go_roundg k1
          case measure=>omega
          case rel=>exact⟨false,rfl,Za ⟨_,_,HL1.out,HO2.out,HS2.out,HG2.out,by have:=HLK.out;rw[Zi];simp only[Zj,Zk];omega⟩⟩
        · have hm:¬8≤l.length:=hlen;have hmb:decide (8≤l.length)=false:=Zm hm;have hmi:decide (8≤(l.length:Int))=false:=Zm (by omega);have hM:many ts l.length 8 (may ts [44] s).2=(may ts [44] s).2:=(by unfold many;rw[if_neg hm]);rw[hM] at hL;obtain⟨nm,hnm⟩:∃ x,(word ts (may ts [44] s).2).1=x:=⟨_,rfl⟩;obtain⟨ty,hty⟩:∃ x,(name ts (must ts [58] (word ts (may ts [44] s).2).2)).1=x:=⟨_,rfl⟩;rw[hnm,hty] at hL;have HL1:=Za hL;have HNM:=Za hnm;have HTY:Hid ((name ts (must ts (ByteArray.mk #[58]).data.toList (word ts (may ts [44] s).2).2)).1=ty):=Za hty;clear hL hM hm hnm hty hlen
          go_wp2_with (first
              | (go_at_call 17;(with_reducible refine (ZP _ _ _ _ _ true hw H0.out).mono ?_);rintro e w' ⟨rfl,rfl⟩)
              | (go_at_call 43;(with_reducible refine (ZQ _ _ _ _ _ _ H0.out).mono ?_);rintro e w1 ⟨rfl,hr,hb⟩
                 have H1:=Za hr;have G1:=Za (Zs G0.out hb);clear hr hb H0 G0)
              | (go_at_call 49;(with_reducible refine (word_any _ _ _ _ _ H1.out).mono ?_);rintro e w2 ⟨rfl,hr,hb⟩
                 rw[HNM.out];have H2:=Za hr;have G2:=Za (Zs G1.out hb);clear hr hb H1 G1)
              | (go_at_call 50;(with_reducible refine (must_any _ _ _ _ _ _ (H2.out.alloc _)).mono ?_);rintro e w3 ⟨rfl,hr,hb⟩
                 have H3:=Za hr;have G3:=Za (Zs (ZD G2.out _) hb);have hne:w2.heap.size≠g:=(by have:=G2.out.size;have:=hg0;omega);have GB:Hid (wr.heap.size≤w2.heap.size):=Za G2.out.size;have HBW:Hid (w.heap.size≤w2.heap.size):=Za (Ze HG.out.size G2.out.size);have hBX:=(Blk.new w2 139 #[.string nm,.string ⟨#[]⟩]).grown hb (fun e=>hne (Zb e));have HBX3:=Za hBX;have hlt3:w2.heap.size<w3.heap.size:=hBX.lt;clear hr hb hBX H2)
              | (go_at_call 51;(with_reducible refine (name_any _ _ _ _ _ H3.out).mono ?_);rintro e w4 ⟨rfl,hr,hb⟩
                 rw[HTY.out];have H4:=Za hr;have G4:=Za (Zs G3.out hb);have hBX:=HBX3.out.grown hb (fun e=>hne (Zb e));have HBX4:=Za hBX;have x0:=hBX.cell 0;have x1:=hBX.cell 1;have fx0:=hBX.frozen 0;have fx1:=hBX.frozen 1;simp at x0 x1;have hlt4:w2.heap.size<w4.heap.size:=hBX.lt;clear hr hb hBX H3 G3 HBX3)
              | ((with_reducible refine ZR (b:=.append) (xs:=#[.tmp 45,.tmp 47]) rfl ?_);at_builtin;refine Kd.R_append kField w.heap.size rfl (.tmp 45) (.tmp 47) 44 139 (.agg #[.string ⟨#[]⟩,.string ⟨#[]⟩]) 32 rfl Try.underlying44 infoField rfl (by decide) (by decide) (.slice p7 l.length c7) l ⟨nm,ty⟩ [.string nm,.string ty] (fun b=>w.heap.size≤b) (fun _=>False) ?a1 ?a2 (kField_mkM _ _ _ ⟨nm,ty⟩) (fun _ hk=>hk.elim) ?aF ?aO (Below.refl _ _) ?aS ?aL ?_;(try (case a1=>rfl));(try (case a2=>first|rfl|(rw[set_size];rfl)));(case aF=>exact fun X hX=>Ze (Zs HG.out G4.out).size (by rw[set_size] at hX;exact hX));(case aO=>exact R_ready HO.out hg G4.out GB.out 1 _);(case aS=>rw[set_size];exact (Zs HG.out G4.out).size);(case aL=>have:=HLK.out;have:=HK.out;omega)
                 intro v1 wn ho hb hgr hat;have HO2:=Za ho;have HS2:=Za (RS.row_ (RS.other H4.out (HX.out _ HBW.out) 1 _) hgr (fun X hX=>HX.out X (HOW.out X hX)));have HG2:=Za (ZX (Zx (Zs HG.out G4.out) HBW.out 1 _) hgr HOW.out);clear ho hb hgr hat HO HG G4 H4))
          go_roundg k1
          case measure=>omega
          case rel=>exact⟨false,rfl,Za ⟨_,_,HL1.out,HO2.out,HS2.out,HG2.out,by have:=HLK.out;rw[Zi];simp only[Zj,Zk];omega⟩⟩
      · have hs2:(may ts [44] s).1=false:=(by simpa using hs);have hs3:(may ts (ByteArray.mk #[44]).data.toList s).1=false:=hs2;rw[fieldsL_stop ts (goes_next ts hw) hs2] at hL;injection hL with hL
        subst hL;clear HLK
        go_wp2_with (first
            | (go_at_call 17;(with_reducible refine (ZP _ _ _ _ _ true hw H0.out).mono ?_);rintro e w' ⟨rfl,rfl⟩)
            | (go_at_call 43;(with_reducible refine (ZQ _ _ _ _ _ _ H0.out).mono ?_);rintro e w1 ⟨rfl,hr,hb⟩
               have H1:=Za hr;have G1:=Za (Zs G0.out hb);clear hr hb H0 G0)
            | (go_at_call 50;(with_reducible refine (must_any _ _ _ _ _ _ H1.out).mono ?_);rintro e w2 ⟨rfl,hr,hb⟩
               have H2:=Za hr;have G2:=Za (Zs G1.out hb);clear hr hb H1 G1))
        go_ret;exact⟨_,rfl,Kd.R_grown HO.out G2.out (fun b hb e=>by have:=hg;injection e with e;omega),H2.out,Zs HG.out G2.out⟩
  · have hw2:well s=false:=(by simpa using hw);rw[fieldsL_stop ts (goes_not ts hw2) rfl] at hL;injection hL with hL
    subst hL;clear HLK
    go_wp2_with (first
        | (go_at_call 17;(with_reducible refine (ZP _ _ _ _ _ false hw2 H0.out).mono ?_);rintro e w' ⟨rfl,rfl⟩)
        | (go_at_call 50;(with_reducible refine (must_any _ _ _ _ _ _ H0.out).mono ?_);rintro e w1 ⟨rfl,hr,hb⟩
           have H1:=Za hr;have G1:=Za (Zs G0.out hb);clear hr hb H0 G0))
    go_ret;exact⟨_,rfl,Kd.R_grown HO.out G1.out (fun b hb e=>by have:=hg;injection e with e;omega),H1.out,Zs HG.out G1.out⟩
end
end RefFields
namespace RefExprs
open Go Go.RowKit RefPure RefKinds RefMem RefTake RefSmall RefFields YtddmceldglelkaaW.PrintWords
open LexPure (T lex)
attribute [local go_sem] fld0 fld1 fld2 fld3
theorem infoEx:(Try.prog.info? 56).map (fun i=>(i.zero,i.size,i.bytes))=some (some (.agg #[.int .i64 0,.int .i64 0,.string ⟨#[]⟩,.slice none 0 0,.int .i64 0]),5,64):=by kernel_rfl
def ExPost (w:World) (g:Nat) (v:Value) (ts:List T) (r:Ex×St) (e:Ending) (w':World):Prop:=
 ∃ vk,e=.returned (.agg #[.int .i64 r.1.kind,.int .i64 r.1.n,.string r.1.s,vk,.int .i64 r.1.at_])∧kEx.R 56 w' w.heap.size (fun b=>w.heap.size≤b) vk r.1.kids∧RS w' g v ts r.2∧w.grownBy w' (some g)
def PExpr (ts:List T) (k:Nat):Prop:=∀ w g v st r,RS w g v ts st→expr ts k st=some r→Calls Try.prog 84 #[.pointer (some ⟨g,0,none⟩)] w (ExPost w g v ts r)
def PRow (ts:List T) (k:Nat):Prop:=∀ w g v st r (level:Nat),level≤2→RS w g v ts st→row ts k level st=some r→Calls Try.prog 89 #[.pointer (some ⟨g,0,none⟩),.int .i64 (level:Int)] w (ExPost w g v ts r)
def PFactor (ts:List T) (k:Nat):Prop:=∀ w g v st r,RS w g v ts st→factor ts k st=some r→Calls Try.prog 91 #[.pointer (some ⟨g,0,none⟩)] w (ExPost w g v ts r)
def POne (ts:List T) (k:Nat):Prop:=∀ w g v st r,RS w g v ts st→one ts k st=some r→Calls Try.prog 93 #[.pointer (some ⟨g,0,none⟩)] w (ExPost w g v ts r)
def PExprs (ts:List T) (k:Nat):Prop:=∀ w g v st r,RS w g v ts st→exprs ts k st=some r→Calls Try.prog 83 #[.pointer (some ⟨g,0,none⟩)] w fun e w'=>∃ vl,e=.returned vl∧kEx.R 56 w' w.heap.size (fun b=>w.heap.size≤b) vl r.1∧RS w' g v ts r.2∧w.grownBy w' (some g)
theorem row_new {α:Type} {d:Kd α} {e:Nat} {n0:Nat} {wr:World} {X:Nat} {vl:Value} {l:List α} (hO:d.R e wr n0 (fun b=>n0≤b) vl l) (h0:n0≤wr.heap.size) (hX:wr.heap.size≤X):∀ k,X≤k→n0≤k∧some k≠vl.ownBlock:=by intro k hk;refine⟨by omega,fun e=>?_⟩;have:=Kd.R_lt hO k e.symm;omega
section
variable (ts:List T)
theorem exprsL_stop {k:Nat} {first:Bool} {l:List Ex} {s:St} {b:Bool×St} (e:goes ts first [41] s=b) (h:b.1=false):exprsL ts (k+1) first l s=some (l,b.2):=by rw[exprsL,e,if_neg (by simp[h])]
theorem exprsL_go {k:Nat} {first:Bool} {l:List Ex} {s:St} {b:Bool×St} (e:goes ts first [41] s=b) (h:b.1=true):exprsL ts (k+1) first l s =
    (expr ts k (many ts l.length 8 b.2)).bind fun r=>exprsL ts k false (l++[r.1]) r.2:=by
 rw[exprsL,e,if_pos h]
def ERel (ts:List T) (w:World) (g:Nat) (v:Value) (k:Nat) (r:List Ex×St) (kq:Nat) (first:Bool) (vl:Value) (wr:World):Prop:=
 ∃ l s,exprsL ts kq first l s=some r∧kEx.R 56 wr w.heap.size (fun b=>w.heap.size≤b) vl l∧RS wr g v ts s∧w.grownBy wr (some g)∧l.length+kq≤k
theorem exprs_step (k:Nat) (hk:k≤549755813888) (ih:∀ j,j≤k→PExpr ts j):PExprs ts (k+1):=by
 intro w g v st r h hF;rw[exprs] at hF;obtain⟨r0,hL,hr0⟩:=Zp hF;injection hr0 with hr0
 subst hr0;have HL0:=Za hL;have HK:=Za hk;have H0:=Za h;have G0:=Za (ZL w g);have hg:=h.blk.lt;have HX:=Za (fun X (hX:w.heap.size≤X)=>h.elder hX);have HIH:=Za ih;clear h hF hL hk ih;go_enter Try.func83,Try.ntmps83
 go_wp2_with (first
       | (go_at_call 50;(with_reducible refine (must_any _ _ _ _ _ _ H0.out).mono ?_);rintro e w1 ⟨rfl,hr,hb⟩
          have H1:=Za hr;have G1:=Za (Zs G0.out hb);clear hr hb H0 G0))
 go_loopg [3,4] k (fun kq v3 v4 wr=>∃ first:Bool,v4=.bool first∧Hid (kq≤k∧ERel ts w g v k r0 kq first v3 wr))
 case atStart=>exact⟨true,rfl,Za ⟨Zc _,[],_,HL0.out,Kd.R_nil _ _ _ _ _,H1.out,G1.out,by simp⟩⟩
 case round=>
  clear H1 G1;obtain⟨first,rfl,HR⟩:=hrel;obtain⟨hkq,l,s,hL,hO,hS,hG,hlk⟩:=HR.out;cases gk with
  | zero=>exact absurd hL (by simp[exprsL])
  | succ k1=>
  obtain⟨p7,c7,rfl⟩:=Kd.R_slice hO;have HKQ:=Za hkq;have HE:Hid (∀ w g v st r,RS w g v ts st→expr ts k1 st=some r→Calls Try.prog 84 #[.pointer (some ⟨g,0,none⟩)] w (ExPost w g v ts r)):=Za (HIH.out k1 (by omega));have H0:=Za hS;have HG:=Za hG;have G0:=Za (ZL wr g);have HO:=Za hO;have HOW:Hid (∀ X,(Value.slice p7 l.length c7).ownBlock=some X→w.heap.size≤X):=Za (fun X hX=>hO.1 X hX);have HLK:=Za hlk;have hg0:=hS.blk.lt;clear HR hO hS hG hlk hkq;by_cases hw:well s=true
  · cases first with
    | true=>
      by_cases hs:sign ts [41] s=true
      · have hs3:sign ts (ByteArray.mk #[41]).data.toList s=true:=hs;rw[exprsL_stop ts (goes_end ts hs) rfl] at hL;injection hL with hL
        subst hL;clear HLK
        go_wp2_with (first
            | (go_at_call 17;(with_reducible refine (ZP _ _ _ _ _ true hw H0.out).mono ?_);rintro e w' ⟨rfl,rfl⟩)
            | (go_at_call 42;(with_reducible refine (ZJ _ _ _ _ _ _ H0.out).mono ?_);rintro e w1 ⟨rfl,hb⟩
               have H1:=Za (H0.out.below hb);have G1:=Za (Zs G0.out (Zr hb g));clear hb H0 G0)
            | (go_at_call 50;(with_reducible refine (must_any _ _ _ _ _ _ H1.out).mono ?_);rintro e w2 ⟨rfl,hr,hb⟩
               have H2:=Za hr;have G2:=Za (Zs G1.out hb);clear hr hb H1 G1))
        go_ret;exact⟨_,rfl,R_kept HO.out hg G2.out,H2.out,Zs HG.out G2.out⟩
      · have hs2:sign ts [41] s=false:=(by simpa using hs);have hs3:sign ts (ByteArray.mk #[41]).data.toList s=false:=hs2;clear hs;rw[exprsL_go ts (goes_first ts hw hs2) rfl] at hL;simp only[] at hL;by_cases hlen:8≤l.length
        · have hm:8≤l.length:=hlen;have hmb:decide (8≤l.length)=true:=Zl hm;have hmi:decide (8≤(l.length:Int))=true:=Zl (by omega);have hM:many ts l.length 8 s=fails ts 3 s:=(by unfold many;rw[if_pos hm]);rw[hM] at hL;obtain⟨x,hx1,hL⟩:=Zp hL;have HL1:=Za hL;have HX1:=Za hx1;clear hL hM hm hx1 hlen
          go_wp2_with (first
              | (go_at_call 17;(with_reducible refine (ZP _ _ _ _ _ true hw H0.out).mono ?_);rintro e w' ⟨rfl,rfl⟩)
              | (go_at_call 42;(with_reducible refine (ZJ _ _ _ _ _ _ H0.out).mono ?_);rintro e w1 ⟨rfl,hb⟩
                 have H1:=Za (H0.out.below hb);have G1:=Za (Zs G0.out (Zr hb g));clear hb H0 G0)
              | (go_at_call 16;(with_reducible refine (Z2 _ _ _ _ _ _ H1.out).mono ?_);rintro e w2 ⟨rfl,hr,hb⟩
                 have H2:=Za hr;have G2:=Za (Zs G1.out hb);clear hr hb H1 G1)
              | (go_at_call 84;(with_reducible refine (HE.out _ _ _ _ _ H2.out HX1.out).mono ?_);rintro e w3 ⟨vk,rfl,hk,hr,hb⟩
                 have H3:=Za hr;have HEK:=Za hk;have GE:Hid (w2.grownBy w3 (some g)):=Za hb;have G3:=Za (Zs G2.out hb);have GL:Hid (wr.heap.size≤w2.heap.size):=Za G2.out.size;clear hr hb hk H2)
              | ((with_reducible refine ZR (b:=.append) (xs:=#[.tmp 30,.tmp 33]) rfl ?_);at_builtin;refine Kd.R_append kEx w.heap.size rfl (.tmp 30) (.tmp 33) 49 56 (.agg #[.int .i64 0,.int .i64 0,.string ⟨#[]⟩,.slice none 0 0,.int .i64 0]) 64 rfl Try.underlying49 infoEx rfl (by decide) (by decide) (.slice p7 l.length c7) l x.1 [.int .i64 x.1.kind,.int .i64 x.1.n,.string x.1.s,vk,.int .i64 x.1.at_] (fun b=>w.heap.size≤b) (fun b=>w2.heap.size≤b) ?a1 ?a2 (kEx.M_lower (Ze HG.out.size GL.out) (kEx_mkM _ _ _ x.1 HEK.out)) (row_new HO.out HG.out.size GL.out) ?aF ?aO (Below.refl _ _) ?aS ?aL ?_;(try (case a1=>rfl));(try (case a2=>rfl));(case aF=>exact fun X hX=>Ze (Zs HG.out G3.out).size hX);(case aO=>exact R_kept HO.out hg G3.out);(case aS=>exact (Zs HG.out G3.out).size);(case aL=>have:=HLK.out;have:=HK.out;omega)
                 intro v1 wn ho hb hgr hat;have HO2:=Za ho;have HS2:=Za (RS.row_ H3.out hgr (fun X hX=>HX.out X (HOW.out X hX)));have HG2:=Za (ZX (Zs HG.out G3.out) hgr HOW.out);clear ho hb hgr hat HO HG G3 H3))
          go_roundg k1
          case measure=>omega
          case rel=>exact⟨false,rfl,Za ⟨(by have:=HKQ.out;omega),_,_,HL1.out,HO2.out,HS2.out,HG2.out,by have:=HLK.out;rw[Zi];simp only[Zj,Zk];omega⟩⟩
        · have hm:¬8≤l.length:=hlen;have hmb:decide (8≤l.length)=false:=Zm hm;have hmi:decide (8≤(l.length:Int))=false:=Zm (by omega);have hM:many ts l.length 8 s=s:=(by unfold many;rw[if_neg hm]);rw[hM] at hL;obtain⟨x,hx1,hL⟩:=Zp hL;have HL1:=Za hL;have HX1:=Za hx1;clear hL hM hm hx1 hlen
          go_wp2_with (first
              | (go_at_call 17;(with_reducible refine (ZP _ _ _ _ _ true hw H0.out).mono ?_);rintro e w' ⟨rfl,rfl⟩)
              | (go_at_call 42;(with_reducible refine (ZJ _ _ _ _ _ _ H0.out).mono ?_);rintro e w1 ⟨rfl,hb⟩
                 have H1:=Za (H0.out.below hb);have G1:=Za (Zs G0.out (Zr hb g));clear hb H0 G0)
              | (go_at_call 84;(with_reducible refine (HE.out _ _ _ _ _ H1.out HX1.out).mono ?_);rintro e w2 ⟨vk,rfl,hk,hr,hb⟩
                 have H2:=Za hr;have HEK:=Za hk;have GE:Hid (w1.grownBy w2 (some g)):=Za hb;have G2:=Za (Zs G1.out hb);have GL:Hid (wr.heap.size≤w1.heap.size):=Za G1.out.size;clear hr hb hk H1)
              | ((with_reducible refine ZR (b:=.append) (xs:=#[.tmp 30,.tmp 33]) rfl ?_);at_builtin;refine Kd.R_append kEx w.heap.size rfl (.tmp 30) (.tmp 33) 49 56 (.agg #[.int .i64 0,.int .i64 0,.string ⟨#[]⟩,.slice none 0 0,.int .i64 0]) 64 rfl Try.underlying49 infoEx rfl (by decide) (by decide) (.slice p7 l.length c7) l x.1 [.int .i64 x.1.kind,.int .i64 x.1.n,.string x.1.s,vk,.int .i64 x.1.at_] (fun b=>w.heap.size≤b) (fun b=>w1.heap.size≤b) ?a1 ?a2 (kEx.M_lower (Ze HG.out.size GL.out) (kEx_mkM _ _ _ x.1 HEK.out)) (row_new HO.out HG.out.size GL.out) ?aF ?aO (Below.refl _ _) ?aS ?aL ?_;(try (case a1=>rfl));(try (case a2=>rfl));(case aF=>exact fun X hX=>Ze (Zs HG.out G2.out).size hX);(case aO=>exact R_kept HO.out hg G2.out);(case aS=>exact (Zs HG.out G2.out).size);(case aL=>have:=HLK.out;have:=HK.out;omega)
                 intro v1 wn ho hb hgr hat;have HO2:=Za ho;have HS2:=Za (RS.row_ H2.out hgr (fun X hX=>HX.out X (HOW.out X hX)));have HG2:=Za (ZX (Zs HG.out G2.out) hgr HOW.out);clear ho hb hgr hat HO HG G2 H2))
          go_roundg k1
          case measure=>omega
          case rel=>exact⟨false,rfl,Za ⟨(by have:=HKQ.out;omega),_,_,HL1.out,HO2.out,HS2.out,HG2.out,by have:=HLK.out;rw[Zi];simp only[Zj,Zk];omega⟩⟩
    | false=>
      by_cases hs:(may ts [44] s).1=true
      · have hs3:(may ts (ByteArray.mk #[44]).data.toList s).1=true:=hs;rw[exprsL_go ts (goes_next ts hw) hs] at hL;by_cases hlen:8≤l.length
        · have hm:8≤l.length:=hlen;have hmb:decide (8≤l.length)=true:=Zl hm;have hmi:decide (8≤(l.length:Int))=true:=Zl (by omega);have hM:many ts l.length 8 (may ts [44] s).2=fails ts 3 (may ts [44] s).2:=(by unfold many;rw[if_pos hm]);rw[hM] at hL;obtain⟨x,hx1,hL⟩:=Zp hL;have HL1:=Za hL;have HX1:=Za hx1;clear hL hM hm hx1 hlen
          go_wp2_with (first
              | (go_at_call 17;(with_reducible refine (ZP _ _ _ _ _ true hw H0.out).mono ?_);rintro e w' ⟨rfl,rfl⟩)
              | (go_at_call 43;(with_reducible refine (ZQ _ _ _ _ _ _ H0.out).mono ?_);rintro e w1 ⟨rfl,hr,hb⟩
                 have H1:=Za hr;have G1:=Za (Zs G0.out hb);clear hr hb H0 G0)
              | (go_at_call 16;(with_reducible refine (Z2 _ _ _ _ _ _ H1.out).mono ?_);rintro e w2 ⟨rfl,hr,hb⟩
                 have H2:=Za hr;have G2:=Za (Zs G1.out hb);clear hr hb H1 G1)
              | (go_at_call 84;(with_reducible refine (HE.out _ _ _ _ _ H2.out HX1.out).mono ?_);rintro e w3 ⟨vk,rfl,hk,hr,hb⟩
                 have H3:=Za hr;have HEK:=Za hk;have GE:Hid (w2.grownBy w3 (some g)):=Za hb;have G3:=Za (Zs G2.out hb);have GL:Hid (wr.heap.size≤w2.heap.size):=Za G2.out.size;clear hr hb hk H2)
              | ((with_reducible refine ZR (b:=.append) (xs:=#[.tmp 30,.tmp 33]) rfl ?_);at_builtin;refine Kd.R_append kEx w.heap.size rfl (.tmp 30) (.tmp 33) 49 56 (.agg #[.int .i64 0,.int .i64 0,.string ⟨#[]⟩,.slice none 0 0,.int .i64 0]) 64 rfl Try.underlying49 infoEx rfl (by decide) (by decide) (.slice p7 l.length c7) l x.1 [.int .i64 x.1.kind,.int .i64 x.1.n,.string x.1.s,vk,.int .i64 x.1.at_] (fun b=>w.heap.size≤b) (fun b=>w2.heap.size≤b) ?a1 ?a2 (kEx.M_lower (Ze HG.out.size GL.out) (kEx_mkM _ _ _ x.1 HEK.out)) (row_new HO.out HG.out.size GL.out) ?aF ?aO (Below.refl _ _) ?aS ?aL ?_;(try (case a1=>rfl));(try (case a2=>rfl));(case aF=>exact fun X hX=>Ze (Zs HG.out G3.out).size hX);(case aO=>exact R_kept HO.out hg G3.out);(case aS=>exact (Zs HG.out G3.out).size);(case aL=>have:=HLK.out;have:=HK.out;omega)
                 intro v1 wn ho hb hgr hat;have HO2:=Za ho;have HS2:=Za (RS.row_ H3.out hgr (fun X hX=>HX.out X (HOW.out X hX)));have HG2:=Za (ZX (Zs HG.out G3.out) hgr HOW.out);clear ho hb hgr hat HO HG G3 H3))
          go_roundg k1
          case measure=>omega
          case rel=>exact⟨false,rfl,Za ⟨(by have:=HKQ.out;omega),_,_,HL1.out,HO2.out,HS2.out,HG2.out,by have:=HLK.out;rw[Zi];simp only[Zj,Zk];omega⟩⟩
        · have hm:¬8≤l.length:=hlen;have hmb:decide (8≤l.length)=false:=Zm hm;have hmi:decide (8≤(l.length:Int))=false:=Zm (by omega);have hM:many ts l.length 8 (may ts [44] s).2=(may ts [44] s).2:=(by unfold many;rw[if_neg hm]);rw[hM] at hL;obtain⟨x,hx1,hL⟩:=Zp hL;have HL1:=Za hL;have HX1:=Za hx1;clear hL hM hm hx1 hlen
          go_wp2_with (first
              | (go_at_call 17;(with_reducible refine (ZP _ _ _ _ _ true hw H0.out).mono ?_);rintro e w' ⟨rfl,rfl⟩)
              | (go_at_call 43;(with_reducible refine (ZQ _ _ _ _ _ _ H0.out).mono ?_);rintro e w1 ⟨rfl,hr,hb⟩
                 have H1:=Za hr;have G1:=Za (Zs G0.out hb);clear hr hb H0 G0)
              | (go_at_call 84;(with_reducible refine (HE.out _ _ _ _ _ H1.out HX1.out).mono ?_);rintro e w2 ⟨vk,rfl,hk,hr,hb⟩
                 have H2:=Za hr;have HEK:=Za hk;have GE:Hid (w1.grownBy w2 (some g)):=Za hb;have G2:=Za (Zs G1.out hb);have GL:Hid (wr.heap.size≤w1.heap.size):=Za G1.out.size;clear hr hb hk H1)
              | ((with_reducible refine ZR (b:=.append) (xs:=#[.tmp 30,.tmp 33]) rfl ?_);at_builtin;refine Kd.R_append kEx w.heap.size rfl (.tmp 30) (.tmp 33) 49 56 (.agg #[.int .i64 0,.int .i64 0,.string ⟨#[]⟩,.slice none 0 0,.int .i64 0]) 64 rfl Try.underlying49 infoEx rfl (by decide) (by decide) (.slice p7 l.length c7) l x.1 [.int .i64 x.1.kind,.int .i64 x.1.n,.string x.1.s,vk,.int .i64 x.1.at_] (fun b=>w.heap.size≤b) (fun b=>w1.heap.size≤b) ?a1 ?a2 (kEx.M_lower (Ze HG.out.size GL.out) (kEx_mkM _ _ _ x.1 HEK.out)) (row_new HO.out HG.out.size GL.out) ?aF ?aO (Below.refl _ _) ?aS ?aL ?_;(try (case a1=>rfl));(try (case a2=>rfl));(case aF=>exact fun X hX=>Ze (Zs HG.out G2.out).size hX);(case aO=>exact R_kept HO.out hg G2.out);(case aS=>exact (Zs HG.out G2.out).size);(case aL=>have:=HLK.out;have:=HK.out;omega)
                 intro v1 wn ho hb hgr hat;have HO2:=Za ho;have HS2:=Za (RS.row_ H2.out hgr (fun X hX=>HX.out X (HOW.out X hX)));have HG2:=Za (ZX (Zs HG.out G2.out) hgr HOW.out);clear ho hb hgr hat HO HG G2 H2))
          go_roundg k1
          case measure=>omega
          case rel=>exact⟨false,rfl,Za ⟨(by have:=HKQ.out;omega),_,_,HL1.out,HO2.out,HS2.out,HG2.out,by have:=HLK.out;rw[Zi];simp only[Zj,Zk];omega⟩⟩
      · have hs2:(may ts [44] s).1=false:=(by simpa using hs);have hs3:(may ts (ByteArray.mk #[44]).data.toList s).1=false:=hs2;rw[exprsL_stop ts (goes_next ts hw) hs2] at hL;injection hL with hL
        subst hL;clear HLK
        go_wp2_with (first
            | (go_at_call 17;(with_reducible refine (ZP _ _ _ _ _ true hw H0.out).mono ?_);rintro e w' ⟨rfl,rfl⟩)
            | (go_at_call 43;(with_reducible refine (ZQ _ _ _ _ _ _ H0.out).mono ?_);rintro e w1 ⟨rfl,hr,hb⟩
               have H1:=Za hr;have G1:=Za (Zs G0.out hb);clear hr hb H0 G0)
            | (go_at_call 50;(with_reducible refine (must_any _ _ _ _ _ _ H1.out).mono ?_);rintro e w2 ⟨rfl,hr,hb⟩
               have H2:=Za hr;have G2:=Za (Zs G1.out hb);clear hr hb H1 G1))
        go_ret;exact⟨_,rfl,R_kept HO.out hg G2.out,H2.out,Zs HG.out G2.out⟩
  · have hw2:well s=false:=(by simpa using hw);rw[exprsL_stop ts (goes_not ts hw2) rfl] at hL;injection hL with hL
    subst hL;clear HLK
    go_wp2_with (first
        | (go_at_call 17;(with_reducible refine (ZP _ _ _ _ _ false hw2 H0.out).mono ?_);rintro e w' ⟨rfl,rfl⟩)
        | (go_at_call 50;(with_reducible refine (must_any _ _ _ _ _ _ H0.out).mono ?_);rintro e w1 ⟨rfl,hr,hb⟩
           have H1:=Za hr;have G1:=Za (Zs G0.out hb);clear hr hb H0 G0))
    go_ret;exact⟨_,rfl,R_kept HO.out hg G1.out,H1.out,Zs HG.out G1.out⟩
end
end RefExprs
namespace RefExpr
open Go Go.RowKit RefPure RefKinds RefMem RefTake RefSmall RefFields RefExprs YtddmceldglelkaaW.PrintWords
open LexPure (T lex)
attribute [local go_sem] fld0 fld1 fld2 fld3
abbrev five (W:World) (X:Nat) (a b c d e:Value):World:=((((W.setCell ⟨X,0,none⟩ a).setCell ⟨X,1,none⟩ b).setCell ⟨X,2,none⟩ c).setCell ⟨X,3,none⟩ d).setCell ⟨X,4,none⟩ e
section
variable {w W:World} {X g:Nat} {a b c d e:Value}
theorem five_far {t:TypeId} {cs:Array Value} (h:Blk W g t cs) (hne:g≠X):Blk (five W X a b c d e) g t cs:=((((h.far (p:=⟨X,0,none⟩) hne _).far (p:=⟨X,1,none⟩) hne _).far (p:=⟨X,2,none⟩) hne _).far (p:=⟨X,3,none⟩) hne _).far (p:=⟨X,4,none⟩) hne _
theorem ZS {t:TypeId} {a0 b0 c0 d0 e0:Value} (h:Blk W X t #[a0,b0,c0,d0,e0]):Blk (five W X a b c d e) X t #[a,b,c,d,e]:=((((h.set_ 0 a).set_ 1 b).set_ 2 c).set_ 3 d).set_ 4 e
theorem ZZ {v:Value} {ts:List T} {st:St} (h:RS W g v ts st) (hX:g<X∧∀ b,v.ownBlock=some b→b<X):RS (five W X a b c d e) g v ts st:=
 RS.other (RS.other (RS.other (RS.other (RS.other h hX 0 a) hX 1 b) hX 2 c) hX 3 d) hX 4 e
theorem ZY (h:w.grownBy W (some g)) (hX:w.heap.size≤X):w.grownBy (five W X a b c d e) (some g):=
 Zx (Zx (Zx (Zx (Zx h hX 0 a) hX 1 b) hX 2 c) hX 3 d) hX 4 e
theorem five_R {α:Type} {k:Kd α} {t base:Nat} {ok:Nat→Prop} {vl:Value} {l:List α} (h:k.R t W base ok vl l) (hX:∀ b,ok b→b≠X):k.R t (five W X a b c d e) base ok vl l:=
 Kd.R_far (Kd.R_far (Kd.R_far (Kd.R_far (Kd.R_far h (p:=⟨X,0,none⟩) hX _) (p:=⟨X,1,none⟩) hX _) (p:=⟨X,2,none⟩) hX _) (p:=⟨X,3,none⟩) hX _) (p:=⟨X,4,none⟩) hX _
theorem g_R {α:Type} {k:Kd α} {t base:Nat} {ok:Nat→Prop} {vl:Value} {l:List α} (h:k.R t W base ok vl l) (hX:∀ b,ok b→b≠g) (j:Nat) (u:Value):k.R t (W.setCell ⟨g,j,none⟩ u) base ok vl l:=Kd.R_far h (p:=⟨g,j,none⟩) hX u
end
section
variable (ts:List T)
theorem Zt {W:World} {X:Nat} {t:TypeId} {a b c d e:Value} (h:Blk W X t #[a,b,c,d,e]):W.cell? ⟨X,0,none⟩=some a∧W.cell? ⟨X,1,none⟩=some b∧W.cell? ⟨X,2,none⟩=some c∧W.cell? ⟨X,3,none⟩=some d∧W.cell? ⟨X,4,none⟩=some e:=
 ⟨h.cell 0,h.cell 1,h.cell 2,h.cell 3,h.cell 4⟩
theorem Zz {W:World} {X:Nat} {t:TypeId} {cs:Array Value} (h:Blk W X t cs):W.frozen? ⟨X,0,none⟩=false∧W.frozen? ⟨X,1,none⟩=false∧W.frozen? ⟨X,2,none⟩=false∧W.frozen? ⟨X,3,none⟩=false∧W.frozen? ⟨X,4,none⟩=false:=
 ⟨h.frozen 0,h.frozen 1,h.frozen 2,h.frozen 3,h.frozen 4⟩
theorem ex0_post {w w':World} {g:Nat} {v:Value} {s:St} (hr:RS w' g v ts s) (hg:w.grownBy w' (some g)):ExPost w g v ts (ex0,s) (.returned (.agg #[.int .i64 0,.int .i64 0,.string ⟨#[]⟩,.slice none 0 0,.int .i64 0])) w':=
 ⟨.slice none 0 0,rfl,Kd.R_nil _ _ _ _ _,hr,hg⟩
theorem expr_step (k:Nat) (ih:PRow ts k):PExpr ts (k+1):=by
 intro w g v st r h hF;rw[expr] at hF;obtain⟨x,hx,hr0⟩:=Zp hF;injection hr0 with hr0
 subst hr0;have H0:=Za h;have G0:=Za (ZL w g);have hg:=h.blk.lt;have HX:=Za (fun X (hX:w.heap.size≤X)=>h.elder hX);have HE:Hid (∀ w g v st r,RS w g v ts st→row ts k 0 st=some r→Calls Try.prog 89 #[.pointer (some ⟨g,0,none⟩),.int .i64 0] w (ExPost w g v ts r)):=Za (fun w g v st r h hF=>ih w g v st r 0 (by omega) h hF);clear h hF ih;by_cases hw:well (enter ts st)=true
 · rw[if_pos hw] at hx;have HX1:=Za hx;clear hx;go_enter Try.func84,Try.ntmps84
   go_wp2_with (first
       | (go_at_call 46;(with_reducible refine (enter_any _ _ _ _ _ (H0.out.alloc _)).mono ?_);rintro e w1 ⟨rfl,hr,hb⟩
          have H1:=Za (hr.alloc (.cells #[.int .i64 0,.int .i64 0,.string ⟨#[]⟩,.slice none 0 0,.int .i64 0] 56));have HG1:=Za (ZD (Zs (ZD G0.out _) hb) (.cells #[.int .i64 0,.int .i64 0,.string ⟨#[]⟩,.slice none 0 0,.int .i64 0] 56));have hlt1:w.heap.size<w1.heap.size:=(by have:=hb.size;simp at this;omega);have HB2:=Za (((Blk.new w 56 #[.int .i64 0,.int .i64 0,.string ⟨#[]⟩,.slice none 0 0,.int .i64 0]).grown hb (fun e=>Zg hg (Zb e))).alloc (.cells #[.int .i64 0,.int .i64 0,.string ⟨#[]⟩,.slice none 0 0,.int .i64 0] 56));have HB3:=Za (Blk.new w1 56 #[.int .i64 0,.int .i64 0,.string ⟨#[]⟩,.slice none 0 0,.int .i64 0]);have hr1:=hr.blk.lt;clear hr hb H0 G0)
       | (go_at_call 17;(with_reducible refine (ZP _ _ _ _ _ true hw H1.out).mono ?_);rintro e w' ⟨rfl,rfl⟩)
       | (go_at_call 89;(with_reducible refine (HE.out _ _ _ _ _ H1.out HX1.out).mono ?_);rintro e w2 ⟨vk,rfl,hk,hr,hb⟩
          obtain⟨pk,ck,rfl⟩:=Kd.R_slice hk;have H2:=Za hr;have HEK:=Za hk;have HB22:=Za (HB2.out.grown hb (fun e=>Zg hg (Zb e)));have hB3:=HB3.out.grown hb (fun e=>Zg hr1 (Zb e));have HB32:=Za hB3;have HG2:=Za (Zs HG1.out hb);obtain⟨y0,y1,y2,y3,y4⟩:=Zt hB3;obtain⟨z0,z1,z2,z3,z4⟩:=Zt HB22.out;obtain⟨fy0,fy1,fy2,fy3,fy4⟩:=Zz hB3;obtain⟨fz0,fz1,fz2,fz3,fz4⟩:=Zz HB22.out;obtain⟨_,_,c2,_,_,_⟩:=hr.cells;have f2:=hr.blk.frozen 2;have hr2:=hr.blk.lt;have hlt2:w1.heap.size<w2.heap.size:=hB3.lt;clear hr hb hk hB3 HB2 HB3 H1 HG1))
   have hne3:w.heap.size≠w1.heap.size:=Zf hlt1;have hneg:w.heap.size≠g:=Zg hg;have hgn:∀ b,w1.heap.size+1≤b→b≠g:=fun b hb=>(by omega);have hXn:∀ b,w1.heap.size+1≤b→b≠w1.heap.size:=fun b hb=>(by omega);have hYn:∀ b,w1.heap.size+1≤b→b≠w.heap.size:=fun b hb=>(by omega);have hle1:w.heap.size≤w1.heap.size:=Zd hlt1;have HEK2:Hid (kEx.R 56 w2 (w1.heap.size+1) (fun b=>w1.heap.size+1≤b) (.slice pk x.1.kids.length ck) x.1.kids):=Za (by have:=HEK.out;simpa using this);clear HEK;refine bodyPost_ret (results_cell_row rfl _ _ w.heap.size 56 #[.int .i64 x.1.kind,.int .i64 x.1.n,.string x.1.s,.slice pk x.1.kids.length ck,.int .i64 x.1.at_] (0,0) _ rfl ?_ Try.underlying56 rfl (by kernel_rfl)) rfl ?_
   · exact ZS ((five_far HB22.out hne3).far (p:=⟨g,2,none⟩) hneg _)
   · refine⟨_,rfl,?_,?_,?_⟩
     · exact Kd.R_mono (Kd.R_lower (five_R (g_R (five_R HEK2.out hXn) hgn 2 _) hYn) (by omega)) (fun b hb=>by omega)
     · exact ZZ (RS.set (ZZ H2.out (HX.out _ hle1)) 2 _ rfl H2.out.lt) (HX.out _ (Zc _))
     · exact ZY (grown_g (ZY HG2.out hle1) 2 _) (Zc _)
 · rw[if_neg hw] at hx;have hw2:well (enter ts st)=false:=(by simpa using hw);injection hx with hx
   subst hx;go_enter Try.func84,Try.ntmps84
   go_wp2_with (first
       | (go_at_call 46;(with_reducible refine (enter_any _ _ _ _ _ (H0.out.alloc _)).mono ?_);rintro e w1 ⟨rfl,hr,hb⟩
          have H1:=Za (hr.alloc (.cells #[.int .i64 0,.int .i64 0,.string ⟨#[]⟩,.slice none 0 0,.int .i64 0] 56));have HG1:=Za (ZD (Zs (ZD G0.out _) hb) (.cells #[.int .i64 0,.int .i64 0,.string ⟨#[]⟩,.slice none 0 0,.int .i64 0] 56));have hlt1:w.heap.size<w1.heap.size:=(by have:=hb.size;simp at this;omega);have HB2:=Za (((Blk.new w 56 #[.int .i64 0,.int .i64 0,.string ⟨#[]⟩,.slice none 0 0,.int .i64 0]).grown hb (fun e=>Zg hg (Zb e))).alloc (.cells #[.int .i64 0,.int .i64 0,.string ⟨#[]⟩,.slice none 0 0,.int .i64 0] 56));have HB3:=Za (Blk.new w1 56 #[.int .i64 0,.int .i64 0,.string ⟨#[]⟩,.slice none 0 0,.int .i64 0]);have hr1:=hr.blk.lt;have H10:=Za hr;have HG10:=Za (Zs (ZD G0.out _) hb);have HB20:=Za ((Blk.new w 56 #[.int .i64 0,.int .i64 0,.string ⟨#[]⟩,.slice none 0 0,.int .i64 0]).grown hb (fun e=>Zg hg (Zb e)));obtain⟨z0,z1,z2,z3,z4⟩:=Zt ((Blk.new w 56 #[.int .i64 0,.int .i64 0,.string ⟨#[]⟩,.slice none 0 0,.int .i64 0]).grown hb (fun e=>Zg hg (Zb e)));obtain⟨fz0,fz1,fz2,fz3,fz4⟩:=Zz ((Blk.new w 56 #[.int .i64 0,.int .i64 0,.string ⟨#[]⟩,.slice none 0 0,.int .i64 0]).grown hb (fun e=>Zg hg (Zb e)));obtain⟨_,_,c2,_,_,_⟩:=hr.cells;have f2:=hr.blk.frozen 2;clear hr hb H0 G0)
       | (go_at_call 17;(with_reducible refine (ZP _ _ _ _ _ false hw2 H1.out).mono ?_);rintro e w' ⟨rfl,rfl⟩))
   have hne3:w.heap.size≠w1.heap.size:=Zf hlt1;have hneg:w.heap.size≠g:=Zg hg;have hle1:w.heap.size≤w1.heap.size:=Zd hlt1;refine bodyPost_ret (results_cell_row rfl _ _ w.heap.size 56 #[.int .i64 0,.int .i64 0,.string ⟨#[]⟩,.slice none 0 0,.int .i64 0] (0,0) _ rfl ?_ Try.underlying56 rfl (by kernel_rfl)) rfl ?_
   · exact (ZS (HB20.out.far (p:=⟨g,2,none⟩) hneg _)).alloc _
   · refine ex0_post ts ?_ ?_
     · refine RS.alloc ?_ _;refine ZZ ?_ (HX.out _ (Zc _));exact RS.set H10.out 2 _ rfl H10.out.lt
     · refine ZD ?_ _;exact ZY (grown_g HG10.out 2 _) (Zc _)
theorem factor_step (k:Nat) (ih:POne ts k):PFactor ts (k+1):=by
 intro w g v st r h hF;rw[factor] at hF;obtain⟨x,hx,hr0⟩:=Zp hF;injection hr0 with hr0
 subst hr0;have H0:=Za h;have G0:=Za (ZL w g);have hg:=h.blk.lt;have HX:=Za (fun X (hX:w.heap.size≤X)=>h.elder hX);have HE:Hid (∀ w g v st r,RS w g v ts st→one ts k st=some r→Calls Try.prog 93 #[.pointer (some ⟨g,0,none⟩)] w (ExPost w g v ts r)):=Za (ih);clear h hF ih;by_cases hw:well (enter ts st)=true
 · rw[if_pos hw] at hx;have HX1:=Za hx;clear hx;go_enter Try.func91,Try.ntmps91
   go_wp2_with (first
       | (go_at_call 46;(with_reducible refine (enter_any _ _ _ _ _ (H0.out.alloc _)).mono ?_);rintro e w1 ⟨rfl,hr,hb⟩
          have H1:=Za (hr.alloc (.cells #[.int .i64 0,.int .i64 0,.string ⟨#[]⟩,.slice none 0 0,.int .i64 0] 56));have HG1:=Za (ZD (Zs (ZD G0.out _) hb) (.cells #[.int .i64 0,.int .i64 0,.string ⟨#[]⟩,.slice none 0 0,.int .i64 0] 56));have hlt1:w.heap.size<w1.heap.size:=(by have:=hb.size;simp at this;omega);have HB2:=Za (((Blk.new w 56 #[.int .i64 0,.int .i64 0,.string ⟨#[]⟩,.slice none 0 0,.int .i64 0]).grown hb (fun e=>Zg hg (Zb e))).alloc (.cells #[.int .i64 0,.int .i64 0,.string ⟨#[]⟩,.slice none 0 0,.int .i64 0] 56));have HB3:=Za (Blk.new w1 56 #[.int .i64 0,.int .i64 0,.string ⟨#[]⟩,.slice none 0 0,.int .i64 0]);have hr1:=hr.blk.lt;clear hr hb H0 G0)
       | (go_at_call 17;(with_reducible refine (ZP _ _ _ _ _ true hw H1.out).mono ?_);rintro e w' ⟨rfl,rfl⟩)
       | (go_at_call 93;(with_reducible refine (HE.out _ _ _ _ _ H1.out HX1.out).mono ?_);rintro e w2 ⟨vk,rfl,hk,hr,hb⟩
          obtain⟨pk,ck,rfl⟩:=Kd.R_slice hk;have H2:=Za hr;have HEK:=Za hk;have HB22:=Za (HB2.out.grown hb (fun e=>Zg hg (Zb e)));have hB3:=HB3.out.grown hb (fun e=>Zg hr1 (Zb e));have HB32:=Za hB3;have HG2:=Za (Zs HG1.out hb);obtain⟨y0,y1,y2,y3,y4⟩:=Zt hB3;obtain⟨z0,z1,z2,z3,z4⟩:=Zt HB22.out;obtain⟨fy0,fy1,fy2,fy3,fy4⟩:=Zz hB3;obtain⟨fz0,fz1,fz2,fz3,fz4⟩:=Zz HB22.out;obtain⟨_,_,c2,_,_,_⟩:=hr.cells;have f2:=hr.blk.frozen 2;have hr2:=hr.blk.lt;have hlt2:w1.heap.size<w2.heap.size:=hB3.lt;clear hr hb hk hB3 HB2 HB3 H1 HG1))
   have hne3:w.heap.size≠w1.heap.size:=Zf hlt1;have hneg:w.heap.size≠g:=Zg hg;have hgn:∀ b,w1.heap.size+1≤b→b≠g:=fun b hb=>(by omega);have hXn:∀ b,w1.heap.size+1≤b→b≠w1.heap.size:=fun b hb=>(by omega);have hYn:∀ b,w1.heap.size+1≤b→b≠w.heap.size:=fun b hb=>(by omega);have hle1:w.heap.size≤w1.heap.size:=Zd hlt1;have HEK2:Hid (kEx.R 56 w2 (w1.heap.size+1) (fun b=>w1.heap.size+1≤b) (.slice pk x.1.kids.length ck) x.1.kids):=Za (by have:=HEK.out;simpa using this);clear HEK;refine bodyPost_ret (results_cell_row rfl _ _ w.heap.size 56 #[.int .i64 x.1.kind,.int .i64 x.1.n,.string x.1.s,.slice pk x.1.kids.length ck,.int .i64 x.1.at_] (0,0) _ rfl ?_ Try.underlying56 rfl (by kernel_rfl)) rfl ?_
   · exact ZS ((five_far HB22.out hne3).far (p:=⟨g,2,none⟩) hneg _)
   · refine⟨_,rfl,?_,?_,?_⟩
     · exact Kd.R_mono (Kd.R_lower (five_R (g_R (five_R HEK2.out hXn) hgn 2 _) hYn) (by omega)) (fun b hb=>by omega)
     · exact ZZ (RS.set (ZZ H2.out (HX.out _ hle1)) 2 _ rfl H2.out.lt) (HX.out _ (Zc _))
     · exact ZY (grown_g (ZY HG2.out hle1) 2 _) (Zc _)
 · rw[if_neg hw] at hx;have hw2:well (enter ts st)=false:=(by simpa using hw);injection hx with hx
   subst hx;go_enter Try.func91,Try.ntmps91
   go_wp2_with (first
       | (go_at_call 46;(with_reducible refine (enter_any _ _ _ _ _ (H0.out.alloc _)).mono ?_);rintro e w1 ⟨rfl,hr,hb⟩
          have H1:=Za (hr.alloc (.cells #[.int .i64 0,.int .i64 0,.string ⟨#[]⟩,.slice none 0 0,.int .i64 0] 56));have HG1:=Za (ZD (Zs (ZD G0.out _) hb) (.cells #[.int .i64 0,.int .i64 0,.string ⟨#[]⟩,.slice none 0 0,.int .i64 0] 56));have hlt1:w.heap.size<w1.heap.size:=(by have:=hb.size;simp at this;omega);have HB2:=Za (((Blk.new w 56 #[.int .i64 0,.int .i64 0,.string ⟨#[]⟩,.slice none 0 0,.int .i64 0]).grown hb (fun e=>Zg hg (Zb e))).alloc (.cells #[.int .i64 0,.int .i64 0,.string ⟨#[]⟩,.slice none 0 0,.int .i64 0] 56));have HB3:=Za (Blk.new w1 56 #[.int .i64 0,.int .i64 0,.string ⟨#[]⟩,.slice none 0 0,.int .i64 0]);have hr1:=hr.blk.lt;have H10:=Za hr;have HG10:=Za (Zs (ZD G0.out _) hb);have HB20:=Za ((Blk.new w 56 #[.int .i64 0,.int .i64 0,.string ⟨#[]⟩,.slice none 0 0,.int .i64 0]).grown hb (fun e=>Zg hg (Zb e)));obtain⟨z0,z1,z2,z3,z4⟩:=Zt ((Blk.new w 56 #[.int .i64 0,.int .i64 0,.string ⟨#[]⟩,.slice none 0 0,.int .i64 0]).grown hb (fun e=>Zg hg (Zb e)));obtain⟨fz0,fz1,fz2,fz3,fz4⟩:=Zz ((Blk.new w 56 #[.int .i64 0,.int .i64 0,.string ⟨#[]⟩,.slice none 0 0,.int .i64 0]).grown hb (fun e=>Zg hg (Zb e)));obtain⟨_,_,c2,_,_,_⟩:=hr.cells;have f2:=hr.blk.frozen 2;clear hr hb H0 G0)
       | (go_at_call 17;(with_reducible refine (ZP _ _ _ _ _ false hw2 H1.out).mono ?_);rintro e w' ⟨rfl,rfl⟩))
   have hne3:w.heap.size≠w1.heap.size:=Zf hlt1;have hneg:w.heap.size≠g:=Zg hg;have hle1:w.heap.size≤w1.heap.size:=Zd hlt1;refine bodyPost_ret (results_cell_row rfl _ _ w.heap.size 56 #[.int .i64 0,.int .i64 0,.string ⟨#[]⟩,.slice none 0 0,.int .i64 0] (0,0) _ rfl ?_ Try.underlying56 rfl (by kernel_rfl)) rfl ?_
   · exact (ZS (HB20.out.far (p:=⟨g,2,none⟩) hneg _)).alloc _
   · refine ex0_post ts ?_ ?_
     · refine RS.alloc ?_ _;refine ZZ ?_ (HX.out _ (Zc _));exact RS.set H10.out 2 _ rfl H10.out.lt
     · refine ZD ?_ _;exact ZY (grown_g HG10.out 2 _) (Zc _)
end
end RefExpr
end Go.Proofs.Ytddmceldglelkaa
