/- A claim's texts, in the order of what they need: CmpKinds, CmpCopied, Shelf, CmpCut, CmpSize, CmpName. -/
import Derived.Test.YtddmceldglelkaaBCompBases15
import Derived.Test.YtddmceldglelkaaBCompBases27
import Derived.Deep.LoopGhost
import Derived.Deep.RegionLaw
import Derived.Deep.RegionHeld3
import Derived.Shelf.Strings.Search1
import Derived.Shelf.Strings.Search2
import Derived.Shelf.Strings.Cut
import Derived.Shelf.LaysM
import Derived.Shelf.Strings.Shaped
import Derived.Shelf.Slices.Turned
import Derived.Ground.Names2Prog
import Derived.Shelf.Slices.Clone
import Derived.Test.YtddmceldglelkaaProg
import Derived.WalkKit
import Derived.Lib.Walk
import Derived.Shelf.RegionOpenPlain
import Derived.Lib.IndexMore
import Derived.Below
import Derived.Deep.QuietTactic
set_option maxRecDepth 100000
set_option maxHeartbeats 8000000
set_option linter.unusedVariables false
set_option linter.unusedSimpArgs false
set_option linter.unusedSectionVars false
namespace Go.Proofs.Ytddmceldglelkaa.CmpKinds
open Go Go.RowKit RefPure RefKinds RefMem RefSameP CmpPure CmpMem YtddmceldglelkaaW.PrintWords
def mL (w0:World):Kd ClauseT:=Kd.iso (Kd.pair (Kd.fixed kAtom w0) (Kd.pair (Kd.slice 58 (Kd.fixed kLit w0)) (Kd.int .i64))) (fun x:ClauseT=>(x.head,x.body,x.at_))
theorem mL_mkM {w0 w:World} {base:Nat} {ok:Nat→Prop} (x:ClauseT) {va vb:Value} (ha:Vw kEx w0 va x.head.args) (hb:(Kd.fixed kLit w0).R 58 w base ok vb x.body):(mL w0).M w base ok x [.string x.head.rel,va,.int .i64 x.head.at_,vb,.int .i64 x.at_]:=by obtain⟨A,c,rfl,hl,hc⟩:=ha;exact⟨[.string x.head.rel,.slice A x.head.args.length c,.int .i64 x.head.at_],_,rfl,kAtom_mk w0 x.head hl hc,[vb],_,rfl,⟨vb,rfl,hb⟩,rfl⟩
theorem mL_open {w0 w:World} {x:ClauseT} {cs:List Value} (h:(mL w0).K w x cs):∃ va vb,cs=[.string x.head.rel,va,.int .i64 x.head.at_,vb,.int .i64 x.at_]∧Vw kEx w0 va x.head.args∧Vw (Kd.fixed kLit w0) w vb x.body:=by obtain⟨c0,_,rfl,h0,⟨_,_,rfl,⟨Ab,cb,rfl,lb,gb⟩,rfl⟩⟩:=h;obtain⟨A,c,rfl,hl,hc⟩:=kAtom_open h0;exact⟨_,_,rfl,⟨A,c,rfl,hl,hc⟩,⟨Ab,cb,rfl,lb,gb⟩⟩
theorem kL_open {w:World} {x:ClauseT} {cs:List Value} (h:kClause.K w x cs):∃ va vb,cs=[.string x.head.rel,va,.int .i64 x.head.at_,vb,.int .i64 x.at_]∧Vw kEx w va x.head.args∧Vw kLit w vb x.body:=by obtain⟨A,c,B,d,rfl,h1,h2,h3,h4⟩:=kClause_open h;exact⟨_,_,rfl,⟨A,c,rfl,h1,h2⟩,⟨B,d,rfl,h3,h4⟩⟩
def xL (w0:World):Kd (ClauseT×Bool) where
 sz:=5
 E:=(mL w0).E
 K:=fun w x cs=>match x.2 with|true=>(mL w0).K w x.1 cs|false=>kClause.K w0 x.1 cs
 M:=fun w base ok x cs=>match x.2 with|true=>(mL w0).M w base ok x.1 cs|false=>kClause.K w0 x.1 cs
 K_len:=by
  intro w x cs h;obtain⟨c,b⟩:=x;cases b
  · exact kClause.K_len h
  · exact (mL w0).K_len h
 K_one:=by
  intro w x cs h;obtain⟨c,b⟩:=x;cases b
  · exact kClause.K_one h
  · exact (mL w0).K_one h
 K_below:=by
  intro w w1 x cs hb h;obtain⟨c,b⟩:=x;cases b
  · exact h
  · exact (mL w0).K_below hb h
 K_of_M:=by
  intro w base ok x cs h;obtain⟨c,b⟩:=x;cases b
  · exact h
  · exact (mL w0).K_of_M h
 M_mono:=by
  intro w base ok ok' x cs hok h;obtain⟨c,b⟩:=x;cases b
  · exact h
  · exact (mL w0).M_mono hok h
 M_bound:=by
  intro w base ok x cs h;obtain⟨c,b⟩:=x;cases b
  · exact h
  · exact (mL w0).M_bound h
 M_move:=by
  intro w w1 base ok x cs hm h;obtain⟨c,b⟩:=x;cases b
  · exact h
  · exact (mL w0).M_move hm h
 M_lower:=by
  intro w base base' ok x cs hm h;obtain⟨c,b⟩:=x;cases b
  · exact h
  · exact (mL w0).M_lower hm h
theorem reps_map {α β:Type} {P:β→List Value→Prop} {sz:Nat} (f:α→β) {l:List α} {inner:List Value}:Reps P sz (l.map f) inner↔Reps (fun x=>P (f x)) sz l inner:=by unfold Reps;rw[List.length_map];refine and_congr_right fun _=>⟨fun h j p hj=>h j (f p) (by rw[List.getElem?_map,hj];rfl),fun h j p hj=>?_⟩;rw[List.getElem?_map] at hj;obtain⟨q,hq,rfl⟩:=Option.map_eq_some_iff.1 hj;exact h j q hq
theorem xL_came {w0 w:World} {e base:Nat} {ok:Nat→Prop} {v:Value} {l:List ClauseT} (h:(Kd.fixed kClause w0).R e w base ok v l):(xL w0).R e w base ok v (l.map (·,false)):=by obtain⟨h0,inner,ho,hr⟩:=h;exact⟨h0,inner,by rw[List.length_map];exact ho,(reps_map _).2 (hr.imp_ (fun _ _ hp=>hp))⟩
theorem xL_made {w0 w:World} {e base:Nat} {ok:Nat→Prop} {v:Value} {l:List ClauseT} (h:(xL w0).R e w base ok v (l.map (·,true))):(mL w0).R e w base ok v l:=by obtain⟨h0,inner,ho,hr⟩:=h;rw[List.length_map] at ho;exact⟨h0,inner,ho,((reps_map _).1 hr).imp_ (fun _ _ hp=>hp)⟩
def half (done l:List ClauseT) (i:Nat):List (ClauseT×Bool):=done.map (·,true)++(l.drop i).map (·,false)
theorem half_len {done l:List ClauseT} {i:Nat} (hd:done.length=i) (hi:i≤l.length):(half done l i).length=l.length:=by unfold half;rw[Zi,List.length_map,List.length_map,List.length_drop];omega
theorem half_at {done l:List ClauseT} {i:Nat} {x:ClauseT} (hd:done.length=i) (hx:l[i]?=some x):(half done l i)[i]?=some (x,false):=by unfold half;rw[List.getElem?_append_right (by rw[List.length_map];omega),List.length_map,hd,Nat.sub_self,List.getElem?_map,List.getElem?_drop,Nat.add_zero,hx];rfl
theorem half_set {done l:List ClauseT} {i:Nat} {x y:ClauseT} (hd:done.length=i) (hx:l[i]?=some x):(half done l i).set i (y,true)=half (done++[y]) l (i+1):=by obtain⟨hi,_⟩:=Zq hx;unfold half;rw[List.set_append_right _ _ (by rw[List.length_map];omega),List.length_map,hd,Nat.sub_self,List.drop_eq_getElem_cons hi,List.map_cons,List.set_cons_zero,List.map_append,List.append_assoc];rfl
theorem half_end {done l:List ClauseT} (hd:done.length=l.length):half done l l.length=done.map (·,true):=by unfold half;rw[List.drop_eq_nil_of_le (Zc _),List.map_nil,List.append_nil]
theorem row_at {α:Type} {d:Kd α} {e base:Nat} {ok:Nat→Prop} {w:World} {A:Option Addr} {n c:Nat} {xs:List α} (h:d.R e w base ok (.slice A n c) xs) (hn:0<xs.length):∃ g,A=some ⟨g,0,none⟩∧base≤g∧ok g∧g<w.heap.size∧∃ cur,Blk w g e cur:=by
 obtain⟨h0,inner,ho,hr⟩:=h;rcases ho.2 with ⟨hv,hl⟩|⟨g,cap,cur,hv,hb,hh,_⟩
 · omega
 · injection hv with hA _ _
   subst hA;refine⟨g,rfl,hb,h0 g rfl,?_,cur,hh⟩;exact Blk.lt (cs:=cur) hh
theorem R_like {α:Type} {d:Kd α} {e base:Nat} {ok:Nat→Prop} {w1 w':World} {v:Value} {xs:List α} (h:d.R e w1 base ok v xs) (hm:∀ k,ok k→k<w1.heap.size→w'.heap[k]?=w1.heap[k]?):d.R e w' base ok v xs:=
 Kd.R_mono (Kd.R_move (Kd.R_mono (ok':=fun k=>ok k∧k<w1.heap.size) (Kd.R_bound h) (fun k hk=>⟨hk.1,hk.2.2.1⟩)) (fun k hk=>hm k hk.1 hk.2)) (fun k hk=>hk.1)
end Go.Proofs.Ytddmceldglelkaa.CmpKinds
namespace Go.Proofs.Ytddmceldglelkaa.CmpCopied
open Go Go.RowKit RefPure RefKinds RefMem RefSameP CmpPure CmpMem CmpKinds CmpClone RefExpr YtddmceldglelkaaW.PrintWords
theorem made_at {α:Type} {d:Kd α} {e base:Nat} {ok:Nat→Prop} {w:World} {g n c:Nat} {xs:List α} (h:d.R e w base ok (.slice (some ⟨g,0,none⟩) n c) xs) (i:Nat) (x:α) (hx:xs[i]?=some x) :
    ∃ cs,d.M w base (fun k=>ok k∧some k≠some g) x cs∧cs.length=d.sz∧∀ j u,cs[j]?=some u→w.cell? ⟨g,i*d.sz+j,none⟩=some u:=by
 obtain⟨h0,inner,ho,hr⟩:=h;have hi:=(Zq hx).1;have hM:=hr.2 i x hx;rcases ho.2 with ⟨hv,hl⟩|⟨g',cap,cur,hv,hb,hh,hnc,hcm,hcs,htk⟩
 · cases hv
 · injection hv with hA _ _
   injection hA with hA
   injection hA with hA
   subst hA;have hlen:=d.K_len (d.K_of_M hM);refine⟨_,hM,hlen,fun j u hj=>?_⟩;have hjl:j<d.sz:=(by have:=(Zq hj).1;omega);rw[cell_of_row w g _ cur e (0,0) hh];rw[List.getElem?_take,if_pos hjl,List.getElem?_drop] at hj;have hk:i*d.sz+j<xs.length*d.sz:=(by have:i*d.sz+d.sz≤xs.length*d.sz:=(by rw[← Nat.succ_mul];exact Nat.mul_le_mul_right _ hi);omega);rw[← htk,List.getElem?_take,if_pos hk,Array.getElem?_toList] at hj;exact hj
theorem copied_step {w0 w wr:World} {g n c:Nat} {l:List ClauseT} {i:Nat} {x:ClauseT} {va:Value} {ab:Option Addr} {cb:Nat} (h:(xL w0).R 54 wr w.heap.size (fun b=>w.heap.size≤b) (.slice (some ⟨g,0,none⟩) n c) (half (l.take i) l i)) (hcell:∀ j u,([.string x.head.rel,va,.int .i64 x.head.at_,.slice ab x.body.length cb,.int .i64 x.at_]:List Value)[j]?=some u→wr.cell? ⟨g,i*(xL w0).sz+j,none⟩=some u)
    (hva:Vw kEx w0 va x.head.args) (htk:(l.take i).length=i) (hx:l[i]?=some x) (hgb:w.heap.size≤g) (hgl:g<wr.heap.size):∀ w5 v5,Below wr.heap.size wr w5→(Kd.fixed kLit w0).R 58 w5 wr.heap.size (fun b=>wr.heap.size≤b) v5 x.body→
    (xL w0).R 54 (w5.setCell ⟨g,i*5+3,none⟩ v5) w.heap.size (fun b=>w.heap.size≤b) (.slice (some ⟨g,0,none⟩) n c) (half (l.take (i+1)) l (i+1)):=by
 intro w5 v5 hb hr;have hil:=(Zq hx).1;have h5:=Kd.R_below h hb;have hn:n=l.length:=by have:=(Kd.R_reads' h).1;rw[half_len htk (by omega)] at this;exact this
 have hseg:=Kd.R_seg (okp:=fun k=>wr.heap.size≤k) h5 (i:Int) (by omega) (by omega) (c:=[.string x.head.rel,va,.int .i64 x.head.at_,.slice ab x.body.length cb,.int .i64 x.at_]) (seg:=[v5]) (j:=3) rfl
  (fun j u hj=>(hb.cell (p:=⟨g,_,none⟩) hgl).trans (hcell j u hj)) (show 3+1≤5 by decide) (x':=(x,true)) (mL_mkM x hva (Kd.R_lower hr (by omega))) (fun k hk=>⟨by omega,by omega⟩)
 have h6:=hseg.1;have htt:l.take (i+1)=l.take i++[x]:=(by rw[List.take_add_one,hx];rfl);rw[show ((i:Int).toNat)=i from rfl,half_set htk hx,← htt] at h6;exact h6
def CopiedPost (w0 w:World) (l:List ClauseT) (e:Ending) (w':World):Prop:=
 ∃ v,e=.returned v∧(mL w0).R 54 w' w.heap.size (fun b=>w.heap.size≤b) v l∧Below w.heap.size w w'
theorem copied_any (w0 w:World) (v:Value) (l:List ClauseT) (hv:Vw (Kd.fixed kClause w0) w v l) (hb:Below w0.heap.size w0 w) (hl:l.length≤1048576) (hbl:∀ c∈l,c.body.length≤1048576) :
    Calls Try.prog 20 #[v] w (CopiedPost w0 w l):=by
 have HC:=Za (clauses_any w0 w v l hv hl);have HB:=Za hb;have HBL:=Za hbl;have HL:=Za hl;clear hv hb hbl hl;obtain⟨n,hn⟩:∃ n,l.length=n:=⟨_,rfl⟩;have HN:=Za hn;go_enter Try.func20,Try.ntmps20;go_wp2_with (first|(go_at_call 53;(with_reducible refine (HC.out).mono ?_);rintro e w2 ⟨v1,rfl,hr,hbw⟩;obtain⟨A,c,e1⟩:=Kd.R_slice hr;rw[hn] at e1;subst e1;have HR:=Za hr;have HBW:=Za hbw;clear hr hbw hn))
 go_loopg [8] (n+1) (fun g v8 wr=>∃ i:Nat,v8=.int .i64 (i:Int)∧Hid (i≤n∧n - i<g∧Below w.heap.size w wr∧(xL w0).R 54 wr w.heap.size (fun b=>w.heap.size≤b) (.slice A n c) (half (l.take i) l i)))
 case atStart=>exact⟨0,rfl,Za ⟨Nat.zero_le _,by omega,HBW.out,by have:=xL_came HR.out;simpa [half] using this⟩⟩
 case round=>
  obtain⟨i,rfl,HI⟩:=hrel;by_cases hi:i<n
  · have hib:decide (i<n)=true:=Zl hi;obtain⟨x,hx⟩:∃ t,l[i]?=some t:=⟨l[i]'(by rw[HN.out];exact hi),by simp⟩;have htk:(l.take i).length=i:=(by rw[List.length_take];have:=HN.out;omega);obtain⟨g,rfl,hgb,_,hgl,cur,hblk⟩:=row_at HI.out.2.2.2 (by rw[half_len htk (by have:=HN.out;omega)];have:=HN.out;omega);obtain⟨cs,hM,hcl,hcell⟩:=made_at HI.out.2.2.2 i _ (half_at htk hx);obtain⟨va,vb,rfl,hva,hvb⟩:=kL_open hM;obtain⟨ab,cb,rfl⟩:=hvb.slice;have c3:wr.cell? ⟨g,i*5+3,none⟩=some (.slice ab x.body.length cb):=hcell 3 _ rfl;have f3:=hblk.frozen (i*5+3);have HCL:=Za (lits_any w0 wr _ x.body ((vw_fixed hvb).below (HB.out.trans (HI.out.2.2.1.mono HB.out.size))) (HBL.out x (List.mem_of_getElem? hx)));have HST:=Za (copied_step (i:=i) HI.out.2.2.2 hcell hva htk hx hgb hgl);have hi0:(0:Int)≤(i:Int):=(by omega);have hi1:(i:Int)<(n:Int):=(by omega);clear hx hM hcl hcell hva hvb hblk htk;go_wp2_with (first|(go_at_call 54;(with_reducible refine (HCL.out).mono ?_);rintro e w5 ⟨v5,rfl,hr5,hb5⟩;obtain⟨a5,d5,e5⟩:=Kd.R_slice hr5;subst e5;have HR5:=Za hr5;have HB5:=Za hb5;have c35:=(hb5.cell (p:=⟨g,i*5+3,none⟩) hgl).trans c3;have f35:=(hb5.frozen (p:=⟨g,i*5+3,none⟩) hgl).trans f3;clear hr5 hb5))
    go_roundg (n - i)
    all_goals first
     | (have:=HI.out.2.1;omega)
     | exact⟨i+1,by rw[wrap_up i (by have:=HL.out;have:=HN.out;omega)],Za ⟨hi,by omega,(HI.out.2.2.1.trans (HB5.out.mono HI.out.2.2.1.size)).setCell hgb _,HST.out _ _ HB5.out HR5.out⟩⟩
  · have hib:decide (i<n)=false:=Zm hi;go_wp2;go_ret;have hin:i=l.length:=(by have:=HI.out.1;have:=HN.out;omega);refine⟨_,rfl,xL_made ?_,HI.out.2.2.1⟩;have h1:=HI.out.2.2.2;rw[hin,half_end (by rw[List.length_take,Nat.min_self])] at h1;rw[List.take_length] at h1;exact h1
end Go.Proofs.Ytddmceldglelkaa.CmpCopied
namespace Go.Proofs
open Go.Shelf
def Try.lays219_ren:Go.Shelf.Ren:=⟨fun|219=>92|217=>94|225=>95|224=>96|267=>97|266=>98|314=>99|n=>n,fun|9=>9|3=>3|4=>4|5=>5|46=>156|146=>158|51=>157|n=>n,fun|1=>0|n=>n⟩
theorem Try.lays219:Go.Proofs.Lays.n219 Try.prog Try.lays219_ren:={
 mixed:=by kernel_rfl
 f217:=Try.func94.trans (congrArg some (by kernel_rfl))
 f219:=Try.func92.trans (congrArg some (by kernel_rfl))
 f224:=Try.func96.trans (congrArg some (by kernel_rfl))
 f225:=Try.func95.trans (congrArg some (by kernel_rfl))
 f266:=Try.func98.trans (congrArg some (by kernel_rfl))
 f267:=Try.func97.trans (congrArg some (by kernel_rfl))
 f314:=Try.func99.trans (congrArg some (by kernel_rfl))
 t3:=Try.underlying3
 a3:=Try.isAgg3
 z3:=Try.sizeOf3
 v3:=Try.zeroValue3
 t4:=Try.underlying4
 a4:=Try.isAgg4
 z4:=Try.sizeOf4
 v4:=Try.zeroValue4
 t5:=Try.underlying5
 a5:=Try.isAgg5
 z5:=Try.sizeOf5
 v5:=Try.zeroValue5
 t9:=Try.underlying9
 a9:=Try.isAgg9
 z9:=Try.sizeOf9
 v9:=Try.zeroValue9
 t46:=Try.underlying156
 a46:=Try.isAgg156
 z46:=Try.sizeOf156
 v46:=Try.zeroValue156
 t51:=Try.underlying157
 a51:=Try.isAgg157
 z51:=Try.sizeOf157
 v51:=Try.zeroValue157
 t146:=Try.underlying158
 a146:=Try.isAgg158
 z146:=Try.sizeOf158
 v146:=Try.zeroValue158
 g1:=by kernel_rfl }
open Go.RowKit Go.Lib in
theorem Try.stringslite_Index_one (s:ByteArray) (c:UInt8) (w:World) :
    Calls Try.prog 92 #[.string s,.string ⟨#[c]⟩] w fun e w'=>e=.returned (.int .i64 (Lib.indexByte s.data.toList c))∧w'=w:=Any.stringslite_Index_one Try.lays219 s c w
def Try.lays110_ren:Go.Shelf.Ren:=⟨fun|110=>56|109=>76|n=>n,fun|31=>40|9=>9|4=>4|3=>3|0=>0|n=>n,fun|n=>n⟩
theorem Try.lays110:Go.Proofs.Lays.n110 Try.prog Try.lays110_ren:={
 mixed:=by kernel_rfl
 f109:=Try.func76.trans (congrArg some (by kernel_rfl))
 f110:=Try.func56.trans (congrArg some (by kernel_rfl))
 t0:=Try.underlying0
 a0:=Try.isAgg0
 z0:=Try.sizeOf0
 v0:=Try.zeroValue0
 t3:=Try.underlying3
 a3:=Try.isAgg3
 z3:=Try.sizeOf3
 v3:=Try.zeroValue3
 t4:=Try.underlying4
 a4:=Try.isAgg4
 z4:=Try.sizeOf4
 v4:=Try.zeroValue4
 t9:=Try.underlying9
 a9:=Try.isAgg9
 z9:=Try.sizeOf9
 v9:=Try.zeroValue9
 t31:=Try.underlying40
 a31:=Try.isAgg40
 z31:=Try.sizeOf40
 v31:=Try.zeroValue40 }
open Go.Lib in
theorem Try.slices_Contains_string (b off n c:Nat) (zs:List ByteArray) (x:ByteArray) (w:World) (hz:n≤zs.length) (hbig:n≤9223372036854775807) (hc:∀ j,j<zs.length→w.cell? ⟨b,off+j,none⟩=some (.string (zs.getD j ByteArray.empty))) :
    Calls Try.prog 56 #[.slice (some ⟨b,off,none⟩) n c,.string x] w fun e w'=>e=.returned (.bool (Lib.containsS (zs.take n) x))∧w'=w:=Any.slices_Contains_string Try.lays110 b off n c zs x w hz hbig hc
open Go.Lib in
theorem Try.slices_Contains_string_empty (a:Option Addr) (c:Nat) (x:ByteArray) (w:World) :
    Calls Try.prog 56 #[.slice a 0 c,.string x] w fun e w'=>e=.returned (.bool false)∧w'=w:=Any.slices_Contains_string_empty Try.lays110 a c x w
end Go.Proofs
namespace Go.Proofs.Ytddmceldglelkaa.CmpCut
open Go Go.RowKit RefPure CmpPure
theorem byte_word:∀ l:List UInt8,(Lib.indexByte l 46=-1∧wordL l=l)∨∃ i:Nat,Lib.indexByte l 46=i∧i+1≤l.length∧wordL l=l.take i:=by
 intro l;induction l with
 | nil=>exact .inl ⟨rfl,rfl⟩
 | cons b l ih=>
   by_cases hb:b=46
   · subst hb;exact .inr ⟨0,by simp[Lib.indexByte],by simp,by simp[wordL]⟩
   · rcases ih with ⟨h1,h2⟩|⟨i,h1,h2,h3⟩
     · exact .inl ⟨by simp[Lib.indexByte,hb,h1],by rw[wordL,if_neg hb,h2]⟩
     · exact .inr ⟨i+1,by simp[Lib.indexByte,hb,h1],by simp;omega,by rw[wordL,if_neg hb,h3,List.take_succ_cons]⟩
theorem word_take (s:ByteArray) (i:Nat) (hi:i≤s.size) (h:wordL s.data.toList=s.data.toList.take i):s.extract 0 i=wordS s:=by unfold wordS str;rw[h];apply ByteArray.ext;apply Array.ext';simp[ByteArray.data_extract]
theorem scut_any (s:ByteArray) (hs:s.size≤4611686018427387904) (w:World):Calls Try.prog 90 #[.string s,.string ⟨#[46]⟩] w fun e w'=>∃ r b,e=.returned (.tuple #[.string (wordS s),r,b])∧∃ n,w'=w.drewN n:=by
 have hidx:=fun w=>Try.stringslite_Index_one s 46 w;rcases byte_word s.data.toList with ⟨h1,h2⟩|⟨i,h1,h2,h3⟩
 · have hw:wordS s=s:=(by unfold wordS str;rw[h2]);rw[h1] at hidx;rw[hw];go_enter Try.func90,Try.ntmps90;go_wp2_with (go_at_call 92;refine (hidx _).mono ?_;rintro e w' ⟨rfl,rfl⟩)
   go_ret3
   exact⟨_,_,rfl,0,rfl⟩
 · have hsz:s.data.toList.length=s.size:=(Lib.size_eq s).symm;have hw:=word_take s i (by omega) h3;rw[h1] at hidx;rw[← hw];have c1:(0:Int)≤↑i:=(by omega);have c2:(↑i:Int)≤↑s.size:=(by omega);have c3:(0:Int)≤↑i+1:=(by omega);have c4:(↑i+1:Int)≤↑s.size:=(by omega);clear h1 h2 h3 hw;go_enter Try.func90,Try.ntmps90;go_wp2_with (go_at_call 92;refine (hidx _).mono ?_;rintro e w' ⟨rfl,rfl⟩)
   go_region;go_wp2;go_ret3
   exact⟨_,_,rfl,1,rfl⟩
theorem cut_any (s:ByteArray) (hs:s.size≤4611686018427387904) (w:World):Calls Try.prog 85 #[.string s,.string ⟨#[46]⟩] w fun e w'=>∃ r b,e=.returned (.tuple #[.string (wordS s),r,b])∧∃ n,w'=w.drewN n:=by
 have hc:=fun w=>scut_any s hs w;go_enter Try.func85,Try.ntmps85;go_wp2_with (go_at_call 90;refine (hc _).mono ?_;rintro e w' ⟨r,b,rfl,n,rfl⟩)
 go_ret3
 exact⟨r,b,rfl,n,rfl⟩
end Go.Proofs.Ytddmceldglelkaa.CmpCut
namespace Go.Proofs.Ytddmceldglelkaa.CmpSize
open Go Go.RowKit RefPure CmpPure
open LexPure (T lex)
structure OkCl (B k:Nat) (c:ClauseT):Prop where
 head:c.head.rel.size≤B
 len:c.body.length≤k
 body:∀ l∈c.body,l.atom.rel.size≤B
structure OkP (B k:Nat) (p:ProgT):Prop where
 many:manyP p≤k
 decls:∀ d∈p.decls,d.name.size≤B
 inits:∀ i∈p.inits,i.name.size≤B∧i.comp.size≤B
 clauses:∀ c∈p.clauses,OkCl B k c
structure OkC (B k:Nat) (c:CompT):Prop where
 name:c.name.size≤B
 len:c.bases.length≤k
 bases:∀ b∈c.bases,b.size≤B
 body:OkP B k c.body
theorem OkCl.up {B j k:Nat} {c:ClauseT} (h:OkCl B j c) (hj:j≤k):OkCl B k c:=⟨h.head,Ze h.len hj,h.body⟩
section
variable (ts:List T) (B:Nat) (hB:∀ t∈ts,t.text.length≤B)
include hB
theorem cur_le (st:St):(cur ts st).text.length≤B:=by
 unfold cur;by_cases h:st.at_<ts.length
 · have:ts.getD st.at_ tok0=ts[st.at_]:=(by simp[List.getD,List.getElem?_eq_getElem h]);rw[this];exact hB _ (List.getElem_mem h)
 · have:ts.getD st.at_ tok0=tok0:=(by simp[List.getD,List.getElem?_eq_none (Nat.le_of_not_lt h)]);rw[this];exact Nat.zero_le _
theorem name_le (st:St):(name ts st).1.size≤B:=by unfold name take str;exact cur_le ts B hB _
theorem word_le (st:St):(word ts st).1.size≤B:=by unfold word take str;exact cur_le ts B hB _
theorem basesL_ok:∀ (k:Nat) (l:List ByteArray) (st:St) (r:List ByteArray×St),basesL ts k l st=some r→(∀ b∈l,b.size≤B)→r.1.length≤l.length+k∧∀ b∈r.1,b.size≤B:=by
 intro k;induction k with
 | zero=>intro l st r h;cases h
 | succ k ih=>
   intro l st r h hl;unfold basesL at h;split at h
   · have:=ih _ _ _ h (fun b hb=>by
       rcases List.mem_append.1 hb with hb|hb
       · exact hl b hb
       · rw[List.mem_singleton] at hb;subst hb;exact name_le ts B hB _)
     rw[Zi,List.length_singleton] at this;exact⟨by omega,this.2⟩
   · injection h with h;subst h;exact⟨by show l.length≤_;omega,hl⟩
theorem atom_ok (k:Nat) (st:St) (r:AtomT×St) (h:atom ts k st=some r):r.1.rel.size≤B:=by unfold atom at h;obtain⟨q,_,h⟩:=Zp h;injection h with h;subst h;exact name_le ts B hB _
theorem lit_ok (k:Nat) (st:St) (r:LitT×St) (h:lit ts k st=some r):r.1.atom.rel.size≤B:=by
 unfold lit at h;split at h
 · obtain⟨q,hq,h⟩:=Zp h;injection h with h;subst h;exact atom_ok ts B hB _ _ _ hq
 · split at h
   · obtain⟨q,hq,h⟩:=Zp h;injection h with h;subst h;exact atom_ok ts B hB _ _ _ hq
   · obtain⟨q,hq,h⟩:=Zp h;obtain⟨q2,hq2,h⟩:=Zp h;injection h with h;subst h;exact Nat.zero_le _
theorem bodyL_ok:∀ (k:Nat) (f:Bool) (l:List LitT) (st:St) (r:List LitT×St),bodyL ts k f l st=some r→(∀ b∈l,b.atom.rel.size≤B)→r.1.length≤l.length+k∧∀ b∈r.1,b.atom.rel.size≤B:=by
 intro k;induction k with
 | zero=>intro f l st r h;cases h
 | succ k ih=>
   intro f l st r h hl;unfold bodyL at h;split at h
   · obtain⟨q,hq,h⟩:=Zp h;have:=ih _ _ _ _ h (fun b hb=>by
      rcases List.mem_append.1 hb with hb|hb
      · exact hl b hb
      · rw[List.mem_singleton] at hb;subst hb;exact lit_ok ts B hB _ _ _ hq)
     rw[Zi,List.length_singleton] at this;exact⟨by omega,this.2⟩
   · injection h with h;subst h;exact⟨by show l.length≤_;omega,hl⟩
theorem clause_ok (k:Nat) (st:St) (r:ClauseT×St) (h:clause ts k st=some r):OkCl B k r.1:=by
 unfold clause at h;obtain⟨a,ha,h⟩:=Zp h;have h1:=atom_ok ts B hB _ _ _ ha;split at h
 · obtain⟨q,hq,h⟩:=Zp h;have:=bodyL_ok ts B hB _ _ _ _ _ hq (fun b hb=>absurd hb List.not_mem_nil);injection h with h;subst h;exact⟨h1,by simpa using this.1,this.2⟩
 · injection h with h;subst h;exact⟨h1,Nat.zero_le _,fun b hb=>absurd hb List.not_mem_nil⟩
omit hB in
theorem declL_name:∀ (k:Nat) (d:DeclT) (st:St) (r:DeclT×St),declL ts k d st=some r→r.1.name=d.name:=by
 intro k;induction k with
 | zero=>intro d st r h;cases h
 | succ k ih=>
   intro d st r h;unfold declL at h;split at h
   · rw[ih _ _ _ h];split <;> rfl
   · injection h with h;subst h;rfl
theorem decl_ok (k:Nat) (a:Int) (st:St) (r:DeclT×St) (h:decl ts k a st=some r):r.1.name.size≤B:=by unfold decl at h;obtain⟨q,_,h⟩:=Zp h;rw[declL_name ts _ _ _ _ h];exact word_le ts B hB _
theorem both_ok (K:Nat):∀ (k:Nat),k≤K→
    (∀ (p:ProgT) (st:St) (r:ProgT×St),prog ts k p st=some r→manyP p+k≤K→OkP B K p→(∀ c∈p.comps,OkC B K c)→OkP B K r.1∧∀ c∈r.1.comps,OkC B K c)∧
    (∀ (a:Int) (st:St) (r:CompT×St),comp ts k a st=some r→OkC B K r.1):=by
 intro k;induction k with
 | zero=>intro _;exact⟨fun p st r h=>(by cases h),fun a st r h=>(by cases h)⟩
 | succ k ih=>
   intro hk;obtain⟨ih1,ih2⟩:=ih (by omega);refine⟨fun p st r h hm hp hc=>?_,fun a st r h=>?_⟩
   · unfold prog at h;split at h
     · split at h
       · obtain⟨q,_,h⟩:=Zp h;exact ih1 _ _ _ h (by simp only[manyP,RefPure.addT,Zi,List.length_singleton] at hm ⊢;omega) ⟨by simp only[manyP,RefPure.addT,Zi,List.length_singleton] at hm ⊢;omega,hp.decls,hp.inits,hp.clauses⟩ hc
       · split at h
         · obtain⟨q,hq,h⟩:=Zp h;refine ih1 _ _ _ h (by simp only[manyP,RefPure.addD,Zi,List.length_singleton] at hm ⊢;omega) ⟨by simp only[manyP,RefPure.addD,Zi,List.length_singleton] at hm ⊢;omega,fun d hd=>?_,hp.inits,hp.clauses⟩ hc;rcases List.mem_append.1 hd with hd|hd
           · exact hp.decls d hd
           · rw[List.mem_singleton] at hd;subst hd;exact decl_ok ts B hB _ _ _ _ hq
         · split at h
           · obtain⟨q,hq,h⟩:=Zp h;refine ih1 _ _ _ h (by simp only[manyP,RefPure.addC,Zi,List.length_singleton] at hm ⊢;omega) ⟨by simp only[manyP,RefPure.addC,Zi,List.length_singleton] at hm ⊢;omega,hp.decls,hp.inits,hp.clauses⟩ fun c hd=>?_;rcases List.mem_append.1 hd with hd|hd
             · exact hc c hd
             · rw[List.mem_singleton] at hd;subst hd;exact ih2 _ _ _ hq
           · split at h
             · refine ih1 _ _ _ h (by simp only[manyP,RefPure.addI,Zi,List.length_singleton] at hm ⊢;omega) ⟨by simp only[manyP,RefPure.addI,Zi,List.length_singleton] at hm ⊢;omega,hp.decls,fun d hd=>?_,hp.clauses⟩ hc;rcases List.mem_append.1 hd with hd|hd
               · exact hp.inits d hd
               · rw[List.mem_singleton] at hd;subst hd;exact⟨word_le ts B hB _,name_le ts B hB _⟩
             · obtain⟨q,hq,h⟩:=Zp h;refine ih1 _ _ _ h (by simp only[manyP,RefPure.addCl,Zi,List.length_singleton] at hm ⊢;omega) ⟨by simp only[manyP,RefPure.addCl,Zi,List.length_singleton] at hm ⊢;omega,hp.decls,hp.inits,fun c hd=>?_⟩ hc;rcases List.mem_append.1 hd with hd|hd
               · exact hp.clauses c hd
               · rw[List.mem_singleton] at hd;subst hd;exact (clause_ok ts B hB _ _ _ hq).up (by omega)
     · injection h with h;subst h;exact⟨hp,hc⟩
   · unfold comp at h;obtain⟨b,hb,h⟩:=Zp h;obtain⟨q,hq,h⟩:=Zp h;have hbody:=(ih1 _ _ _ hq (by show 0+k≤K;omega) ⟨Nat.zero_le _,fun _ h=>absurd h List.not_mem_nil,fun _ h=>absurd h List.not_mem_nil,fun _ h=>absurd h List.not_mem_nil⟩ (fun _ h=>absurd h List.not_mem_nil)).1;have hbs:b.1.length≤k+1∧∀ x∈b.1,x.size≤B:=by
      split at hb
      · have:=basesL_ok ts B hB _ _ _ _ hb (fun x hx=>by rw[List.mem_singleton] at hx;subst hx;exact name_le ts B hB _);rw[List.length_singleton] at this;exact⟨by omega,this.2⟩
      · injection hb with hb;subst hb;exact⟨Nat.zero_le _,fun _ h=>absurd h List.not_mem_nil⟩
     injection h with h
     subst h;exact⟨word_le ts B hB _,by show b.1.length≤K;omega,hbs.2,hbody⟩
end
structure Small (p:ProgT):Prop where
 body:OkP 65536 1048576 p
 comps:∀ c∈p.comps,OkC 65536 1048576 c
theorem Small.zero:Small prog0:=⟨⟨Nat.zero_le _,fun _ h=>absurd h List.not_mem_nil,fun _ h=>absurd h List.not_mem_nil,fun _ h=>absurd h List.not_mem_nil⟩,fun _ h=>absurd h List.not_mem_nil⟩
theorem parse_small (k:Nat) (hk:k≤1048576) (l:List UInt8) (r:ProgT×Int×Int) (h:parse k l=some r):Small r.1:=by
 unfold parse at h;split at h
 · obtain⟨q,hq,h⟩:=Zp h;have hB:∀ t∈(lex l).1++[(⟨0,[],0,l.length⟩:T)],t.text.length≤65536:=fun t ht=>by
    rcases List.mem_append.1 ht with ht|ht
    · exact RefLex.lex_txt l t ht
    · rw[List.mem_singleton] at ht;subst ht;exact Nat.zero_le _
   have h2:=(both_ok _ 65536 hB 1048576 k hk).1 _ _ _ hq (by show 0+k≤_;omega) Small.zero.body Small.zero.comps;simp only at h;have h3:r.1=q.1∨r.1=prog0:=(by split at h <;> split at h <;> (injection h with h;subst h;simp));rcases h3 with h3|h3
   · rw[h3];exact⟨h2.1,h2.2⟩
   · rw[h3];exact Small.zero
 · injection h with h;subst h;exact Small.zero
theorem parse_some (l:List UInt8):∃ k r,parse k l=some r∧k≤1048576∧Small r.1:=by have hl:=RefLex.lex_len l;obtain⟨r,hr⟩:=RefTotal.parse_tot l (10*((lex l).1.length+1)+11) (Zc _);exact⟨_,r,hr,by omega,parse_small _ (by omega) l r hr⟩
end Go.Proofs.Ytddmceldglelkaa.CmpSize
namespace Go.Proofs.Ytddmceldglelkaa.CmpName
open Go Go.RowKit RefPure RefKinds RefMem RefSameP CmpPure CmpMem YtddmceldglelkaaW.PrintWords
def Fl (w:World) (g:Nat) (vT vD vC vI vL oT oD oC oI oL:Value) (why at_ made:Int):Prop:=
 Blk w g 77 #[vT,vD,vC,vI,vL,oT,oD,oC,oI,oL,.int .i64 why,.int .i64 at_,.int .i64 made]
def FailPost (S:Nat→Prop) (g:Nat) (why at_:Int) (w:World) (e:Ending) (w':World):Prop:=
 e=.returned (.bool false)∧Kp S w w'∧w'.cell? ⟨g,10,none⟩=some (.int .i64 why)∧w'.cell? ⟨g,11,none⟩=some (.int .i64 at_)
theorem fail_any (w:World) (g:Nat) (vT vD vC vI vL oT oD oC oI oL:Value) (why0 at0 made why at_:Int) (h:Fl w g vT vD vC vI vL oT oD oC oI oL why0 at0 made) :
    Calls Try.prog 55 #[.pointer (some ⟨g,0,none⟩),.int .i64 why,.int .i64 at_] w (FailPost (fun k=>k=g) g why at_ w):=by
 have H:=Za h;have q10:=Blk.cell h 10;have q11:=Blk.cell h 11;have f10:=Blk.frozen h 10;have f11:=Blk.frozen h 11;simp only[List.getElem?_toArray,List.getElem?_cons_zero,List.getElem?_cons_succ] at q10 q11;have lg:=Blk.lt h;clear h;go_enter Try.func55,Try.ntmps55;go_wp2;go_ret;have HB:=((Blk.set_ H.out 10 (.int .i64 why)).set_ 11 (.int .i64 at_));exact⟨rfl,((Kp.refl (fun k=>k=g) _).set (fun _=>rfl) 10 _).set (fun _=>rfl) 11 _,HB.cell 10,HB.cell 11⟩
theorem word_le:∀ l:List UInt8,(wordL l).length≤l.length:=by
 intro l;induction l with
 | nil=>exact Zc _
 | cons b l ih=>
   rw[wordL];split
   · exact Nat.zero_le _
   · simp only[Zj];omega
theorem wordS_le (n:ByteArray):(wordS n).size≤n.size:=by have:=word_le n.data.toList;have h1:n.size=n.data.toList.length:=Lib.size_eq n;rw[h1];show (wordL n.data.toList).toArray.size≤_;simpa using this
structure Nm (w:World) (A j:Nat) (n:ByteArray) (w':World):Prop where
 kp:Kp (fun k=>k=A) w w'
 at_:w'.heap[A]?=(w.setCell ⟨A,j,none⟩ (.string n)).heap[A]?
def NamePost (w:World) (g A j:Nat) (at_:Int) (o:Option ByteArray) (e:Ending) (w':World):Prop:=
 match o with
 | none=>FailPost (fun k=>k=g) g 2 at_ w e w'
 | some n=>e=.returned (.bool true)∧Nm w A j n w'
theorem met_drewN {w:World} {b m:Nat} {l:List ByteArray} (h:CmpMap.Met w b m l) (o:Obj) (q:Nat):CmpMap.Met ((w.alloc o).drewN q) b m l:=(h.alloc o).kept (row:=none) (grown_of_below (Zu (Below.refl _ _) q) none) (by simp)
theorem set_same (w:World) {A:Nat} {t:TypeId} {cs:Array Value} (h:Blk w A t cs) (j:Nat) (u:Value) (hc:cs[j]?=some u):(w.setCell ⟨A,j,none⟩ u).heap[A]?=w.heap[A]?:=by
 have:=h.set_ j u;unfold Blk at this h;rw[this,h];congr 2;obtain⟨hj,e⟩:=Array.getElem?_eq_some_iff.1 hc;apply Array.ext
 · simp
 · intro i h1 h2;rw[Array.getElem_setIfInBounds];split
   · next e2=>subst e2;exact e.symm
   · rfl
theorem name_out (w:World) (g A j mb m:Nat) (pre n:ByteArray) (own:List ByteArray) (at_:Int) (hm:CmpMap.Met w mb m own) (hn:n.size≤65536) (hc:w.cell? ⟨A,j,none⟩=some (.string n)) (hA:A<w.heap.size) (ho:hasS own (wordS n)=false) :
    Calls Try.prog 77 #[.pointer (some ⟨g,0,none⟩),.agg #[.string pre,.map (some mb)],.pointer (some ⟨A,j,none⟩),.int .i64 at_] w fun e w'=>e=.returned (.bool true)∧Below w.heap.size w w':=by
 have HC:=Za (fun W=>CmpCut.cut_any n (Ze hn (by decide)) W);have hlk:=fun (o:Obj) (q:Nat)=>(met_drewN hm o q).get (s:=wordS n) (Ze (wordS_le n) (Ze hn (by decide)));rw[ho] at hlk;clear hm ho hn;go_enter Try.func77,Try.ntmps77;go_wp2_with (first|(go_at_call 85;(with_reducible refine (HC.out _).mono ?_);rintro e w2 ⟨r,b,rfl,q,rfl⟩))
 go_ret;exact⟨rfl,Zu (below1 _ _) _⟩
theorem name_new (w:World) (g A j mb m:Nat) (pre n:ByteArray) (own:List ByteArray) (at_:Int) (hm:CmpMap.Met w mb m own) (hn:n.size≤65536) (hc:w.cell? ⟨A,j,none⟩=some (.string n)) (hf:w.frozen? ⟨A,j,none⟩=false) (hA:A<w.heap.size) (ho:hasS own (wordS n)=true) (hp:pre.size≤1099511627776) (h64:¬64<pre.size+n.size) :
    Calls Try.prog 77 #[.pointer (some ⟨g,0,none⟩),.agg #[.string pre,.map (some mb)],.pointer (some ⟨A,j,none⟩),.int .i64 at_] w fun e w'=>e=.returned (.bool true)∧∃ W,Below w.heap.size w W∧w'=W.setCell ⟨A,j,none⟩ (.string (pre++n)):=by
 have HC:=Za (fun W=>CmpCut.cut_any n (Ze hn (by decide)) W);have hlk:=fun (o:Obj) (q:Nat)=>(met_drewN hm o q).get (s:=wordS n) (Ze (wordS_le n) (Ze hn (by decide)));rw[ho] at hlk;have hwr0:wrap64 ((pre.size:Int)+(n.size:Int))=((pre.size+n.size:Nat):Int):=(by unfold wrap64;omega);have HMX:Hid (¬9223372036854775807<pre.size+n.size):=Za (by omega);obtain⟨N,hN⟩:∃ N,pre.size+n.size=N:=⟨_,rfl⟩;rw[hN] at hwr0 h64;have hwr:=hwr0;have hgt:decide ((64:Int)<(N:Int))=false:=Zm (by omega);clear hm ho hn hN hp h64 hwr0;go_enter Try.func77,Try.ntmps77;go_wp2_with (first|(go_at_call 85;(with_reducible refine (HC.out _).mono ?_);rintro e w2 ⟨r,b,rfl,q,rfl⟩))
 go_region;go_wp2;have hmx:=HMX.out;go_region;go_wp2;go_ret;exact⟨rfl,_,Zu (below1 _ _) _,rfl⟩
theorem Fl.below {w w1:World} {g:Nat} {vT vD vC vI vL oT oD oC oI oL:Value} {why at_ made:Int} (h:Fl w g vT vD vC vI vL oT oD oC oI oL why at_ made) (hb:Below w.heap.size w w1):Fl w1 g vT vD vC vI vL oT oD oC oI oL why at_ made:=Blk.below h hb (Blk.lt h)
theorem name_long (w:World) (g A j mb m:Nat) (vT vD vC vI vL oT oD oC oI oL:Value) (why0 at0 made:Int) (hfl:Fl w g vT vD vC vI vL oT oD oC oI oL why0 at0 made) (pre n:ByteArray) (own:List ByteArray) (at_:Int) (hm:CmpMap.Met w mb m own) (hn:n.size≤65536) (hc:w.cell? ⟨A,j,none⟩=some (.string n)) (hA:A<w.heap.size) (ho:hasS own (wordS n)=true) (hp:pre.size≤1099511627776) (h64:64<pre.size+n.size) :
    Calls Try.prog 77 #[.pointer (some ⟨g,0,none⟩),.agg #[.string pre,.map (some mb)],.pointer (some ⟨A,j,none⟩),.int .i64 at_] w (FailPost (fun k=>k=g) g 2 at_ w):=by
 have HC:=Za (fun W=>CmpCut.cut_any n (Ze hn (by decide)) W);have hlk:=fun (o:Obj) (q:Nat)=>(met_drewN hm o q).get (s:=wordS n) (Ze (wordS_le n) (Ze hn (by decide)));rw[ho] at hlk;have HF:=Za (fun W (hb:Below w.heap.size w W)=>fail_any W g _ _ _ _ _ _ _ _ _ _ _ _ _ 2 at_ (hfl.below hb));have hwr0:wrap64 ((pre.size:Int)+(n.size:Int))=((pre.size+n.size:Nat):Int):=(by unfold wrap64;omega);obtain⟨N,hN⟩:∃ N,pre.size+n.size=N:=⟨_,rfl⟩;rw[hN] at hwr0 h64;have hwr:=hwr0;have hgt:decide ((64:Int)<(N:Int))=true:=Zl (by omega);clear hm ho hn hN hp h64 hwr0 hfl;go_enter Try.func77,Try.ntmps77;go_wp2_with (first|(go_at_call 85;(with_reducible refine (HC.out _).mono ?_);rintro e w2 ⟨r,b,rfl,q,rfl⟩))
 go_region;go_wp2_with (first|(go_at_call 55;(with_reducible refine (HF.out _ (Zu (below1 _ _) _)).mono ?_);rintro e w2 ⟨rfl,hk,h10,h11⟩;have HK:=Za hk;have H10:=Za h10;have H11:=Za h11;clear hk h10 h11))
 go_ret;exact⟨rfl,(Kp.of_below _ (Zu (below1 _ _) _)).trans HK.out (fun _ _ q=>q),H10.out,H11.out⟩
theorem name_any (w:World) (g A j mb m:Nat) (vT vD vC vI vL oT oD oC oI oL:Value) (why0 at0 made:Int) (hfl:Fl w g vT vD vC vI vL oT oD oC oI oL why0 at0 made) (pre n:ByteArray) (own:List ByteArray) (at_:Int) (hm:CmpMap.Met w mb m own) (hn:n.size≤65536) (t:TypeId) (cs:Array Value) (hB:Blk w A t cs) (hj:cs[j]?=some (.string n)) (hp:pre.size≤1099511627776) :
    Calls Try.prog 77 #[.pointer (some ⟨g,0,none⟩),.agg #[.string pre,.map (some mb)],.pointer (some ⟨A,j,none⟩),.int .i64 at_] w (NamePost w g A j at_ (nameS pre own n)):=by
 have hc:w.cell? ⟨A,j,none⟩=some (.string n):=(hB.cell j).trans hj;unfold nameS;by_cases ho:hasS own (wordS n)=true
 · rw[if_pos ho];by_cases h64:64<pre.size+n.size
   · rw[if_pos h64];exact name_long w g A j mb m vT vD vC vI vL oT oD oC oI oL why0 at0 made hfl pre n own at_ hm hn hc hB.lt ho hp h64
   · rw[if_neg h64];refine (name_new w g A j mb m pre n own at_ hm hn hc (hB.frozen j) hB.lt ho hp h64).mono ?_;rintro e w' ⟨he,W,hb,rfl⟩;refine⟨he,⟨(Kp.of_below (fun k=>k=A) hb).set (fun _=>rfl) j _,?_⟩⟩;have h1:=(hB.below hb hB.lt).set_ j (.string (pre++n));have h2:=hB.set_ j (.string (pre++n));unfold Blk at h1 h2;rw[h1,h2]
 · rw[if_neg ho];refine (name_out w g A j mb m pre n own at_ hm hn hc hB.lt (by simpa using ho)).mono ?_;rintro e w' ⟨he,hb⟩;refine⟨he,Kp.of_below _ hb,?_⟩;rw[set_same w hB j _ hj];exact hb.block A hB.lt
end Go.Proofs.Ytddmceldglelkaa.CmpName
