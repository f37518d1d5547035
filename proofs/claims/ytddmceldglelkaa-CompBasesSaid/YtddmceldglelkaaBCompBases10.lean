/- A claim's texts, in the order of what they need: RefMem, RefVw, RefTake, RefWord, RefSmall. -/
import Derived.Test.YtddmceldglelkaaBCompBases3
import Derived.Test.YtddmceldglelkaaBCompBases7
import Derived.Test.YtddmceldglelkaaBCompBases9
import Derived.Lib.Hide
import Derived.Outline
import Derived.RegionTactic
import Derived.IntWalk
set_option maxRecDepth 100000
set_option maxHeartbeats 8000000
set_option linter.unusedVariables false
set_option linter.unusedSimpArgs false
set_option linter.unusedSectionVars false
namespace Go.Proofs.Ytddmceldglelkaa.RefMem
open Go Go.RowKit LexPure RefPure YtddmceldglelkaaW.PrintWords
def Blk (w:World) (g:Nat) (t:TypeId) (cs:Array Value):Prop:=w.heap[g]?=some (.cells cs t (0,0))
section
variable {w w':World} {g:Nat} {t:TypeId} {cs:Array Value}
theorem Blk.lt (h:Blk w g t cs):g<w.heap.size:=by
 rcases Nat.lt_or_ge g w.heap.size with hlt|hge
 · exact hlt
 · unfold Blk at h;rw[Array.getElem?_eq_none hge] at h;cases h
theorem Blk.cell (h:Blk w g t cs) (i:Nat):w.cell? ⟨g,i,none⟩=cs[i]?:=cell_of_row w g i cs t (0,0) h
theorem Blk.frozen (h:Blk w g t cs) (i:Nat):w.frozen? ⟨g,i,none⟩=false:=by unfold Blk at h;simp[World.frozen?,h]
theorem Blk.new (w:World) (t:TypeId) (cs:Array Value):Blk (w.alloc (.cells cs t)) w.heap.size t cs:=heap_alloc_new w _
theorem Blk.drewN (h:Blk w g t cs) (n:Nat):Blk (w.drewN n) g t cs:=h
theorem Blk.alloc (h:Blk w g t cs) (o:Obj):Blk (w.alloc o) g t cs:=(Below.heap_alloc w o g h.lt).trans h
theorem Blk.set_ (h:Blk w g t cs) (i:Nat) (u:Value):Blk (w.setCell ⟨g,i,none⟩ u) g t (cs.setIfInBounds i u):=by unfold Blk at h ⊢;simp[World.setCell,Array.getElem?_modify,h]
theorem Blk.far (h:Blk w g t cs) {p:Addr} (hp:g≠p.block) (u:Value):Blk (w.setCell p u) g t cs:=(Below.heap_setCell w p u g hp).trans h
theorem Blk.below {B:Nat} (h:Blk w g t cs) (hb:Below B w w') (hg:g<B):Blk w' g t cs:=(hb.block g hg).trans h
theorem Blk.grown {row:Option Nat} (h:Blk w g t cs) (hb:w.grownBy w' row) (hg:some g≠row):Blk w' g t cs:=(hb.block g h.lt hg).trans h
end
theorem Blk.drew {w:World} {g:Nat} {t:TypeId} {cs:Array Value} (h:Blk w g t cs):Blk w.drew g t cs:=h
def TokRow (w:World) (v:Value) (ts:List T) (g:Nat):Prop:=∃ b cap,v=.slice (some ⟨b,0,none⟩) ts.length cap∧b≠g∧b<w.heap.size∧∀ (i:Nat) (t:T),ts[i]?=some t→
 w.cell? ⟨b,i*4,none⟩=some (.int .i64 t.kind)∧w.cell? ⟨b,i*4+1,none⟩=some (.string (str t.text))∧w.cell? ⟨b,i*4+2,none⟩=some (.int .i64 t.n)∧w.cell? ⟨b,i*4+3,none⟩=some (.int .i64 (t.at_:Int))
def cellsSt (v:Value) (st:St):Array Value:=#[v,.int .i64 (st.at_:Int),.int .i64 st.deep,.int .i64 st.items,.int .i64 st.why,.int .i64 st.fat]
structure RS (w:World) (g:Nat) (v:Value) (ts:List T) (st:St):Prop where
 blk:Blk w g 65 (cellsSt v st)
 row:TokRow w v ts g
 lt:st.at_<ts.length
 len:ts.length≤140737488351232
 txt:∀ t∈ts,t.text.length≤140737488351232
section
variable {w w':World} {g:Nat} {v:Value} {ts:List T} {st:St}
theorem cell_moved {a:Addr} {u:Value} (h:w.cell? a=some u) (hb:w'.heap[a.block]?=w.heap[a.block]?):w'.cell? a=some u:=by simpa [World.cell?,hb] using h
theorem TokRow.moved (h:TokRow w v ts g) (hs:w.heap.size≤w'.heap.size) (hb:∀ k,k<w.heap.size→k≠g→w'.heap[k]?=w.heap[k]?):TokRow w' v ts g:=by obtain⟨b,cap,e,hne,hlt,hc⟩:=h;refine⟨b,cap,e,hne,by omega,fun i t ht=>?_⟩;obtain⟨c0,c1,c2,c3⟩:=hc i t ht;have:=hb b hlt hne;exact⟨cell_moved c0 this,cell_moved c1 this,cell_moved c2 this,cell_moved c3 this⟩
theorem RS.below (h:RS w g v ts st) (hb:Below w.heap.size w w'):RS w' g v ts st:=
 ⟨h.blk.below hb h.blk.lt,h.row.moved hb.size (fun k hk _=>hb.block k hk),h.lt,h.len,h.txt⟩
theorem RS.alloc (h:RS w g v ts st) (o:Obj):RS (w.alloc o) g v ts st:=h.below (Zv (Below.refl _ _) o)
theorem RS.drewN (h:RS w g v ts st) (n:Nat):RS (w.drewN n) g v ts st:=h.below (Zu (Below.refl _ _) n)
theorem RS.elder (h:RS w g v ts st) {X:Nat} (hX:w.heap.size≤X):g<X∧∀ b,v.ownBlock=some b→b<X:=by have hg:=h.blk.lt;obtain⟨b,cap,e,hne,hlt,hc⟩:=h.row;refine⟨by omega,fun b' hb'=>?_⟩;subst e;have:b=b':=(by simpa [Value.ownBlock] using hb');omega
theorem RS.other (h:RS w g v ts st) {X:Nat} (hX:g<X∧∀ b,v.ownBlock=some b→b<X) (j:Nat) (u:Value):RS (w.setCell ⟨X,j,none⟩ u) g v ts st:=by refine⟨h.blk.far (p:=⟨X,j,none⟩) (by simp;omega) u,?_,h.lt,h.len,h.txt⟩;obtain⟨b,cap,rfl,hne,hlt,hc⟩:=h.row;have hbX:b<X:=hX.2 b (by simp[Value.ownBlock]);refine⟨b,cap,rfl,hne,by simpa [World.setCell] using hlt,fun i t ht=>?_⟩;obtain⟨c0,c1,c2,c3⟩:=hc i t ht;have:=Below.heap_setCell w ⟨X,j,none⟩ u b (by simp;omega);exact⟨cell_moved c0 this,cell_moved c1 this,cell_moved c2 this,cell_moved c3 this⟩
theorem RS.set (h:RS w g v ts st) (j:Nat) (u:Value) {st':St} (he:(cellsSt v st).setIfInBounds j u=cellsSt v st') (hl:st'.at_<ts.length):RS (w.setCell ⟨g,j,none⟩ u) g v ts st':=
 ⟨he▸h.blk.set_ j u,h.row.moved (by simp[World.setCell]) (fun k _ hk=>Below.heap_setCell w ⟨g,j,none⟩ u k hk),hl,h.len,h.txt⟩
theorem RS.two (h:RS w g v ts st) (a b:Value) {st':St} (he:((cellsSt v st).setIfInBounds 4 a).setIfInBounds 5 b=cellsSt v st') (hl:st'.at_<ts.length):RS ((w.setCell ⟨g,4,none⟩ a).setCell ⟨g,5,none⟩ b) g v ts st':=
 ⟨he▸(h.blk.set_ 4 a).set_ 5 b,(h.row.moved (by simp[World.setCell]) (fun k _ hk=>Below.heap_setCell w ⟨g,4,none⟩ a k hk)).moved (by simp[World.setCell]) (fun k _ hk=>Below.heap_setCell _ ⟨g,5,none⟩ b k hk),hl,h.len,h.txt⟩
theorem RS.cells (h:RS w g v ts st):w.cell? ⟨g,0,none⟩=some v∧w.cell? ⟨g,1,none⟩=some (.int .i64 (st.at_:Int))∧w.cell? ⟨g,2,none⟩=some (.int .i64 st.deep)∧w.cell? ⟨g,3,none⟩=some (.int .i64 st.items)∧w.cell? ⟨g,4,none⟩=some (.int .i64 st.why)∧w.cell? ⟨g,5,none⟩=some (.int .i64 st.fat):=
 ⟨h.blk.cell 0,h.blk.cell 1,h.blk.cell 2,h.blk.cell 3,h.blk.cell 4,h.blk.cell 5⟩
theorem cur_at (ts:List T) (st:St) (h:st.at_<ts.length):ts[st.at_]?=some (cur ts st):=by unfold cur;rw[List.getD_eq_getElem?_getD,List.getElem?_eq_getElem h];rfl
theorem cur_len {w:World} {g:Nat} {v:Value} {ts:List T} {st:St} (h:RS w g v ts st):(str (cur ts st).text).size≤140737488351232:=by have:=h.txt _ (List.mem_of_getElem? (cur_at ts st h.lt));rw[Lib.size_eq];exact this
theorem next_at (ts:List T) (st:St) (h:st.at_<ts.length):ts[min (st.at_+1) (ts.length - 1)]?=some (nextT ts st):=by unfold nextT;rw[List.getD_eq_getElem?_getD,List.getElem?_eq_getElem (by omega)];rfl
end
theorem Zr {w w':World} (h:Below w.heap.size w w') (g:Nat):w.grownBy w' (some g):=grown_of_below h _
theorem grown_set (w:World) (g j:Nat) (u:Value):w.grownBy (w.setCell ⟨g,j,none⟩ u) (some g):=
 ⟨rfl,rfl,rfl,by simp[World.setCell],fun k _ hk=>Below.heap_setCell w ⟨g,j,none⟩ u k (fun e=>hk (by rw[e]))⟩
theorem ZL (w:World) (g:Nat):w.grownBy w (some g):=⟨rfl,rfl,rfl,Zc _,fun _ _ _=>rfl⟩
theorem Zs {w w1 w2:World} {g:Nat} (h:w.grownBy w1 (some g)) (k:w1.grownBy w2 (some g)):w.grownBy w2 (some g):=h.trans k
theorem ZD {w w1:World} {g:Nat} (h:w.grownBy w1 (some g)) (o:Obj):w.grownBy (w1.alloc o) (some g):=h.trans (World.grownBy_alloc w1 o _)
theorem grown_drewN {w w1:World} {g:Nat} (h:w.grownBy w1 (some g)) (n:Nat):w.grownBy (w1.drewN n) (some g):=h.trans (Zr (Zu (Below.refl _ _) n) g)
theorem grown_g {w w1:World} {g:Nat} (h:w.grownBy w1 (some g)) (j:Nat) (u:Value):w.grownBy (w1.setCell ⟨g,j,none⟩ u) (some g):=h.trans (grown_set w1 g j u)
theorem Zx {w w1:World} {g X:Nat} (h:w.grownBy w1 (some g)) (hX:w.heap.size≤X) (j:Nat) (u:Value):w.grownBy (w1.setCell ⟨X,j,none⟩ u) (some g):=
 ⟨h.os,h.tape,h.output,by simpa [World.setCell] using h.size,fun k hk hne=>(Below.heap_setCell w1 ⟨X,j,none⟩ u k (by simp;omega)).trans (h.block k hk hne)⟩
theorem fld0 (a b c d:Value):∀ w:World,(Instr.field 63 (.agg #[a,b,c,d]) 0).run Try.prog w=.ok a w:=fun _=>by kernel_rfl
theorem fld1 (a b c d:Value):∀ w:World,(Instr.field 63 (.agg #[a,b,c,d]) 1).run Try.prog w=.ok b w:=fun _=>by kernel_rfl
theorem fld2 (a b c d:Value):∀ w:World,(Instr.field 63 (.agg #[a,b,c,d]) 2).run Try.prog w=.ok c w:=fun _=>by kernel_rfl
theorem fld3 (a b c d:Value):∀ w:World,(Instr.field 63 (.agg #[a,b,c,d]) 3).run Try.prog w=.ok d w:=fun _=>by kernel_rfl
theorem bw {w w1 w2:World} (h1:Below w.heap.size w w1) (h2:Below w1.heap.size w1 w2):Below w.heap.size w w2:=h1.trans (h2.mono h1.size)
theorem str_eq (a:List UInt8) (s:ByteArray):((str a).toList==s.toList)=decide (a=s.data.toList):=by rw[Lib.toList_data,Lib.toList_data];have:(str a).data.toList=a:=rfl;rw[this,Bool.eq_iff_iff,beq_iff_eq,decide_eq_true_iff]
theorem retb {a b:Bool} (h:a=b):Ending.returned (.bool a)=.returned (.bool b):=by rw[h]
attribute [local go_sem] fld0 fld1 fld2 fld3
section
variable (w:World) (g:Nat) (v:Value) (ts:List T) (st:St)
theorem well_any (h:RS w g v ts st):Calls Try.prog 17 #[.pointer (some ⟨g,0,none⟩)] w fun e w'=>e=.returned (.bool (well st))∧w=w':=by obtain⟨c0,c1,c2,c3,c4,c5⟩:=h.cells;have hg:=h.blk.lt;have e:well st=(decide (st.why=0)&&decide (st.fat=0)):=rfl;have HE:=Za e;clear h c0 c1 c2 c3 e;go_enter Try.func17,Try.ntmps17;go_wp2;(all_goals go_ret);all_goals exact⟨by rw[HE.out];simp[*],rfl⟩
theorem ZP (b:Bool) (hb:well st=b) (h:RS w g v ts st):Calls Try.prog 17 #[.pointer (some ⟨g,0,none⟩)] w fun e w'=>e=.returned (.bool b)∧w=w':=by subst hb;exact well_any w g v ts st h
theorem ZK (h:RS w g v ts st):Calls Try.prog 15 #[.pointer (some ⟨g,0,none⟩)] w fun e w'=>e=.returned (.agg #[.int .i64 (cur ts st).kind,.string (str (cur ts st).text),.int .i64 (cur ts st).n,.int .i64 ((cur ts st).at_:Int)])∧Below w.heap.size w w':=by
 obtain⟨c0,c1,c2,c3,c4,c5⟩:=h.cells;have hg:=h.blk.lt;obtain⟨b,cap,rfl,hne,hlt,hc⟩:=h.row;obtain⟨t0,t1,t2,t3⟩:=hc _ _ (cur_at ts st h.lt);have hl:=h.lt;have hlb:decide (st.at_<ts.length)=true:=Zl hl;clear h c2 c3 c4 c5 hc;obtain⟨n,hn⟩:∃ n,ts.length=n:=⟨_,rfl⟩;obtain⟨i,hi⟩:∃ i,st.at_=i:=⟨_,rfl⟩;rw[hn] at c0 hl hlb;rw[hi] at c1 hl hlb t0 t1 t2 t3;clear hn hi;obtain⟨kd,hkd⟩:∃ x,(cur ts st).kind=x:=⟨_,rfl⟩;obtain⟨tx,htx⟩:∃ x,(cur ts st).text=x:=⟨_,rfl⟩;obtain⟨m,hm⟩:∃ x,(cur ts st).n=x:=⟨_,rfl⟩;obtain⟨p,hp⟩:∃ x,(cur ts st).at_=x:=⟨_,rfl⟩;rw[hkd] at t0 ⊢;rw[htx] at t1 ⊢;rw[hm] at t2 ⊢;rw[hp] at t3 ⊢;clear hkd htx hm hp;go_enter Try.func15,Try.ntmps15;go_wp2;go_region;(all_goals go_wp2);all_goals refine bodyPost_ret (results_cell_row rfl _ _ w.heap.size 63 #[.int .i64 kd,.string (str tx),.int .i64 m,.int .i64 p] (0,0) _ rfl ?blk Try.underlying63 rfl (by kernel_rfl)) rfl ?_
 all_goals first
  | exact Blk.new w _ _
  | exact⟨rfl,(Zv (Below.refl _ _) _).drew⟩
  | exact⟨rfl,Zv (Below.refl _ _) _⟩
theorem ahead_any (h:RS w g v ts st):Calls Try.prog 72 #[.pointer (some ⟨g,0,none⟩)] w fun e w'=>e=.returned (.agg #[.int .i64 (nextT ts st).kind,.string (str (nextT ts st).text),.int .i64 (nextT ts st).n,.int .i64 ((nextT ts st).at_:Int)])∧Below w.heap.size w w':=by
 obtain⟨c0,c1,c2,c3,c4,c5⟩:=h.cells;have hg:=h.blk.lt;obtain⟨b,cap,rfl,hne,hlt,hc⟩:=h.row;obtain⟨t0,t1,t2,t3⟩:=hc _ _ (next_at ts st h.lt);have hl:=h.lt;have hn63:=h.len;clear h c2 c3 c4 c5 hc;obtain⟨n,hn⟩:∃ n,ts.length=n:=⟨_,rfl⟩;obtain⟨i,hi⟩:∃ i,st.at_=i:=⟨_,rfl⟩;rw[hn] at c0 hl hn63 t0 t1 t2 t3;rw[hi] at c1 hl t0 t1 t2 t3;clear hn hi;obtain⟨kd,hkd⟩:∃ x,(nextT ts st).kind=x:=⟨_,rfl⟩;obtain⟨tx,htx⟩:∃ x,(nextT ts st).text=x:=⟨_,rfl⟩;obtain⟨m,hm⟩:∃ x,(nextT ts st).n=x:=⟨_,rfl⟩;obtain⟨p,hp⟩:∃ x,(nextT ts st).at_=x:=⟨_,rfl⟩;rw[hkd] at t0 ⊢;rw[htx] at t1 ⊢;rw[hm] at t2 ⊢;rw[hp] at t3 ⊢;clear hkd htx hm hp;by_cases hi1:i+1<n
 · rw[show min (i+1) (n - 1)=i+1 by omega] at t0 t1 t2 t3;have hib:decide (i+1<n)=true:=Zl hi1;have hic:decide ((i:Int)+1<(n:Int) - 1)=decide (i+1<n - 1):=(by rw[Bool.eq_iff_iff];simp;omega);go_enter Try.func72,Try.ntmps72;go_wp2;go_region;(all_goals go_wp2);all_goals refine bodyPost_ret (results_cell_row rfl _ _ w.heap.size 63 #[.int .i64 kd,.string (str tx),.int .i64 m,.int .i64 p] (0,0) _ rfl ?_ Try.underlying63 rfl (by kernel_rfl)) rfl ?_
   all_goals first
    | exact Blk.new w _ _
    | exact⟨rfl,(Zv (Below.refl _ _) _).drew⟩
    | exact⟨rfl,Zv (Below.refl _ _) _⟩
 · rw[show min (i+1) (n - 1)=i by omega] at t0 t1 t2 t3;have hin:n=i+1:=(by omega);have hic:decide ((i:Int)+1<(n:Int) - 1)=decide (i+1<n - 1):=(by rw[Bool.eq_iff_iff];simp;omega);subst hin;go_enter Try.func72,Try.ntmps72;go_wp2;go_region;(all_goals go_wp2);all_goals refine bodyPost_ret (results_cell_row rfl _ _ w.heap.size 63 #[.int .i64 kd,.string (str tx),.int .i64 m,.int .i64 p] (0,0) _ rfl ?_ Try.underlying63 rfl (by kernel_rfl)) rfl ?_
   all_goals first
    | exact Blk.new w _ _
    | exact⟨rfl,(Zv (Below.refl _ _) _).drew⟩
    | exact⟨rfl,Zv (Below.refl _ _) _⟩
theorem Z2 (y:Int) (h:RS w g v ts st):Calls Try.prog 16 #[.pointer (some ⟨g,0,none⟩),.int .i64 y] w fun e w'=>e=.returned (.tuple #[])∧RS w' g v ts (fails ts y st)∧w.grownBy w' (some g):=by
 have H:=Za h;have hg:=h.blk.lt;clear h;by_cases hw:well st=true
 · have HF:Hid (fails ts y st={ st with why:=y,fat:=((cur ts st).at_:Int) }):=Za (by unfold fails;rw[if_pos hw]);go_enter Try.func16,Try.ntmps16
   go_wp2_with (first
       | (go_at_call 17;(with_reducible refine (well_any _ _ _ _ _ H.out).mono ?_);rintro e w' ⟨rfl,rfl⟩)
       | (go_at_call 15;(with_reducible refine (ZK _ _ _ _ _ H.out).mono ?_);rintro e w1 ⟨rfl,hb⟩
          have H1:=Za (H.out.below hb);have HB1:=Za hb;obtain⟨_,_,_,_,c4,c5⟩:=H1.out.cells;have f4:=H1.out.blk.frozen 4;have f5:=H1.out.blk.frozen 5;clear hb))
   go_end0
   refine⟨rfl,?_,?_⟩
   · rw[HF.out];exact H1.out.two _ _ rfl H1.out.lt
   · exact ((Zr HB1.out g).trans (grown_set _ g 4 _)).trans (grown_set _ g 5 _)
 · have HF:Hid (fails ts y st=st):=Za (by unfold fails;rw[if_neg hw]);have hw2:well st=false:=(by simpa using hw);go_enter Try.func16,Try.ntmps16;go_wp2_with (go_at_call 17;(with_reducible refine (well_any _ _ _ _ _ H.out).mono ?_);rintro e w' ⟨rfl,rfl⟩)
   go_end0
   exact⟨rfl,by rw[HF.out];exact H.out,ZL w g⟩
theorem ZJ (s:ByteArray) (h:RS w g v ts st):Calls Try.prog 42 #[.pointer (some ⟨g,0,none⟩),.string s] w fun e w'=>e=.returned (.bool (sign ts s.data.toList st))∧Below w.heap.size w w':=by
 have H:=Za h;have hg:=h.blk.lt;clear h;have e:sign ts s.data.toList st=(well st&&decide ((cur ts st).kind=4)&&decide ((cur ts st).text=s.data.toList)):=rfl;have HE:=Za e;clear e;by_cases hw:well st=true
 · by_cases hk:(cur ts st).kind=4
   · have hkb:((cur ts st).kind==4)=true:=beq_iff_eq.mpr hk;have HK:=Za hk;clear hk;go_enter Try.func42,Try.ntmps42
     go_wp2_with (first
      | (go_at_call 17;(with_reducible refine (well_any _ _ _ _ _ H.out).mono ?_);rintro e w' ⟨rfl,rfl⟩)
      | (go_at_call 15;(with_reducible refine (ZK _ _ _ _ _ H.out).mono ?_);rintro e w1 ⟨rfl,hb⟩
         have H1:=Za (H.out.below hb);have HB1:=Za hb;clear hb H)
      | (go_at_call 15;(with_reducible refine (ZK _ _ _ _ _ H1.out).mono ?_);rintro e w2 ⟨rfl,hb⟩
         have H2:=Za (H1.out.below hb);have HB2:=Za (bw HB1.out hb);clear hb H1))
     go_ret;exact⟨retb (by rw[HE.out,str_eq,hw,Zl HK.out];rfl),HB2.out⟩
   · have hkb:((cur ts st).kind==4)=false:=Zo hk;have HK:=Za hk;clear hk;go_enter Try.func42,Try.ntmps42
     go_wp2_with (first
      | (go_at_call 17;(with_reducible refine (well_any _ _ _ _ _ H.out).mono ?_);rintro e w' ⟨rfl,rfl⟩)
      | (go_at_call 15;(with_reducible refine (ZK _ _ _ _ _ H.out).mono ?_);rintro e w1 ⟨rfl,hb⟩
         have H1:=Za (H.out.below hb);have HB1:=Za hb;clear hb H))
     go_ret;exact⟨retb (by rw[HE.out,hw,Zm HK.out];rfl),HB1.out⟩
 · have hw2:well st=false:=(by simpa using hw);go_enter Try.func42,Try.ntmps42;go_wp2_with (go_at_call 17;(with_reducible refine (well_any _ _ _ _ _ H.out).mono ?_);rintro e w' ⟨rfl,rfl⟩)
   go_ret;exact⟨retb (by rw[HE.out,hw2];rfl),Below.refl _ _⟩
end
end Go.Proofs.Ytddmceldglelkaa.RefMem
namespace Go.Proofs.Ytddmceldglelkaa.RefSameP
open Go Go.RowKit RefPure RefKinds YtddmceldglelkaaW.PrintWords
def Vw {α:Type} (d:Kd α) (w:World) (v:Value) (xs:List α):Prop:=∃ A c,v=.slice A xs.length c∧xs.length≤c∧d.C w A xs.length xs
theorem Vw.below {α:Type} {d:Kd α} {w w':World} {v:Value} {xs:List α} (h:Vw d w v xs) (hb:Below w.heap.size w w'):Vw d w' v xs:=by obtain⟨A,c,e,hl,hc⟩:=h;exact⟨A,c,e,hl,Kd.C_below hc hb⟩
theorem Vw.slice {α:Type} {d:Kd α} {w:World} {v:Value} {xs:List α} (h:Vw d w v xs):∃ A c,v=.slice A xs.length c:=by obtain⟨A,c,e,_⟩:=h;exact⟨A,c,e⟩
theorem Vw.of_R {α:Type} {d:Kd α} {e base:Nat} {ok:Nat→Prop} {w:World} {v:Value} {xs:List α} (h:d.R e w base ok v xs):Vw d w v xs:=Kd.R_reads h
theorem Vw.max {α:Type} {d:Kd α} {w:World} {A:Option Addr} {c:Nat} {xs:List α} (h:Vw d w (.slice A xs.length c) xs):xs.length≤9223372036854775807:=by obtain⟨_,_,_,_,hc⟩:=h;exact Kd.C_max hc
theorem Vw.at_ {α:Type} {d:Kd α} {w:World} {A:Option Addr} {n c:Nat} {xs:List α} (h:Vw d w (.slice A n c) xs) (i:Nat) (x:α) (hx:xs[i]?=some x) :
    ∃ ad cs,A=some ad∧d.K w x cs∧∀ j u,cs[j]?=some u→w.cell? (ad.add (i*d.sz+j))=some u:=by
 obtain⟨A',c',e,_,hc⟩:=h;injection e with e1 e2 e3
 subst e1;have hi:i<xs.length:=(Zq hx).1;obtain⟨ad,hA,hr⟩:=hc.2.2 (by omega);obtain⟨cs,_,hK,hcell⟩:=hr i x hx;exact⟨ad,cs,hA,hK,hcell⟩
end Go.Proofs.Ytddmceldglelkaa.RefSameP
namespace Go.Proofs.Ytddmceldglelkaa.RefTake
open Go Go.RowKit LexPure RefPure RefMem YtddmceldglelkaaW.PrintWords
attribute [local go_sem] fld0 fld1 fld2 fld3
section
variable (w:World) (g:Nat) (v:Value) (ts:List T) (st:St)
theorem Z4 (h:RS w g v ts st):Calls Try.prog 47 #[.pointer (some ⟨g,0,none⟩)] w fun e w'=>e=.returned (.agg #[.int .i64 (cur ts st).kind,.string (str (cur ts st).text),.int .i64 (cur ts st).n,.int .i64 ((cur ts st).at_:Int)])∧RS w' g v ts (take ts st).2∧w.grownBy w' (some g):=by
 have H:=Za h;have hg:=h.blk.lt;have hn63:=h.len;have hl:=h.lt;obtain⟨b,cap,hv,hne,hlt,hc⟩:=h.row;clear h hne hlt hc;subst hv;by_cases hw:well st=true
 · by_cases hk:st.at_+1<ts.length
   · have HF:Hid ((take ts st).2={ st with at_:=st.at_+1 }):=Za (by unfold take;rw[if_pos ⟨hw,hk⟩]);have hkb:decide ((st.at_:Int)<(ts.length:Int) - 1)=true:=Zl (by omega);have hkc:decide (st.at_<ts.length - 1)=true:=Zl (by omega);have hwr:IntKind.i64.wrap ((ts.length:Int) - 1)=(ts.length:Int) - 1:=IntWalk.i64_in _ (by omega);go_enter Try.func47,Try.ntmps47
     go_wp2_with (first
      | (go_at_call 15;(with_reducible refine (ZK _ _ _ _ _ (H.out.alloc _)).mono ?_);rintro e w1 ⟨rfl,hb⟩
         have H1:=Za ((H.out.alloc (.cells #[.int .i64 0,.string ⟨#[]⟩,.int .i64 0,.int .i64 0] 63)).below hb);have HB1:=Za hb;have hK:=(Blk.new w 63 #[.int .i64 0,.string ⟨#[]⟩,.int .i64 0,.int .i64 0]).below hb (by simp);have z0:=hK.cell 0;have z1:=hK.cell 1;have z2:=hK.cell 2;have z3:=hK.cell 3;have fz0:=hK.frozen 0;have fz1:=hK.frozen 1;have fz2:=hK.frozen 2;have fz3:=hK.frozen 3;simp at z0 z1 z2 z3;obtain⟨c0,c1,_,_,_,_⟩:=H1.out.cells;have f1:=H1.out.blk.frozen 1;have hg1:=H1.out.blk.lt;have hlt1:w.heap.size<w1.heap.size:=(by have:=hb.size;simp at this;omega);have HK:=Za hK;clear hb hK))
     go_quiet ((go_at_call 17;exact Calls.quiet_of_same ((ZP _ _ _ _ _ true hw ((H1.out.alloc _).drewN _)).mono fun _ _ ⟨a,b⟩=>⟨a,b.symm⟩)));go_wp2;have HX:=Za (H.out.elder (Zc _));have HG0:Hid (w.grownBy w1 (some g)):=Za (Zr ((Zv (Below.refl _ _) _).trans (HB1.out.mono (by simp))) g);have HB0:Hid (Blk (w1.alloc (.cells #[.int .i64 (cur ts st).kind,.string (str (cur ts st).text),.int .i64 (cur ts st).n,.int .i64 ((cur ts st).at_:Int)] 63)) w.heap.size 63 #[.int .i64 0,.string ⟨#[]⟩,.int .i64 0,.int .i64 0]):=Za (HK.out.alloc _);have HR0:Hid (RS (w1.alloc (.cells #[.int .i64 (cur ts st).kind,.string (str (cur ts st).text),.int .i64 (cur ts st).n,.int .i64 ((cur ts st).at_:Int)] 63)) g _ ts st):=Za (H1.out.alloc _);have HG1:Hid (w.grownBy (w1.alloc (.cells #[.int .i64 (cur ts st).kind,.string (str (cur ts st).text),.int .i64 (cur ts st).n,.int .i64 ((cur ts st).at_:Int)] 63)) (some g)):=Za (ZD HG0.out _);clear HK H1 HG0 HB1 z0 z1 z2 z3 fz0 fz1 fz2 fz3 c0 c1 f1 hg1;have HS1:∀ n,RS (((w1.alloc (.cells #[.int .i64 (cur ts st).kind,.string (str (cur ts st).text),.int .i64 (cur ts st).n,.int .i64 ((cur ts st).at_:Int)] 63)).drewN n).setCell ⟨g,1,none⟩ (.int .i64 ((st.at_:Int)+1))) g _ ts { st with at_:=st.at_+1 }:=fun n=>RS.set (HR0.out.drewN n) 1 _ rfl hk;generalize w1.alloc (.cells #[.int .i64 (cur ts st).kind,.string (str (cur ts st).text),.int .i64 (cur ts st).n,.int .i64 ((cur ts st).at_:Int)] 63)=w2 at HB0 HR0 HG1 HS1 ⊢;refine bodyPost_ret (results_cell_row rfl _ _ w.heap.size 63 #[.int .i64 (cur ts st).kind,.string (str (cur ts st).text),.int .i64 (cur ts st).n,.int .i64 ((cur ts st).at_:Int)] (0,0) _ rfl ?_ Try.underlying63 rfl (by kernel_rfl)) rfl ?_
     · exact (((((Blk.drewN HB0.out _).far (p:=⟨g,1,none⟩) (Zg hg) _).set_ 0 (.int .i64 (cur ts st).kind)).set_ 1 (.string (str (cur ts st).text))).set_ 2 (.int .i64 (cur ts st).n)).set_ 3 (.int .i64 ((cur ts st).at_:Int))
     · refine⟨rfl,?_,?_⟩
       · rw[HF.out];exact RS.other (RS.other (RS.other (RS.other (HS1 _) HX.out 0 _) HX.out 1 _) HX.out 2 _) HX.out 3 _
       · exact Zx (Zx (Zx (Zx (grown_g (grown_drewN HG1.out _) 1 _) (Zc _) 0 _) (Zc _) 1 _) (Zc _) 2 _) (Zc _) 3 _
   · have HF:Hid ((take ts st).2=st):=Za (by unfold take;rw[if_neg (fun x=>hk x.2)]);have hkb:decide ((st.at_:Int)<(ts.length:Int) - 1)=false:=Zm (by omega);have hkc:decide (st.at_<ts.length - 1)=false:=Zm (by omega);have hwr:IntKind.i64.wrap ((ts.length:Int) - 1)=(ts.length:Int) - 1:=IntWalk.i64_in _ (by omega);go_enter Try.func47,Try.ntmps47
     go_wp2_with (first
      | (go_at_call 15;(with_reducible refine (ZK _ _ _ _ _ (H.out.alloc _)).mono ?_);rintro e w1 ⟨rfl,hb⟩
         have H1:=Za ((H.out.alloc (.cells #[.int .i64 0,.string ⟨#[]⟩,.int .i64 0,.int .i64 0] 63)).below hb);have HB1:=Za hb;have hK:=(Blk.new w 63 #[.int .i64 0,.string ⟨#[]⟩,.int .i64 0,.int .i64 0]).below hb (by simp);have z0:=hK.cell 0;have z1:=hK.cell 1;have z2:=hK.cell 2;have z3:=hK.cell 3;have fz0:=hK.frozen 0;have fz1:=hK.frozen 1;have fz2:=hK.frozen 2;have fz3:=hK.frozen 3;simp at z0 z1 z2 z3;obtain⟨c0,c1,_,_,_,_⟩:=H1.out.cells;have f1:=H1.out.blk.frozen 1;have hg1:=H1.out.blk.lt;have hlt1:w.heap.size<w1.heap.size:=(by have:=hb.size;simp at this;omega);have HK:=Za hK;clear hb hK))
     go_quiet ((go_at_call 17;exact Calls.quiet_of_same ((ZP _ _ _ _ _ true hw ((H1.out.alloc _).drewN _)).mono fun _ _ ⟨a,b⟩=>⟨a,b.symm⟩)));go_wp2;have HX:=Za (H.out.elder (Zc _));have HG0:Hid (w.grownBy w1 (some g)):=Za (Zr ((Zv (Below.refl _ _) _).trans (HB1.out.mono (by simp))) g);have HB0:Hid (Blk (w1.alloc (.cells #[.int .i64 (cur ts st).kind,.string (str (cur ts st).text),.int .i64 (cur ts st).n,.int .i64 ((cur ts st).at_:Int)] 63)) w.heap.size 63 #[.int .i64 0,.string ⟨#[]⟩,.int .i64 0,.int .i64 0]):=Za (HK.out.alloc _);have HR0:Hid (RS (w1.alloc (.cells #[.int .i64 (cur ts st).kind,.string (str (cur ts st).text),.int .i64 (cur ts st).n,.int .i64 ((cur ts st).at_:Int)] 63)) g _ ts st):=Za (H1.out.alloc _);have HG1:Hid (w.grownBy (w1.alloc (.cells #[.int .i64 (cur ts st).kind,.string (str (cur ts st).text),.int .i64 (cur ts st).n,.int .i64 ((cur ts st).at_:Int)] 63)) (some g)):=Za (ZD HG0.out _);clear HK H1 HG0 HB1 z0 z1 z2 z3 fz0 fz1 fz2 fz3 c0 c1 f1 hg1;generalize w1.alloc (.cells #[.int .i64 (cur ts st).kind,.string (str (cur ts st).text),.int .i64 (cur ts st).n,.int .i64 ((cur ts st).at_:Int)] 63)=w2 at HB0 HR0 HG1 ⊢;refine bodyPost_ret (results_cell_row rfl _ _ w.heap.size 63 #[.int .i64 (cur ts st).kind,.string (str (cur ts st).text),.int .i64 (cur ts st).n,.int .i64 ((cur ts st).at_:Int)] (0,0) _ rfl ?_ Try.underlying63 rfl (by kernel_rfl)) rfl ?_
     · exact ((((Blk.drewN HB0.out _).set_ 0 (.int .i64 (cur ts st).kind)).set_ 1 (.string (str (cur ts st).text))).set_ 2 (.int .i64 (cur ts st).n)).set_ 3 (.int .i64 ((cur ts st).at_:Int))
     · refine⟨rfl,?_,?_⟩
       · rw[HF.out];exact RS.other (RS.other (RS.other (RS.other (HR0.out.drewN _) HX.out 0 _) HX.out 1 _) HX.out 2 _) HX.out 3 _
       · exact Zx (Zx (Zx (Zx (grown_drewN HG1.out _) (Zc _) 0 _) (Zc _) 1 _) (Zc _) 2 _) (Zc _) 3 _
 · have HF:Hid ((take ts st).2=st):=Za (by unfold take;rw[if_neg (fun x=>hw x.1)]);have hw2:well st=false:=(by simpa using hw);have tr:True:=trivial
   · clear tr;go_enter Try.func47,Try.ntmps47
     go_wp2_with (first
      | (go_at_call 15;(with_reducible refine (ZK _ _ _ _ _ (H.out.alloc _)).mono ?_);rintro e w1 ⟨rfl,hb⟩
         have H1:=Za ((H.out.alloc (.cells #[.int .i64 0,.string ⟨#[]⟩,.int .i64 0,.int .i64 0] 63)).below hb);have HB1:=Za hb;have hK:=(Blk.new w 63 #[.int .i64 0,.string ⟨#[]⟩,.int .i64 0,.int .i64 0]).below hb (by simp);have z0:=hK.cell 0;have z1:=hK.cell 1;have z2:=hK.cell 2;have z3:=hK.cell 3;have fz0:=hK.frozen 0;have fz1:=hK.frozen 1;have fz2:=hK.frozen 2;have fz3:=hK.frozen 3;simp at z0 z1 z2 z3;obtain⟨c0,c1,_,_,_,_⟩:=H1.out.cells;have f1:=H1.out.blk.frozen 1;have hg1:=H1.out.blk.lt;have hlt1:w.heap.size<w1.heap.size:=(by have:=hb.size;simp at this;omega);have HK:=Za hK;clear hb hK))
     go_quiet ((go_at_call 17;exact Calls.quiet_of_same ((ZP _ _ _ _ _ false hw2 ((H1.out.alloc _).drewN _)).mono fun _ _ ⟨a,b⟩=>⟨a,b.symm⟩)));go_wp2;have HX:=Za (H.out.elder (Zc _));have HG0:Hid (w.grownBy w1 (some g)):=Za (Zr ((Zv (Below.refl _ _) _).trans (HB1.out.mono (by simp))) g);have HB0:Hid (Blk (w1.alloc (.cells #[.int .i64 (cur ts st).kind,.string (str (cur ts st).text),.int .i64 (cur ts st).n,.int .i64 ((cur ts st).at_:Int)] 63)) w.heap.size 63 #[.int .i64 0,.string ⟨#[]⟩,.int .i64 0,.int .i64 0]):=Za (HK.out.alloc _);have HR0:Hid (RS (w1.alloc (.cells #[.int .i64 (cur ts st).kind,.string (str (cur ts st).text),.int .i64 (cur ts st).n,.int .i64 ((cur ts st).at_:Int)] 63)) g _ ts st):=Za (H1.out.alloc _);have HG1:Hid (w.grownBy (w1.alloc (.cells #[.int .i64 (cur ts st).kind,.string (str (cur ts st).text),.int .i64 (cur ts st).n,.int .i64 ((cur ts st).at_:Int)] 63)) (some g)):=Za (ZD HG0.out _);clear HK H1 HG0 HB1 z0 z1 z2 z3 fz0 fz1 fz2 fz3 c0 c1 f1 hg1;generalize w1.alloc (.cells #[.int .i64 (cur ts st).kind,.string (str (cur ts st).text),.int .i64 (cur ts st).n,.int .i64 ((cur ts st).at_:Int)] 63)=w2 at HB0 HR0 HG1 ⊢;refine bodyPost_ret (results_cell_row rfl _ _ w.heap.size 63 #[.int .i64 (cur ts st).kind,.string (str (cur ts st).text),.int .i64 (cur ts st).n,.int .i64 ((cur ts st).at_:Int)] (0,0) _ rfl ?_ Try.underlying63 rfl (by kernel_rfl)) rfl ?_
     · exact ((((Blk.drewN HB0.out _).set_ 0 (.int .i64 (cur ts st).kind)).set_ 1 (.string (str (cur ts st).text))).set_ 2 (.int .i64 (cur ts st).n)).set_ 3 (.int .i64 ((cur ts st).at_:Int))
     · refine⟨rfl,?_,?_⟩
       · rw[HF.out];exact RS.other (RS.other (RS.other (RS.other (HR0.out.drewN _) HX.out 0 _) HX.out 1 _) HX.out 2 _) HX.out 3 _
       · exact Zx (Zx (Zx (Zx (grown_drewN HG1.out _) (Zc _) 0 _) (Zc _) 1 _) (Zc _) 2 _) (Zc _) 3 _
end
end Go.Proofs.Ytddmceldglelkaa.RefTake
namespace Go.Proofs.Ytddmceldglelkaa.RefWord
open Go Go.RowKit NumPure NumRead LexPure PTokens YtddmceldglelkaaW.PrintWords YtddmceldglelkaaW.PrintLast
namespace PWordIs
theorem ref_Word (s:ByteArray) (hs:s.size≤140737488351232) (w:World):Calls Try.prog 73 #[.string s] w fun e w'=>e=.returned (.bool (LexPure.Word s.data.toList))∧Drawn0 w w':=by
 have hz:s.size=s.data.toList.length:=Lib.size_eq s;have hl:s.toList=s.data.toList:=Lib.toList_data s;have hw:=LexRefTok.word_f s hs 0 (s.size+1) (Nat.zero_le _) (by omega);rw[List.drop_zero] at hw;have HW:Hid (∀ W,Calls Try.prog 69 #[.string s,.int .i64 0] W fun e w'=>e=.returned (.int .i64 (word s.data.toList:Int))∧Drawn0 W w'):=Za (fun W=>vestryref08_word.calls _ s 0 _ W hw);clear hw;by_cases h0:s.data.toList=[]
 · have e0:(s.toList==([]:List UInt8))=true:=beq_iff_eq.mpr (hl.trans h0);have e1:(s.toList != ([]:List UInt8))=false:=bne_eq_false_iff_eq.mpr (hl.trans h0);have HR:Hid (LexPure.Word s.data.toList=false):=Za (by rw[h0];rfl);clear h0 hl hz hs;go_enter Try.func73,Try.ntmps73;go_wp2;go_ret;exact⟨by rw[HR.out];rfl,by repeat (first|exact Drawn0.refl _|apply Drawn0.step)⟩
 · have e0:(s.toList==([]:List UInt8))=false:=Zo (fun e=>h0 (hl.symm.trans e));have e1:(s.toList != ([]:List UInt8))=true:=bne_iff_ne.mpr (fun e=>h0 (hl.symm.trans e));obtain⟨m,hm⟩:∃ m:Int,(word s.data.toList:Int)=m:=⟨_,rfl⟩;have hW:LexPure.Word s.data.toList=(decide (m=(s.size:Int))&&decide ((s.size:Int)≤64)):=by
    unfold LexPure.Word;rw[Zl (show s.data.toList≠[] from h0),← hm,hz];by_cases h1:word s.data.toList=s.data.toList.length
    · rw[Zl h1,Zl (show ((word s.data.toList:Nat):Int)=((s.data.toList.length:Nat):Int) by omega),Bool.true_and,Bool.and_true,Bool.true_and];exact decide_eq_decide.2 (by omega)
    · rw[Zm h1,Zm (show ¬((word s.data.toList:Nat):Int)=((s.data.toList.length:Nat):Int) by omega),Bool.and_false,Bool.false_and]
   rw[hm] at HW;have HR:=Za hW;clear h0 hl hz hs hW hm;by_cases h1:m=(s.size:Int)
   · have e2:(m==(s.size:Int))=true:=beq_iff_eq.mpr h1;have HR2:Hid (LexPure.Word s.data.toList=decide ((s.size:Int)≤64)):=Za (by rw[HR.out,Zl h1,Bool.true_and]);clear h1 HR;go_enter Try.func73,Try.ntmps73;go_wp2_with (first|(go_at_call 69;(with_reducible refine (HW.out _).mono ?_);rintro e w' ⟨rfl,⟨nd,rfl⟩⟩))
     go_ret;exact⟨by rw[HR2.out];first|rfl|simp,by repeat (first|exact Drawn0.refl _|apply Drawn0.step)⟩
   · have e2:(m==(s.size:Int))=false:=Zo h1;have HR2:Hid (LexPure.Word s.data.toList=false):=Za (by rw[HR.out,Zm h1,Bool.false_and]);clear h1 HR;go_enter Try.func73,Try.ntmps73;go_wp2_with (first|(go_at_call 69;(with_reducible refine (HW.out _).mono ?_);rintro e w' ⟨rfl,⟨nd,rfl⟩⟩))
     go_ret;exact⟨by rw[HR2.out];rfl,by repeat (first|exact Drawn0.refl _|apply Drawn0.step)⟩
end PWordIs
end Go.Proofs.Ytddmceldglelkaa.RefWord
namespace Go.Proofs.Ytddmceldglelkaa.RefSmall
open Go Go.RowKit RefPure RefMem RefTake YtddmceldglelkaaW.PrintWords
open LexPure (T lex)
attribute [local go_sem] fld0 fld1 fld2 fld3
theorem rets {a b:ByteArray} (h:a=b):Ending.returned (.string a)=.returned (.string b):=by rw[h]
section
variable (w:World) (g:Nat) (v:Value) (ts:List T) (st:St)
theorem ZQ (s:ByteArray) (h:RS w g v ts st):Calls Try.prog 43 #[.pointer (some ⟨g,0,none⟩),.string s] w fun e w'=>e=.returned (.bool (may ts s.data.toList st).1)∧RS w' g v ts (may ts s.data.toList st).2∧w.grownBy w' (some g):=by
 have H0:=Za h;have G0:=Za (ZL w g);have hg:=h.blk.lt;clear h;by_cases hs:sign ts s.data.toList st=true
 · have HF:Hid (may ts s.data.toList st=(true,(take ts st).2)):=Za (by unfold may;rw[if_pos hs]);go_enter Try.func43,Try.ntmps43
   go_wp2_with (first
       | (go_at_call 42;(with_reducible refine (ZJ _ _ _ _ _ _ H0.out).mono ?_);rintro e w1 ⟨rfl,hb⟩
          have H1:=Za (H0.out.below hb);have G1:=Za (Zs G0.out (Zr hb g));clear hb H0 G0)
       | (go_at_call 47;(with_reducible refine (Z4 _ _ _ _ _ H1.out).mono ?_);rintro e w2 ⟨rfl,hr,hb⟩
          have H2:=Za hr;have G2:=Za (Zs G1.out hb);clear hr hb H1 G1))
   go_ret;exact⟨retb (by rw[HF.out]),by rw[HF.out];exact H2.out,G2.out⟩
 · have hs2:sign ts s.data.toList st=false:=(by simpa using hs);have HF:Hid (may ts s.data.toList st=(false,st)):=Za (by unfold may;rw[if_neg hs]);go_enter Try.func43,Try.ntmps43
   go_wp2_with (first
       | (go_at_call 42;(with_reducible refine (ZJ _ _ _ _ _ _ H0.out).mono ?_);rintro e w1 ⟨rfl,hb⟩
          have H1:=Za (H0.out.below hb);have G1:=Za (Zs G0.out (Zr hb g));clear hb H0 G0))
   go_ret;exact⟨retb (by rw[HF.out]),by rw[HF.out];exact H1.out,G1.out⟩
theorem must_any (s:ByteArray) (h:RS w g v ts st):Calls Try.prog 50 #[.pointer (some ⟨g,0,none⟩),.string s] w fun e w'=>e=.returned (.tuple #[])∧RS w' g v ts (must ts s.data.toList st)∧w.grownBy w' (some g):=by
 have H0:=Za h;have G0:=Za (ZL w g);have hg:=h.blk.lt;clear h;by_cases hs:(may ts s.data.toList st).1=true
 · have HF:Hid (must ts s.data.toList st=(may ts s.data.toList st).2):=Za (by unfold must;rw[if_pos hs]);go_enter Try.func50,Try.ntmps50
   go_wp2_with (first
       | (go_at_call 43;(with_reducible refine (ZQ _ _ _ _ _ _ H0.out).mono ?_);rintro e w1 ⟨rfl,hr,hb⟩
          have H1:=Za hr;have G1:=Za (Zs G0.out hb);clear hr hb H0 G0))
   go_end0
   exact⟨rfl,by rw[HF.out];exact H1.out,G1.out⟩
 · have hs2:(may ts s.data.toList st).1=false:=(by simpa using hs);have HF:Hid (must ts s.data.toList st=fails ts 10 (may ts s.data.toList st).2):=Za (by unfold must;rw[if_neg hs]);go_enter Try.func50,Try.ntmps50
   go_wp2_with (first
       | (go_at_call 43;(with_reducible refine (ZQ _ _ _ _ _ _ H0.out).mono ?_);rintro e w1 ⟨rfl,hr,hb⟩
          have H1:=Za hr;have G1:=Za (Zs G0.out hb);clear hr hb H0 G0)
       | (go_at_call 16;(with_reducible refine (Z2 _ _ _ _ _ _ H1.out).mono ?_);rintro e w2 ⟨rfl,hr,hb⟩
          have H2:=Za hr;have G2:=Za (Zs G1.out hb);clear hr hb H1 G1))
   go_end0
   exact⟨rfl,by rw[HF.out];exact H2.out,G2.out⟩
theorem name_any (h:RS w g v ts st):Calls Try.prog 51 #[.pointer (some ⟨g,0,none⟩)] w fun e w'=>e=.returned (.string (name ts st).1)∧RS w' g v ts (name ts st).2∧w.grownBy w' (some g):=by
 have H0:=Za h;have G0:=Za (ZL w g);have hg:=h.blk.lt;clear h;by_cases hk:(cur ts st).kind=1
 · have hkb:((cur ts st).kind==1)=true:=beq_iff_eq.mpr hk;have hkc:((cur ts st).kind != 1)=false:=bne_eq_false_iff_eq.mpr hk;have HF:Hid (name ts st=(str (cur ts st).text,(take ts st).2)):=Za (by unfold name;rw[if_pos hk];rfl);clear hk;go_enter Try.func51,Try.ntmps51
   go_wp2_with (first
       | (go_at_call 15;(with_reducible refine (ZK _ _ _ _ _ H0.out).mono ?_);rintro e w1 ⟨rfl,hb⟩
          have H1:=Za (H0.out.below hb);have G1:=Za (Zs G0.out (Zr hb g));clear hb H0 G0)
       | (go_at_call 47;(with_reducible refine (Z4 _ _ _ _ _ H1.out).mono ?_);rintro e w2 ⟨rfl,hr,hb⟩
          have H2:=Za hr;have G2:=Za (Zs G1.out hb);clear hr hb H1 G1))
   go_ret;exact⟨rets (by rw[HF.out]),by rw[HF.out];exact H2.out,G2.out⟩
 · have hkb:((cur ts st).kind==1)=false:=Zo hk;have hkc:((cur ts st).kind != 1)=true:=bne_iff_ne.mpr hk;have HF:Hid (name ts st=(str (cur ts (fails ts 10 st)).text,(take ts (fails ts 10 st)).2)):=Za (by unfold name;rw[if_neg hk];rfl);clear hk;go_enter Try.func51,Try.ntmps51
   go_wp2_with (first
       | (go_at_call 15;(with_reducible refine (ZK _ _ _ _ _ H0.out).mono ?_);rintro e w1 ⟨rfl,hb⟩
          have H1:=Za (H0.out.below hb);have G1:=Za (Zs G0.out (Zr hb g));clear hb H0 G0)
       | (go_at_call 16;(with_reducible refine (Z2 _ _ _ _ _ _ H1.out).mono ?_);rintro e w2 ⟨rfl,hr,hb⟩
          have H2:=Za hr;have G2:=Za (Zs G1.out hb);clear hr hb H1 G1)
       | (go_at_call 47;(with_reducible refine (Z4 _ _ _ _ _ H2.out).mono ?_);rintro e w3 ⟨rfl,hr,hb⟩
          have H3:=Za hr;have G3:=Za (Zs G2.out hb);clear hr hb H2 G2))
   go_ret;exact⟨rets (by rw[HF.out]),by rw[HF.out];exact H3.out,G3.out⟩
theorem enter_any (h:RS w g v ts st):Calls Try.prog 46 #[.pointer (some ⟨g,0,none⟩)] w fun e w'=>e=.returned (.tuple #[])∧RS w' g v ts (enter ts st)∧w.grownBy w' (some g):=by
 obtain⟨_,_,c2,_,_,_⟩:=h.cells;have f2:=h.blk.frozen 2;have H0:=Za h;have G0:=Za (ZL w g);have hg:=h.blk.lt;clear h;by_cases hd:32≤st.deep
 · have hdb:decide (32≤st.deep)=true:=Zl hd;have HF:Hid (enter ts st={ fails ts 4 st with deep:=wrap64 ((fails ts 4 st).deep+1) }):=Za (by unfold enter;rw[if_pos hd]);go_enter Try.func46,Try.ntmps46
   go_wp2_with (first
       | (go_at_call 16;(with_reducible refine (Z2 _ _ _ _ _ _ H0.out).mono ?_);rintro e w1 ⟨rfl,hr,hb⟩
          have H1:=Za hr;have G1:=Za (Zs G0.out hb);obtain⟨_,_,d2,_,_,_⟩:=hr.cells;have e2:=hr.blk.frozen 2;clear hr hb H0 G0))
   go_end0
   exact⟨rfl,by rw[HF.out];exact RS.set H1.out 2 _ rfl H1.out.lt,grown_g G1.out 2 _⟩
 · have hdb:decide (32≤st.deep)=false:=Zm hd;have HF:Hid (enter ts st={ st with deep:=wrap64 (st.deep+1) }):=Za (by unfold enter;rw[if_neg hd]);clear hd;go_enter Try.func46,Try.ntmps46;go_wp2;go_end0
   exact⟨rfl,by rw[HF.out];exact RS.set H0.out 2 _ rfl H0.out.lt,grown_g G0.out 2 _⟩
theorem word_any (h:RS w g v ts st):Calls Try.prog 49 #[.pointer (some ⟨g,0,none⟩)] w fun e w'=>e=.returned (.string (word ts st).1)∧RS w' g v ts (word ts st).2∧w.grownBy w' (some g):=by
 have HL:=Za (cur_len h);have H0:=Za h;have G0:=Za (ZL w g);have hg:=h.blk.lt;clear h;by_cases hk:(cur ts st).kind=1
 · have hkb:((cur ts st).kind==1)=true:=beq_iff_eq.mpr hk;have hkc:((cur ts st).kind != 1)=false:=bne_eq_false_iff_eq.mpr hk;by_cases hW:LexPure.Word (cur ts st).text=true
   · have hWb:LexPure.Word (str (cur ts st).text).data.toList=true:=hW;by_cases hU:(cur ts st).text=[95]
     · have hub:((str (cur ts st).text).toList==ByteArray.toList ⟨#[95]⟩)=true:=(by rw[str_eq];exact Zl hU);have hub2:((str (cur ts st).text).toList==[95])=true:=(by rw[Lib.toList_data];simp[str,hU]);have hok:¬wordOk (cur ts st)=true:=(by unfold wordOk;simp[hU]);have HU:=Za hU;clear hU;have HF:Hid (word ts st=(str (cur ts (fails ts 10 st)).text,(take ts (fails ts 10 st)).2)):=Za (by unfold word;rw[if_neg hok];rfl);clear hk;go_enter Try.func49,Try.ntmps49
       go_wp2_with (first
           | (go_at_call 15;(with_reducible refine (ZK _ _ _ _ _ H0.out).mono ?_);rintro e w1 ⟨rfl,hb⟩
              have H1:=Za (H0.out.below hb);have G1:=Za (Zs G0.out (Zr hb g));clear hb H0 G0)
           | (go_at_call 15;(with_reducible refine (ZK _ _ _ _ _ H1.out).mono ?_);rintro e w2 ⟨rfl,hb⟩
              have H2:=Za (H1.out.below hb);have G2:=Za (Zs G1.out (Zr hb g));clear hb H1 G1)
           | (go_at_call 73;(with_reducible refine (RefWord.PWordIs.ref_Word _ HL.out _).mono ?_);rintro e w3 ⟨rfl,⟨n3,rfl⟩⟩
              have H3:=Za (H2.out.drewN n3);have G3:=Za (grown_drewN G2.out n3);clear H2 G2)
           | (go_at_call 15;(with_reducible refine (ZK _ _ _ _ _ H3.out).mono ?_);rintro e w4 ⟨rfl,hb⟩
              have H4:=Za (H3.out.below hb);have G4:=Za (Zs G3.out (Zr hb g));clear hb H3 G3)
           | (go_at_call 16;(with_reducible refine (Z2 _ _ _ _ _ _ H4.out).mono ?_);rintro e w5 ⟨rfl,hr,hb⟩
              have H5:=Za hr;have G5:=Za (Zs G4.out hb);clear hr hb H4 G4)
           | (go_at_call 47;(with_reducible refine (Z4 _ _ _ _ _ H5.out).mono ?_);rintro e w6 ⟨rfl,hr,hb⟩
              have H6:=Za hr;have G6:=Za (Zs G5.out hb);clear hr hb H5 G5))
       go_ret;exact⟨rets (by rw[HF.out]),by rw[HF.out];exact H6.out,G6.out⟩
     · have hub:((str (cur ts st).text).toList==ByteArray.toList ⟨#[95]⟩)=false:=(by rw[str_eq];exact Zm hU);have hub2:((str (cur ts st).text).toList==[95])=false:=(by rw[Lib.toList_data];simp[str,hU]);have hok:wordOk (cur ts st)=true:=(by unfold wordOk;simp[hk,hW,hU]);clear hU;have HF:Hid (word ts st=(str (cur ts st).text,(take ts st).2)):=Za (by unfold word;rw[if_pos hok];rfl);clear hk;go_enter Try.func49,Try.ntmps49
       go_wp2_with (first
           | (go_at_call 15;(with_reducible refine (ZK _ _ _ _ _ H0.out).mono ?_);rintro e w1 ⟨rfl,hb⟩
              have H1:=Za (H0.out.below hb);have G1:=Za (Zs G0.out (Zr hb g));clear hb H0 G0)
           | (go_at_call 15;(with_reducible refine (ZK _ _ _ _ _ H1.out).mono ?_);rintro e w2 ⟨rfl,hb⟩
              have H2:=Za (H1.out.below hb);have G2:=Za (Zs G1.out (Zr hb g));clear hb H1 G1)
           | (go_at_call 73;(with_reducible refine (RefWord.PWordIs.ref_Word _ HL.out _).mono ?_);rintro e w3 ⟨rfl,⟨n3,rfl⟩⟩
              have H3:=Za (H2.out.drewN n3);have G3:=Za (grown_drewN G2.out n3);clear H2 G2)
           | (go_at_call 15;(with_reducible refine (ZK _ _ _ _ _ H3.out).mono ?_);rintro e w4 ⟨rfl,hb⟩
              have H4:=Za (H3.out.below hb);have G4:=Za (Zs G3.out (Zr hb g));clear hb H3 G3)
           | (go_at_call 47;(with_reducible refine (Z4 _ _ _ _ _ H4.out).mono ?_);rintro e w5 ⟨rfl,hr,hb⟩
              have H5:=Za hr;have G5:=Za (Zs G4.out hb);clear hr hb H4 G4))
       go_ret;exact⟨rets (by rw[HF.out]),by rw[HF.out];exact H5.out,G5.out⟩
   · have hW2:LexPure.Word (cur ts st).text=false:=(by simpa using hW);have hWb:LexPure.Word (str (cur ts st).text).data.toList=false:=hW2;have hok:¬wordOk (cur ts st)=true:=(by unfold wordOk;simp[hW2]);have HF:Hid (word ts st=(str (cur ts (fails ts 10 st)).text,(take ts (fails ts 10 st)).2)):=Za (by unfold word;rw[if_neg hok];rfl);clear hk;go_enter Try.func49,Try.ntmps49
     go_wp2_with (first
         | (go_at_call 15;(with_reducible refine (ZK _ _ _ _ _ H0.out).mono ?_);rintro e w1 ⟨rfl,hb⟩
            have H1:=Za (H0.out.below hb);have G1:=Za (Zs G0.out (Zr hb g));clear hb H0 G0)
         | (go_at_call 15;(with_reducible refine (ZK _ _ _ _ _ H1.out).mono ?_);rintro e w2 ⟨rfl,hb⟩
            have H2:=Za (H1.out.below hb);have G2:=Za (Zs G1.out (Zr hb g));clear hb H1 G1)
         | (go_at_call 73;(with_reducible refine (RefWord.PWordIs.ref_Word _ HL.out _).mono ?_);rintro e w3 ⟨rfl,⟨n3,rfl⟩⟩
            have H3:=Za (H2.out.drewN n3);have G3:=Za (grown_drewN G2.out n3);clear H2 G2)
         | (go_at_call 16;(with_reducible refine (Z2 _ _ _ _ _ _ H3.out).mono ?_);rintro e w4 ⟨rfl,hr,hb⟩
            have H4:=Za hr;have G4:=Za (Zs G3.out hb);clear hr hb H3 G3)
         | (go_at_call 47;(with_reducible refine (Z4 _ _ _ _ _ H4.out).mono ?_);rintro e w5 ⟨rfl,hr,hb⟩
            have H5:=Za hr;have G5:=Za (Zs G4.out hb);clear hr hb H4 G4))
     go_ret;exact⟨rets (by rw[HF.out]),by rw[HF.out];exact H5.out,G5.out⟩
 · have hkb:((cur ts st).kind==1)=false:=Zo hk;have hkc:((cur ts st).kind != 1)=true:=bne_iff_ne.mpr hk;have hok:¬wordOk (cur ts st)=true:=(by unfold wordOk;simp[hk]);have HF:Hid (word ts st=(str (cur ts (fails ts 10 st)).text,(take ts (fails ts 10 st)).2)):=Za (by unfold word;rw[if_neg hok];rfl);clear hk;go_enter Try.func49,Try.ntmps49
   go_wp2_with (first
       | (go_at_call 15;(with_reducible refine (ZK _ _ _ _ _ H0.out).mono ?_);rintro e w1 ⟨rfl,hb⟩
          have H1:=Za (H0.out.below hb);have G1:=Za (Zs G0.out (Zr hb g));clear hb H0 G0)
       | (go_at_call 16;(with_reducible refine (Z2 _ _ _ _ _ _ H1.out).mono ?_);rintro e w2 ⟨rfl,hr,hb⟩
          have H2:=Za hr;have G2:=Za (Zs G1.out hb);clear hr hb H1 G1)
       | (go_at_call 47;(with_reducible refine (Z4 _ _ _ _ _ H2.out).mono ?_);rintro e w3 ⟨rfl,hr,hb⟩
          have H3:=Za hr;have G3:=Za (Zs G2.out hb);clear hr hb H2 G2))
   go_ret;exact⟨rets (by rw[HF.out]),by rw[HF.out];exact H3.out,G3.out⟩
end
end Go.Proofs.Ytddmceldglelkaa.RefSmall
