/- A claim's texts, in the order of what they need: CmpWhole, CmpWholeOf, CmpInst, CmpContains. -/
import Derived.Test.YtddmceldglelkaaBCompPlain28
import Derived.Test.YtddmceldglelkaaBCompPlain30
import Derived.Deep.LoopGhost
import Derived.Deep.RegionLaw
import Derived.Deep.RegionHeld3
import Derived.Deep.QuietTactic
set_option maxRecDepth 100000
set_option maxHeartbeats 8000000
set_option linter.unusedVariables false
set_option linter.unusedSimpArgs false
set_option linter.unusedSectionVars false
namespace Go.Proofs.Ytddmceldglelkaa.CmpWhole
open Go Go.RowKit RefPure RefKinds RefMem RefSameP CmpPure CmpMem CmpFind CmpAdd CmpDefer RefCells RefExpr YtddmceldglelkaaW.PrintWords
structure WSt (w0 w:World) (vT vD vC vI vL:Value) (p:ProgT) (bp bon bb bw mb:Nat) (on:List ByteArray) (n:Nat):Prop where
 base:Below w0.heap.size w0 w
 pv:PV w0 w0 vT vD vC vI vL p
 box:Blk w bp 28 #[vT,vD,vC,vI,vL]
 onb:Blk w bon 85 #[.map (some mb)]
 bod:Blk w bb 3 #[.int .i64 ((n:Nat):Int)]
 whl:∃ t,Blk w bw t #[.func (.func 29) #[] #[.pointer (some ⟨bp,0,none⟩),.pointer (some ⟨bon,0,none⟩),.pointer (some ⟨bb,0,none⟩),.pointer (some ⟨bw,0,none⟩)]]
 met:CmpMap.Met w mb n on
 old:w0.heap.size≤bb∧w0.heap.size≤mb
 ne:bb≠bp∧bb≠bon∧bb≠bw∧mb≠bp∧mb≠bon∧mb≠bw∧mb≠bb
def WPost (w0 w:World) (vT vD vC vI vL:Value) (p:ProgT) (bp bon bb bw mb:Nat) (on:List ByteArray) (r:Nat×Int×ProgT) (e:Ending) (w':World):Prop:=
 ∃ uT uD uC uI uL,e=.returned (.tuple #[.agg #[uT,uD,uC,uI,uL],.int .i64 r.2.1])∧FRows w0 w' w.heap.size uT uD uC uI uL r.2.2∧WSt w0 w' vT vD vC vI vL p bp bon bb bw mb on r.1∧Kp (fun k=>k=bb∨k=mb) w w'
def PW (w0:World) (vT vD vC vI vL:Value) (p:ProgT) (bp bon bb bw mb k:Nat):Prop:=∀ w on nm n r,WSt w0 w vT vD vC vI vL p bp bon bb bw mb on n→wholeS p.comps k on nm n=some r→n≤96→nm.size≤65536→
 Calls Try.prog 29 #[.string nm,.pointer (some ⟨bp,0,none⟩),.pointer (some ⟨bon,0,none⟩),.pointer (some ⟨bb,0,none⟩),.pointer (some ⟨bw,0,none⟩)] w (WPost w0 w vT vD vC vI vL p bp bon bb bw mb on r)
section
variable {w0 w w1:World} {vT vD vC vI vL:Value} {p:ProgT} {bp bon bb bw mb n:Nat} {on:List ByteArray} {S:Nat→Prop}
theorem WSt.size (h:WSt w0 w vT vD vC vI vL p bp bon bb bw mb on n):w0.heap.size≤w.heap.size:=h.base.size
theorem WSt.ltm (h:WSt w0 w vT vD vC vI vL p bp bon bb bw mb on n):mb<w.heap.size:=by
 obtain⟨D,⟨es,ck,h1,h2⟩,h3⟩:=h.met;rcases Nat.lt_or_ge mb w.heap.size with q|q
 · exact q
 · rw[Array.getElem?_eq_none q] at h1;cases h1
theorem WSt.kp (h:WSt w0 w vT vD vC vI vL p bp bon bb bw mb on n) (hk:Kp S w w1) (hS:∀ k,S k→k<w.heap.size→w0.heap.size≤k∧k≠bp∧k≠bon∧k≠bb∧k≠bw∧k≠mb):WSt w0 w1 vT vD vC vI vL p bp bon bb bw mb on n:=by obtain⟨t,hw⟩:=h.whl;have q1:=h.box.lt;have q2:=h.onb.lt;have q3:=h.bod.lt;have q4:=hw.lt;have q5:=h.ltm;have q6:=h.size;refine⟨h.base.trans (hk.below (fun k hl hs=>by have:=(hS k hs (by omega)).1;omega) h.size),h.pv,hk.blk h.box (fun q=>(hS _ q (by assumption)).2.1 rfl),hk.blk h.onb (fun q=>(hS _ q (by assumption)).2.2.1 rfl),hk.blk h.bod (fun q=>(hS _ q (by assumption)).2.2.2.1 rfl),⟨t,hk.blk hw (fun q=>(hS _ q (by assumption)).2.2.2.2.1 rfl)⟩,hk.met h.met (fun q=>(hS _ q (by assumption)).2.2.2.2.2 rfl),h.old,h.ne⟩
theorem WSt.up (h:WSt w0 w vT vD vC vI vL p bp bon bb bw mb on n) (hb:Below w.heap.size w w1):WSt w0 w1 vT vD vC vI vL p bp bon bb bw mb on n:=h.kp (Kp.of_below (fun _=>False) hb) (fun _ q _=>q.elim)
theorem WSt.count (h:WSt w0 w vT vD vC vI vL p bp bon bb bw mb on n) (m:Nat) (hm:n≤m):WSt w0 (w.setCell ⟨bb,0,none⟩ (.int .i64 ((m:Nat):Int))) vT vD vC vI vL p bp bon bb bw mb on m:=by obtain⟨t,hw⟩:=h.whl;have hk:Kp (fun k=>k=bb) w (w.setCell ⟨bb,0,none⟩ (.int .i64 ((m:Nat):Int))):=(Kp.refl (fun k=>k=bb) _).set (fun _=>rfl) _ _;obtain⟨n1,n2,n3,n4,n5,n6,n7⟩:=h.ne;refine⟨h.base.trans (hk.below (fun k hl hs=>by have:=h.old.1;omega) h.size),h.pv,hk.blk h.box (fun e=>n1 e.symm),hk.blk h.onb (fun e=>n2 e.symm),h.bod.set_ 0 _,⟨t,hk.blk hw (fun e=>n3 e.symm)⟩,?_,h.old,h.ne⟩;obtain⟨D,⟨es,ck,h1,h2,h3,h4⟩,h5⟩:=hk.met h.met n7;exact⟨D,⟨es,ck,h1,h2,Nat.le_trans h3 hm,h4⟩,h5⟩
theorem WSt.turn (h:WSt w0 w vT vD vC vI vL p bp bon bb bw mb on n) (hg:w.grownBy w1 (some mb)) {on':List ByteArray} (hm:CmpMap.Met w1 mb n on'):WSt w0 w1 vT vD vC vI vL p bp bon bb bw mb on' n:=by obtain⟨t,hw⟩:=h.whl;obtain⟨n1,n2,n3,n4,n5,n6,n7⟩:=h.ne;have hk:Kp (fun k=>k=mb) w w1:=Kp.of_grown hg (fun k e=>by injection e with e;exact e.symm);exact⟨h.base.trans (hk.below (fun k hl hs=>by have:=h.old.2;omega) h.size),h.pv,hk.blk h.box (fun e=>n4 e.symm),hk.blk h.onb (fun e=>n5 e.symm),hk.blk h.bod (fun e=>n7 e.symm),⟨t,hk.blk hw (fun e=>n6 e.symm)⟩,hm,h.old,h.ne⟩
end
theorem five_below {n:Nat} {w W:World} {X:Nat} {a b c d e:Value} (h:Below n w W) (hX:n≤X):Below n w (five W X a b c d e):=
 ((((h.setCell (p:=⟨X,0,none⟩) hX _).setCell (p:=⟨X,1,none⟩) hX _).setCell (p:=⟨X,2,none⟩) hX _).setCell (p:=⟨X,3,none⟩) hX _).setCell (p:=⟨X,4,none⟩) hX _
theorem below_then5 {w w2:World} {o o2:Obj} {a b c d e:Value} (h:Below (w.alloc o).heap.size (w.alloc o) w2):Below w.heap.size w ((five w2 w.heap.size a b c d e).alloc o2):=
 (five_below (below_in (below1 _ _) h) (Nat.le_refl _)).alloc (five_below (below_in (below1 _ _) h) (Nat.le_refl _)).size _
theorem wfin {w0 w w1:World} {vT vD vC vI vL:Value} {p:ProgT} {bp bon bb bw mb n:Nat} {on:List ByteArray} (h:WSt w0 w vT vD vC vI vL p bp bon bb bw mb on n) (e:Int) (hb:Below w.heap.size w w1):WPost w0 w vT vD vC vI vL p bp bon bb bw mb on (n,e,prog0) (.returned (.tuple #[.agg #[.slice none 0 0,.slice none 0 0,.slice none 0 0,.slice none 0 0,.slice none 0 0],.int .i64 e])) w1:=⟨_,_,_,_,_,rfl,FRows.nil _ _ _,h.up hb,Kp.of_below _ hb⟩
theorem wfin2 {w0 w w1:World} {vT vD vC vI vL:Value} {p:ProgT} {bp bon bb bw mb n:Nat} {on:List ByteArray} (e:Int) (h:WSt w0 w1 vT vD vC vI vL p bp bon bb bw mb on n) (hk:Kp (fun k=>k=bb∨k=mb) w w1):WPost w0 w vT vD vC vI vL p bp bon bb bw mb on (n,e,prog0) (.returned (.tuple #[.agg #[.slice none 0 0,.slice none 0 0,.slice none 0 0,.slice none 0 0,.slice none 0 0],.int .i64 e])) w1:=⟨_,_,_,_,_,rfl,FRows.nil _ _ _,h,hk⟩
theorem kp_five {S:Nat→Prop} {w W:World} {X:Nat} {a b c d e:Value} (h:Kp S w W) (hX:X<w.heap.size→S X):Kp S w (five W X a b c d e):=((((h.set hX 0 _).set hX 1 _).set hX 2 _).set hX 3 _).set hX 4 _
theorem many_end {w0 w w2:World} {vT vD vC vI vL:Value} {p:ProgT} {bp bon bb bw mb n:Nat} {on:List ByteArray} {o o2:Obj} {a b c d e:Value} (h:WSt w0 w vT vD vC vI vL p bp bon bb bw mb on n) (hb:Below (w.alloc o).heap.size (w.alloc o) w2) :
    WSt w0 ((five (w2.setCell ⟨bb,0,none⟩ (.int .i64 ((n+1:Nat):Int))) w.heap.size a b c d e).alloc o2) vT vD vC vI vL p bp bon bb bw mb on (n+1)∧Kp (fun k=>k=bb∨k=mb) w ((five (w2.setCell ⟨bb,0,none⟩ (.int .i64 ((n+1:Nat):Int))) w.heap.size a b c d e).alloc o2):=by
 have h2:=h.up (below_in (below1 _ _) hb);have h3:=h2.count (n+1) (Nat.le_succ _);obtain⟨t,hw⟩:=h.whl;refine⟨h3.kp (S:=fun k=>k=w.heap.size) ((kp_five (Kp.refl (fun k=>k=w.heap.size) _) (fun _=>rfl)).alloc _) (fun k hk _=>?_),(kp_five ((Kp.of_below _ (below_in (below1 _ _) hb)).set (fun _=>.inl rfl) 0 _) (fun q=>absurd q (Nat.lt_irrefl _))).alloc _⟩;have q1:=h.box.lt;have q2:=h.onb.lt;have q3:=h.bod.lt;have q4:=hw.lt;have q5:=h.ltm;have q6:=h.size;subst hk;exact⟨q6,by omega,by omega,by omega,by omega,by omega⟩
theorem go_state {w0 w2 w3:World} {vT vD vC vI vL:Value} {p:ProgT} {bp bon bb bw mb n:Nat} {on:List ByteArray} {nm:ByteArray} {o:Obj} (h:WSt w0 w2 vT vD vC vI vL p bp bon bb bw mb on n) (hg:(w2.alloc o).grownBy w3 (some mb)) (hm:CmpMap.Met w3 mb n (nm :: on)):WSt w0 w3 vT vD vC vI vL p bp bon bb bw mb (nm :: on) n:=(h.up (below1 _ _)).turn hg hm
theorem door {w0 w W:World} {vT vD vC vI vL:Value} {p:ProgT} {bp bon bb bw mb m:Nat} {on:List ByteArray} {nm:ByteArray} {c1 c2 c3 c4 c5:Value} {q:ProgT} (e:Int) (tmps:Array Value) (h:WSt w0 W vT vD vC vI vL p bp bon bb bw mb (nm :: on) m) (hk:Kp (fun k=>k=bb∨k=mb) w W) (hr:Blk W w.heap.size 28 #[c1,c2,c3,c4,c5]) (hq:FRows w0 W w.heap.size c1 c2 c3 c4 c5 q) (hmb:mb<w.heap.size) (hon:hasS on nm=false) (hs:nm.size≤maxLen)
    (h6:tmps.getD 6 undef=.pointer (some ⟨w.heap.size,0,none⟩)) (h7:tmps.getD 7 undef=.int .i64 e) :
    bodyPostB Try.prog Try.f29 (WPost w0 w vT vD vC vI vL p bp bon bb bw mb on (m,e,q)) .ret { tmps:=tmps,defers:=[{ target:=.builtin .delete #[85,9] 0 #[false,false],args:=#[.map (some mb),.string nm] }] } W:=by
 obtain⟨w9,hrun,hgr,hmet⟩:=h.met.drop hs 0;have hm9:=hmet on (fun u=>by
  rw[hasS_cons];by_cases e:nm=u
  · subst e;rw[hon];simp
  · rw[decide_eq_false e];simp)
 have h9:=h.turn hgr hm9;have hk9:Kp (fun k=>k=mb) W w9:=Kp.of_grown hgr (fun k e=>by injection e with e;exact e.symm);refine⟨.tuple #[],w9,⟨_,_,_,_,rfl⟩,?_,_,results_ct rfl tmps w9 w.heap.size 28 #[c1,c2,c3,c4,c5] (0,0) _ h6 (hk9.blk hr (by omega)) Try.underlying28 rfl (by kernel_rfl),?_⟩
 · simp[invoke,builtin,hrun,Result.andThen]
 · rw[h7];exact⟨_,_,_,_,_,rfl,hq.kp hk9 (fun k hk _ e=>by omega),h9,hk.trans hk9 (fun _ _ e=>.inr e)⟩
theorem after {w0 w W w6:World} {vT vD vC vI vL:Value} {p:ProgT} {bp bon bb bw mb m n CB X:Nat} {on on':List ByteArray} {rv cb:Array Value} (h:WSt w0 w vT vD vC vI vL p bp bon bb bw mb on' n) (st:WSt w0 W vT vD vC vI vL p bp bon bb bw mb on m) (kp:Kp (fun k=>k=bb∨k=mb) w W) (rb:Blk W w.heap.size 28 rv) (cbx:Blk W CB 42 cb) (hX:w.heap.size<X∧CB<X) (hk:Kp (fun k=>k=X∨X+1≤k) W w6) :
    WSt w0 w6 vT vD vC vI vL p bp bon bb bw mb on m∧Kp (fun k=>k=bb∨k=mb) w w6∧Blk w6 w.heap.size 28 rv∧Blk w6 CB 42 cb:=by
 obtain⟨t,hw⟩:=h.whl;have q1:=h.box.lt;have q2:=h.onb.lt;have q3:=h.bod.lt;have q4:=hw.lt;have q5:=h.ltm;have q6:=h.size;exact⟨st.kp hk (fun k hk _=>⟨by omega,by omega,by omega,by omega,by omega,by omega⟩),kp.trans hk (fun b hb hs=>by omega),hk.blk rb (fun q=>by omega),hk.blk cbx (fun q=>by omega)⟩
theorem fend {w0 w w6:World} {vT vD vC vI vL:Value} {p:ProgT} {bp bon bb bw mb m n:Nat} {on on':List ByteArray} {r1 r2 r3 r4 r5 c1 c2 c3 c4 c5:Value} (h:WSt w0 w vT vD vC vI vL p bp bon bb bw mb on' n) (st:WSt w0 w6 vT vD vC vI vL p bp bon bb bw mb on m) (kp:Kp (fun k=>k=bb∨k=mb) w w6) (rb:Blk w6 w.heap.size 28 #[r1,r2,r3,r4,r5]) :
    WSt w0 (five w6 w.heap.size c1 c2 c3 c4 c5) vT vD vC vI vL p bp bon bb bw mb on m∧Kp (fun k=>k=bb∨k=mb) w (five w6 w.heap.size c1 c2 c3 c4 c5)∧Blk (five w6 w.heap.size c1 c2 c3 c4 c5) w.heap.size 28 #[c1,c2,c3,c4,c5]:=by
 obtain⟨t,hw⟩:=h.whl;have q1:=h.box.lt;have q2:=h.onb.lt;have q3:=h.bod.lt;have q4:=hw.lt;have q5:=h.ltm;have q6:=h.size;exact⟨st.kp (S:=fun k=>k=w.heap.size) (kp_five (Kp.refl (fun k=>k=w.heap.size) _) (fun _=>rfl)) (fun k hk _=>by subst hk;exact⟨by omega,by omega,by omega,by omega,by omega,by omega⟩),kp_five kp (fun q=>absurd q (Nat.lt_irrefl _)),five_blk rb⟩
theorem body_pv {w0 W:World} {X:Nat} {yT yD yC yI yL uT uD uC uI uL:Value} {b out:ProgT} (hb:PV w0 w0 yT yD yC yI yL b) (hbase:Below w0.heap.size w0 W) (hX:w0.heap.size≤X) (hf:FRows w0 W (X+1) uT uD uC uI uL out):∀ W',Kp (fun k=>k=X∨∃ o∈[uT,uD,uC,uI,uL],o.ownBlock=some k) W W'→PV w0 W' yT yD yC yI yL b:=fun W' hk=>
 hb.below (hk.below2 hbase (fun k hl hs=>by
  rcases hs with hs|⟨o,ho,hs⟩
  · omega
  · have:=hf.own o ho k hs;omega) hbase.size)
theorem made_pv {w0 w5:World} {N X:Nat} {yT yD yC yI yL uT uD uC uI uL:Value} {b:ProgT} {o5:Obj} (hb:FRows w0 w5 N yT yD yC yI yL b) (hX:X<N) (ho:∀ o∈[uT,uD,uC,uI,uL],∀ k,o.ownBlock=some k→k<N):∀ W',Kp (fun k=>k=X∨∃ o∈[uT,uD,uC,uI,uL],o.ownBlock=some k) (w5.alloc o5) W'→PV w0 W' yT yD yC yI yL b:=fun W' hk=>
 ((hb.kp ((Kp.refl (fun _=>False) _).alloc o5) (fun _ _ _ e=>e)).kp hk (fun k hN _ hs=>by
   rcases hs with hs|⟨o,h1,hs⟩
   · omega
   · have:=ho o h1 k hs;omega)).view
theorem wholeS_le (cs:List CompT):∀ (k:Nat) (on:List ByteArray) (nm:ByteArray) (n m:Nat) (q:ProgT),wholeS cs k on nm n=some (m,0,q)→n≤96→m≤96∧manyP q≤96:=by
 intro k;induction k with
 | zero=>intro on nm n m q h;cases h
 | succ k ih=>
   intro on nm n m q h hn;obtain⟨j,c,out,hj,hc,_,h96,hb,hm,hq⟩:=CmpBases.wholeS_ok h;injection hj with hj
   subst hj;refine⟨?_,by rw[hq];omega⟩;have hbs:∀ (l:List ByteArray) (n:Nat) (o:ProgT) (m:Nat) (q:ProgT),n≤96→basesS (wholeS cs k (nm :: on)) l n o=some (m,0,q)→m≤96:=by
    intro l;induction l with
    | nil=>intro n o m q hn h;injection h with h;simp only[Prod.mk.injEq] at h;omega
    | cons b l ihl=>intro n o m q hn h;obtain⟨m1,q1,e1,_,e2⟩:=CmpBases.basesS_ok h;exact ihl _ _ _ _ (ih _ _ _ _ _ e1 hn).1 e2
   exact hbs _ _ _ _ _ (by omega) hb
theorem bases_at {f:ByteArray→Nat→Option (Nat×Int×ProgT)} {bs:List ByteArray} {i:Nat} {b:ByteArray} {n:Nat} {out:ProgT} {r:Nat×Int×ProgT} (hb:bs[i]?=some b) (h:basesS f (bs.drop i) n out=some r):∃ m z q,f b n=some (m,z,q)∧(z≠0→r=(m,z,prog0))∧(z=0→96<manyP (addP out q)→r=(m,3,prog0))∧(z=0→¬96<manyP (addP out q)→basesS f (bs.drop (i+1)) m (addP out q)=some r):=by
 obtain⟨hi,rfl⟩:=List.getElem?_eq_some_iff.1 hb;rw[List.drop_eq_getElem_cons hi] at h;unfold basesS at h;cases e:f bs[i] n with
 | none=>rw[e] at h;cases h
 | some t=>
   obtain⟨m,z,q⟩:=t;rw[e] at h;simp only at h;refine⟨m,z,q,rfl,fun hz=>?_,fun hz hm=>?_,fun hz hm=>?_⟩
   · rw[if_pos hz] at h;injection h with h;exact h.symm
   · rw[if_neg (by simpa using hz),if_pos hm] at h;injection h with h;exact h.symm
   · rw[if_neg (by simpa using hz),if_neg hm] at h;exact h
theorem add_made {w0 w5:World} {N X:Nat} {s1 s2 s3 s4 s5 uT uD uC uI uL:Value} {q out:ProgT} (hob:Blk w5 X 28 #[uT,uD,uC,uI,uL]) (hr:FRows w0 w5 (X+1) uT uD uC uI uL out) (hF:FRows w0 w5 N s1 s2 s3 s4 s5 q) (hX:X<N) (ho:∀ o∈[uT,uD,uC,uI,uL],∀ k,o.ownBlock=some k→k<N) (h1:manyP out≤96) (h2:manyP q≤96) (z:Int) (hz:(if 96<manyP (addP out q) then (3:Int) else 0)=z) :
    Calls Try.prog 31 #[.pointer (some ⟨X,0,none⟩),.agg #[s1,s2,s3,s4,s5]] (w5.alloc (.cells #[s1,s2,s3,s4,s5] 28)) fun e w'=>e=.returned (.int .i64 z)∧∃ tT tD tC tI tL,Blk w' X 28 #[tT,tD,tC,tI,tL]∧FRows w0 w' (X+1) tT tD tC tI tL (addP out q)∧Kp (fun k=>k=X∨X+1≤k) (w5.alloc (.cells #[s1,s2,s3,s4,s5] 28)) w':=by
 subst hz;exact add_any w0 (w5.alloc (.cells #[s1,s2,s3,s4,s5] 28)) (X+1) X uT uD uC uI uL out q s1 s2 s3 s4 s5 (hob.alloc _) (Nat.lt_succ_self _) (hob.alloc _).lt (hr.kp ((Kp.refl (fun _=>False) _).alloc _) (fun _ _ _ e=>e)) (made_pv hF hX ho) h1 (by omega)
theorem go_kp {w w2 w3:World} {bb mb:Nat} {o o2 o3:Obj} {v:Value} (hb:Below (w.alloc o).heap.size (w.alloc o) w2) (hg:((w2.setCell ⟨bb,0,none⟩ v).alloc o2).grownBy w3 (some mb)) (hbb:bb<w.heap.size):Kp (fun k=>k=bb∨k=mb) w (w3.alloc o3):=
 ((((Kp.of_below _ (below_in (below1 _ _) hb)).set (fun _=>.inl rfl) 0 v).alloc o2).then_grown hg (fun b e _=>by injection e with e;exact .inr e.symm)).alloc o3
theorem size_set (w:World) (p:Addr) (v:Value):(w.setCell p v).heap.size=w.heap.size:=by simp[World.setCell]
theorem text_cells {w:World} {A:Option Addr} {n c:Nat} {l:List ByteArray} (h:Vw Kd.string w (.slice A n c) l) (i:Nat) (x:ByteArray) (hx:l[i]?=some x) :
    ∃ ad,A=some ad∧w.cell? (ad.add i)=some (.string x):=by
 obtain⟨ad,cs,hA,hK,hcell0⟩:=h.at_ i x hx;have hcell:∀ j u,cs[j]?=some u→w.cell? (ad.add (i*1+j))=some u:=hcell0;have hK2:cs=[.string x]:=hK;subst hK2;exact⟨ad,hA,by simpa using hcell 0 _ rfl⟩
structure LRel (w0 w:World) (vT vD vC vI vL:Value) (p:ProgT) (bp bon bb bw mb k:Nat) (on:List ByteArray) (bs:List ByteArray) (r:Nat×Int×ProgT) (CB X:Nat) (cb:Array Value) (i g:Nat) (wr:World) (n:Nat) (out:ProgT) (uT uD uC uI uL:Value):Prop where
 le:i≤bs.length∧bs.length - i<g
 n96:n≤96
 o96:manyP out≤96
 run:basesS (wholeS p.comps k on) (bs.drop i) n out=some r
 st:WSt w0 wr vT vD vC vI vL p bp bon bb bw mb on n
 ob:Blk wr X 28 #[uT,uD,uC,uI,uL]
 rows:FRows w0 wr (X+1) uT uD uC uI uL out
 rb:Blk wr w.heap.size 28 #[.slice none 0 0,.slice none 0 0,.slice none 0 0,.slice none 0 0,.slice none 0 0]
 cbx:Blk wr CB 42 cb
 kp:Kp (fun k=>k=bb∨k=mb) w wr
theorem ret0 {P:Program} {fn:Func} {R:Ending→World→Prop} {tmps:Array Value} {w:World} {v:Value} (h:(results fn tmps).run P w=.ok v w) (hR:R (.returned v) w):bodyPostB P fn R .ret { tmps:=tmps,defers:=[] } w:=⟨v,h,hR⟩
theorem whole_none (w0 w:World) (vT vD vC vI vL:Value) (p:ProgT) (bp bon bb bw mb:Nat) (on:List ByteArray) (nm:ByteArray) (n:Nat) (h:WSt w0 w vT vD vC vI vL p bp bon bb bw mb on n) (hf:findC p.comps nm=none) :
    Calls Try.prog 29 #[.string nm,.pointer (some ⟨bp,0,none⟩),.pointer (some ⟨bon,0,none⟩),.pointer (some ⟨bb,0,none⟩),.pointer (some ⟨bw,0,none⟩)] w (WPost w0 w vT vD vC vI vL p bp bon bb bw mb on (n,6,prog0)):=by
 have H:=Lib.hid h;obtain⟨q0,q1,q2,q3,q4⟩:=five_cells h.box;have hltp:=h.box.lt;have HF:=Lib.hid (fun W (hb:Below w.heap.size w W)=>find_any w0 W p nm vT vD vC vI vL (h.pv.below (h.base.trans (hb.mono h.base.size))));rw[hf] at HF;clear h hf;refine calls_of_wp_builtins Try.func29 rfl ?_;simp only[Try.ntmps29,List.size_toArray,List.length_cons,List.length_nil,Nat.reduceAdd,Nat.reduceSub,Array.replicate_succ,Array.replicate_zero,List.push_toArray,List.append_toArray,List.nil_append,List.cons_append];go_wp2_with (first|(go_at_call 30;(with_reducible refine (HF.out _ (below1 _ _)).mono ?_);rintro e w2 ⟨hb,rfl⟩;have hbx:=(Blk.new w _ _).below hb (Blk.new w _ _).lt;have HBX:=Lib.hid hbx;have HB:=Lib.hid hb;have qc:=five_cells hbx;have qf:=five_frozen hbx;have hlt2:=hbx.lt;clear hb hbx))
 refine ret0 (results_ct rfl _ _ w.heap.size 28 #[.slice none 0 0,.slice none 0 0,.slice none 0 0,.slice none 0 0,.slice none 0 0] (0,0) _ rfl ?_ Try.underlying28 rfl (by kernel_rfl)) ?_
 · exact (five_blk HBX.out).alloc _
 · exact wfin H.out 6 (below_then5 HB.out)
theorem whole_ring (w0 w:World) (vT vD vC vI vL:Value) (p:ProgT) (bp bon bb bw mb:Nat) (on:List ByteArray) (nm:ByteArray) (n:Nat) (h:WSt w0 w vT vD vC vI vL p bp bon bb bw mb on n) (x:CompT) (hf:findC p.comps nm=some x) (hs:nm.size≤65536) (hon:hasS on nm=true) :
    Calls Try.prog 29 #[.string nm,.pointer (some ⟨bp,0,none⟩),.pointer (some ⟨bon,0,none⟩),.pointer (some ⟨bb,0,none⟩),.pointer (some ⟨bw,0,none⟩)] w (WPost w0 w vT vD vC vI vL p bp bon bb bw mb on (n,12,prog0)):=by
 have H:=Lib.hid h;obtain⟨q0,q1,q2,q3,q4⟩:=five_cells h.box;have hltp:=h.box.lt;have HF:=Lib.hid (fun W (hb:Below w.heap.size w W)=>find_any w0 W p nm vT vD vC vI vL (h.pv.below (h.base.trans (hb.mono h.base.size))));rw[hf] at HF;have HS:Hid (nm.size≤maxLen):=Lib.hid (Nat.le_trans hs (by decide));have HON:=Lib.hid hon;clear h hf hs hon;refine calls_of_wp_builtins Try.func29 rfl ?_;simp only[Try.ntmps29,List.size_toArray,List.length_cons,List.length_nil,Nat.reduceAdd,Nat.reduceSub,Array.replicate_succ,Array.replicate_zero,List.push_toArray,List.append_toArray,List.nil_append,List.cons_append];go_wp2_with (first|(go_at_call 30;(with_reducible refine (HF.out _ (below1 _ _)).mono ?_);rintro e w2 ⟨hb,vB,yT,yD,yC,yI,yL,rfl,hcv⟩;obtain⟨a1,b1,e1⟩:=hcv.bases.slice;subst e1;obtain⟨a2,b2,a3,b3,a4,b4,a5,b5,a6,b6,rfl,rfl,rfl,rfl,rfl⟩:=hcv.body.values;have HCV:=Lib.hid hcv;have hbx:=(Blk.new w _ _).below hb (Blk.new w _ _).lt;have HBX:=Lib.hid hbx;have HB:=Lib.hid hb;have qc:=five_cells hbx;have qf:=five_frozen hbx;have hlt2:=hbx.lt;have hst:=H.out.up (below_in (below1 _ _) hb);have HST:=Lib.hid hst;have qon:=hst.onb.cell 0;have lon:=hst.onb.lt;have qbb:=hst.bod.cell 0;have fbb:=hst.bod.frozen 0;have lbb:=hst.bod.lt;have lmb:=hst.ltm;simp only[List.getElem?_toArray,List.getElem?_cons_zero] at qon qbb;have hlk:=(fun (o:Obj)=>(hst.met.alloc o).get HS.out);rw[HON.out] at hlk;obtain⟨z1,z2,z3,z4,z5,z6,z7⟩:=hst.ne;clear hb hbx hcv hst))
 refine ret0 (results_ct rfl _ _ w.heap.size 28 #[.slice none 0 0,.slice none 0 0,.slice none 0 0,.slice none 0 0,.slice none 0 0] (0,0) _ rfl ?_ Try.underlying28 rfl (by kernel_rfl)) ?_
 · exact (five_blk HBX.out).alloc _
 · exact wfin H.out 12 (below_then5 HB.out)
theorem whole_many (w0 w:World) (vT vD vC vI vL:Value) (p:ProgT) (bp bon bb bw mb:Nat) (on:List ByteArray) (nm:ByteArray) (n:Nat) (h:WSt w0 w vT vD vC vI vL p bp bon bb bw mb on n) (x:CompT) (hf:findC p.comps nm=some x) (hs:nm.size≤65536) (hon:hasS on nm=false) (hn:96<n+1) (hn2:n≤96) :
    Calls Try.prog 29 #[.string nm,.pointer (some ⟨bp,0,none⟩),.pointer (some ⟨bon,0,none⟩),.pointer (some ⟨bb,0,none⟩),.pointer (some ⟨bw,0,none⟩)] w (WPost w0 w vT vD vC vI vL p bp bon bb bw mb on (n+1,3,prog0)):=by
 have H:=Lib.hid h;obtain⟨q0,q1,q2,q3,q4⟩:=five_cells h.box;have hltp:=h.box.lt;have HF:=Lib.hid (fun W (hb:Below w.heap.size w W)=>find_any w0 W p nm vT vD vC vI vL (h.pv.below (h.base.trans (hb.mono h.base.size))));rw[hf] at HF;have HS:Hid (nm.size≤maxLen):=Lib.hid (Nat.le_trans hs (by decide));have HON:=Lib.hid hon;have hwr0:wrap64 ((n:Int)+1)=((n+1:Nat):Int):=wrap_up n (by omega);have HME:=Lib.hid (fun (w2:World) (o o2:Obj) (a b c d e:Value) (hb:Below (w.alloc o).heap.size (w.alloc o) w2)=>many_end (o2:=o2) (a:=a) (b:=b) (c:=c) (d:=d) (e:=e) h hb);obtain⟨n1,hn1⟩:∃ n1,n+1=n1:=⟨_,rfl⟩;rw[hn1] at hwr0 HME ⊢;have hwr:=hwr0;have hgt:decide ((96:Int)<((n1:Nat):Int))=true:=decide_eq_true (by omega);have lb0:=h.bod.lt;have lb1:¬bb=w.heap.size:=(by omega);have lb2:¬w.heap.size=bb:=(by omega);clear h hf hs hon hn1 hwr0 hn hn2;refine calls_of_wp_builtins Try.func29 rfl ?_;simp only[Try.ntmps29,List.size_toArray,List.length_cons,List.length_nil,Nat.reduceAdd,Nat.reduceSub,Array.replicate_succ,Array.replicate_zero,List.push_toArray,List.append_toArray,List.nil_append,List.cons_append];go_wp2_with (first|(go_at_call 30;(with_reducible refine (HF.out _ (below1 _ _)).mono ?_);rintro e w2 ⟨hb,vB,yT,yD,yC,yI,yL,rfl,hcv⟩;obtain⟨a1,b1,e1⟩:=hcv.bases.slice;subst e1;obtain⟨a2,b2,a3,b3,a4,b4,a5,b5,a6,b6,rfl,rfl,rfl,rfl,rfl⟩:=hcv.body.values;have HCV:=Lib.hid hcv;have hbx:=(Blk.new w _ _).below hb (Blk.new w _ _).lt;have HBX:=Lib.hid hbx;have HB:=Lib.hid hb;have qc:=five_cells hbx;have qf:=five_frozen hbx;have hlt2:=hbx.lt;have hst:=H.out.up (below_in (below1 _ _) hb);have HST:=Lib.hid hst;have qon:=hst.onb.cell 0;have lon:=hst.onb.lt;have qbb:=hst.bod.cell 0;have fbb:=hst.bod.frozen 0;have lbb:=hst.bod.lt;have lmb:=hst.ltm;simp only[List.getElem?_toArray,List.getElem?_cons_zero] at qon qbb;have hlk:=(fun (o:Obj)=>(hst.met.alloc o).get HS.out);rw[HON.out] at hlk;obtain⟨z1,z2,z3,z4,z5,z6,z7⟩:=hst.ne;clear hb hbx hcv hst))
 refine ret0 (results_ct rfl _ _ w.heap.size 28 #[.slice none 0 0,.slice none 0 0,.slice none 0 0,.slice none 0 0,.slice none 0 0] (0,0) _ rfl ?_ Try.underlying28 rfl (by kernel_rfl)) ?_
 · exact (five_blk (HBX.out.far (p:=⟨bb,0,none⟩) (Nat.ne_of_gt H.out.bod.lt) _)).alloc _
 · exact wfin2 3 (HME.out _ _ _ _ _ _ _ _ HB.out).1 (HME.out _ _ _ _ _ _ _ _ HB.out).2
theorem whole_go (w0 w:World) (vT vD vC vI vL:Value) (p:ProgT) (bp bon bb bw mb:Nat) (on:List ByteArray) (nm:ByteArray) (n:Nat) (h:WSt w0 w vT vD vC vI vL p bp bon bb bw mb on n) (x:CompT) (hf:findC p.comps nm=some x) (hs:nm.size≤65536) (k:Nat) (ih:PW w0 vT vD vC vI vL p bp bon bb bw mb k) (hon:hasS on nm=false) (hn:n+1≤96) (hsx:CmpSize.OkC 65536 1048576 x) (r:Nat×Int×ProgT) (hb:basesS (wholeS p.comps k (nm :: on)) x.bases (n+1) prog0=some r) (res:Nat×Int×ProgT) (hres:res=if r.2.1≠0 then (r.1,r.2.1,prog0) else if 96<manyP (addP r.2.2 x.body) then (r.1,3,prog0) else (r.1,0,addP r.2.2 x.body)) :
    Calls Try.prog 29 #[.string nm,.pointer (some ⟨bp,0,none⟩),.pointer (some ⟨bon,0,none⟩),.pointer (some ⟨bb,0,none⟩),.pointer (some ⟨bw,0,none⟩)] w (WPost w0 w vT vD vC vI vL p bp bon bb bw mb on res):=by
 have H:=Lib.hid h;obtain⟨q0,q1,q2,q3,q4⟩:=five_cells h.box;have hltp:=h.box.lt;have HF:=Lib.hid (fun W (hb:Below w.heap.size w W)=>find_any w0 W p nm vT vD vC vI vL (h.pv.below (h.base.trans (hb.mono h.base.size))));rw[hf] at HF;have HS:Hid (nm.size≤maxLen):=Lib.hid (Nat.le_trans hs (by decide));have HON:=Lib.hid hon;have hwr0:wrap64 ((n:Int)+1)=((n+1:Nat):Int):=wrap_up n (by omega);have HCO:=Lib.hid (fun (W:World) (h:WSt w0 W vT vD vC vI vL p bp bon bb bw mb on n)=>h.count (n+1) (Nat.le_succ _));have HBS:=Lib.hid hb;have HIH:=Lib.hid ih;have HSX:=Lib.hid hsx;have HRES:=Lib.hid hres;have HON2:=Lib.hid hon;obtain⟨n1,hn1⟩:∃ n1,n+1=n1:=⟨_,rfl⟩;rw[hn1] at hwr0 HCO HBS;have hwr:=hwr0;have hgt:decide ((96:Int)<((n1:Nat):Int))=false:=decide_eq_false (by omega);have HNE:=Lib.hid hn1;have HN1:Hid (n<maxLen):=Lib.hid (Nat.lt_of_le_of_lt (show n≤96 by omega) (by decide));have HN96:Hid (n1≤96):=Lib.hid (by omega);have lb0:=h.bod.lt;have lb1:¬bb=w.heap.size:=(by omega);have lb2:¬w.heap.size=bb:=(by omega);have lm0:=h.ltm;have lm2:¬w.heap.size=mb:=(by omega);clear h hf hs hon hn1 hwr0 hn hb ih hsx hres;refine calls_of_wp_builtins Try.func29 rfl ?_;simp only[Try.ntmps29,List.size_toArray,List.length_cons,List.length_nil,Nat.reduceAdd,Nat.reduceSub,Array.replicate_succ,Array.replicate_zero,List.push_toArray,List.append_toArray,List.nil_append,List.cons_append];go_wp2_with (first|(go_at_call 30;(with_reducible refine (HF.out _ (below1 _ _)).mono ?_);rintro e w2 ⟨hb,vB,yT,yD,yC,yI,yL,rfl,hcv⟩;obtain⟨a1,b1,e1⟩:=hcv.bases.slice;subst e1;obtain⟨a2,b2,a3,b3,a4,b4,a5,b5,a6,b6,rfl,rfl,rfl,rfl,rfl⟩:=hcv.body.values;have HCV:=Lib.hid hcv;have hbx:=(Blk.new w _ _).below hb (Blk.new w _ _).lt;have HBX:=Lib.hid hbx;have HB:=Lib.hid hb;have qc:=five_cells hbx;have qf:=five_frozen hbx;have hlt2:=hbx.lt;have hst:=H.out.up (below_in (below1 _ _) hb);have HST:=Lib.hid hst;have qon:=hst.onb.cell 0;have lon:=hst.onb.lt;have qbb:=hst.bod.cell 0;have fbb:=hst.bod.frozen 0;have lbb:=hst.bod.lt;have lmb:=hst.ltm;simp only[List.getElem?_toArray,List.getElem?_cons_zero] at qon qbb;have hlk:=(fun (o:Obj)=>(hst.met.alloc o).get HS.out);rw[HON.out] at hlk;obtain⟨z1,z2,z3,z4,z5,z6,z7⟩:=hst.ne;have hst2:=HCO.out _ HST.out;have HST2:=Lib.hid hst2;obtain⟨w3,hput,hmet3,hgr3⟩:=((((Kp.refl (fun k=>k=bb) w2).set (fun _=>rfl) 0 (.int .i64 ((n1:Nat):Int))).met HST.out.met z7).alloc (.cells #[.string x.name,.slice a1 x.bases.length b1,.slice a2 x.body.types.length b2,.slice a3 x.body.decls.length b3,.slice a4 x.body.comps.length b4,.slice a5 x.body.inits.length b5,.slice a6 x.body.clauses.length b6,.int .i64 x.at_] 42)).put HN1.out HS.out;have HM3:=Lib.hid hmet3;have HG3:=Lib.hid hgr3;have HW3:=Lib.hid (go_state HST2.out HG3.out (HNE.out▸HM3.out));have HRB:=Lib.hid (((HBX.out.far (p:=⟨bb,0,none⟩) lb2 (.int .i64 ((n1:Nat):Int))).alloc _).grown HG3.out (fun e=>by injection e with e;exact lm2 e));have HCB:=Lib.hid ((Blk.new _ _ _).grown HG3.out (fun e=>by injection e with e;have:=HST2.out.ltm;omega));rw[size_set] at HCB;have HRB1:=HRB.out.lt;have HCB1:=HCB.out.lt;have qcb:=s8_cells HCB.out;have qon3:=HW3.out.onb.cell 0;have lon3:=HW3.out.onb.lt;simp only[List.getElem?_toArray,List.getElem?_cons_zero] at qon3;clear hb hbx hcv hst hst2 hmet3 hgr3 qc qf))
 have HL0:Hid (LRel w0 w vT vD vC vI vL p bp bon bb bw mb k (nm :: on) x.bases r w2.heap.size w3.heap.size #[.string x.name,.slice a1 x.bases.length b1,.slice a2 x.body.types.length b2,.slice a3 x.body.decls.length b3,.slice a4 x.body.comps.length b4,.slice a5 x.body.inits.length b5,.slice a6 x.body.clauses.length b6,.int .i64 x.at_] 0 (x.bases.length+1) (w3.alloc (.cells #[.slice none 0 0,.slice none 0 0,.slice none 0 0,.slice none 0 0,.slice none 0 0] 28)) n1 prog0 (.slice none 0 0) (.slice none 0 0) (.slice none 0 0) (.slice none 0 0) (.slice none 0 0)):=Lib.hid ⟨⟨Nat.zero_le _,by omega⟩,HN96.out,Nat.zero_le _,HBS.out,HW3.out.up (below1 _ _),Blk.new _ _ _,FRows.nil _ _ _,HRB.out.alloc _,HCB.out.alloc _,go_kp HB.out HG3.out lb0⟩;have HX3:Hid (w.heap.size<w3.heap.size∧w2.heap.size<w3.heap.size):=Lib.hid ⟨HRB1,HCB1⟩;have HX4:Hid (w.heap.size<w2.heap.size):=Lib.hid hlt2;obtain⟨CB,hCB⟩:∃ CB,w2.heap.size=CB:=⟨_,rfl⟩;obtain⟨X,hX⟩:∃ X,w3.heap.size=X:=⟨_,rfl⟩;rw[hCB,hX] at HL0 HX3;rw[hCB] at HX4;have HW:=Lib.hid H.out;obtain⟨L,hL⟩:∃ L,x.bases.length=L:=⟨_,rfl⟩;have HLL:=Lib.hid hL;simp only[hCB,hX,hL];rw[hL] at HL0;have HAC:=Lib.hid HCV.out;rw[hL] at HAC;clear hCB hX hL HST2 HM3 HG3 HRB HCB HRB1 HCB1 qcb qon3 lon3 HBX HB hlt2 HST lon lbb lmb qon qbb fbb hlk z1 z2 z3 z4 z5 z6 z7 hput HW3 HCO hwr hgt lb0 lb1 lb2 lm0 lm2 HCV;go_loopg [43] (L+1) (fun g v43 wr=>∃ i:Nat,v43=.int .i64 (i:Int)∧∃ n out uT uD uC uI uL,Hid (LRel w0 w vT vD vC vI vL p bp bon bb bw mb k (nm :: on) x.bases r CB X #[.string x.name,.slice a1 L b1,.slice a2 x.body.types.length b2,.slice a3 x.body.decls.length b3,.slice a4 x.body.comps.length b4,.slice a5 x.body.inits.length b5,.slice a6 x.body.clauses.length b6,.int .i64 x.at_] i g wr n out uT uD uC uI uL))
 case atStart=>exact⟨0,rfl,_,_,_,_,_,_,_,HL0⟩
 case round=>
  obtain⟨i,rfl,m,out,uT,uD,uC,uI,uL,HI⟩:=hrel;by_cases hi:i<L
  · have hib:decide (i<L)=true:=decide_eq_true hi;obtain⟨b,hx⟩:∃ t,x.bases[i]?=some t:=⟨x.bases[i]'(by rw[HLL.out];exact hi),by simp⟩;obtain⟨ad,rfl,hcell⟩:=text_cells (HAC.out.bases.below (HI.out.st.base)) i b hx;have hbs:=HSX.out.bases b (List.mem_of_getElem? hx);obtain⟨m1,z,q,hc1,hc2,hc3,hc4⟩:=bases_at hx HI.out.run;have HC:=Lib.hid (HIH.out wr (nm :: on) b m _ HI.out.st hc1 HI.out.n96 hbs);have HC1:=Lib.hid hc1;have HC2:=Lib.hid hc2;have HC3:=Lib.hid hc3;have HC4:=Lib.hid hc4;obtain⟨tw,hwb⟩:=HI.out.st.whl;have qw:=hwb.cell 0;simp only[List.getElem?_toArray,List.getElem?_cons_zero] at qw;have hi0:(0:Int)≤(i:Int):=(by omega);have hi1:(i:Int)<(L:Int):=(by omega);clear hx hbs hc1 hc2 hc3 hc4 hwb;by_cases hz:z=0;rotate_left
    · have hz1:(z==0)=false:=(by simpa using hz);have hz2:(z != 0)=true:=(by simpa using hz);have hres:res=(m1,z,prog0):=(by rw[HRES.out,HC2.out hz];simp[hz]);subst hres;clear hz;go_wp2_with (first|(go_at_call 29;(with_reducible refine (HC.out).mono ?_);rintro e w5 ⟨yT,yD,yC,yI,yL,rfl,hF5,hst5,hK5⟩;obtain⟨g1,f1,g2,f2,g3,f3,g4,f4,g5,f5,rfl,rfl,rfl,rfl,rfl⟩:=hF5.view.values;have HF5:=Lib.hid hF5;have HST5:=Lib.hid hst5;have HK5:=Lib.hid hK5;have HR5:=Lib.hid (hK5.blk HI.out.rb (by have:=HW.out.bod.lt;have:=HW.out.ltm;omega));have qc:=five_cells HR5.out;have qf:=five_frozen HR5.out;have lr5:=HR5.out.lt;have HP5:=Lib.hid (HI.out.kp.trans hK5 (fun _ _ h=>h));clear hF5 hst5 hK5))
      have HE:=fend (c1:=.slice none 0 0) (c2:=.slice none 0 0) (c3:=.slice none 0 0) (c4:=.slice none 0 0) (c5:=.slice none 0 0) HW.out HST5.out HP5.out HR5.out;exact door z _ (HE.1.up (below1 _ _)) (HE.2.1.alloc _) (HE.2.2.alloc _) (FRows.nil _ _ _) HW.out.ltm HON.out HS.out rfl rfl
    · subst hz;have HQ96:=Lib.hid (wholeS_le p.comps k _ _ _ _ _ HC1.out HI.out.n96).2;by_cases hmany:96<manyP (addP out q)
      · have HMANY:=Lib.hid hmany;have hres:res=(m1,3,prog0):=(by rw[HRES.out,HC3.out rfl hmany];simp);subst hres;clear hmany
        go_wp2_with (first
         | (go_at_call 29;(with_reducible refine (HC.out).mono ?_);rintro e w5 ⟨yT,yD,yC,yI,yL,rfl,hF5,hst5,hK5⟩;obtain⟨g1,f1,g2,f2,g3,f3,g4,f4,g5,f5,rfl,rfl,rfl,rfl,rfl⟩:=hF5.view.values;have HF5:=Lib.hid hF5;have HST5:=Lib.hid hst5;have HK5:=Lib.hid hK5;have HR5:=Lib.hid (hK5.blk HI.out.rb (by have:=HW.out.bod.lt;have:=HW.out.ltm;omega));have qc:=five_cells HR5.out;have qf:=five_frozen HR5.out;have lr5:=HR5.out.lt;have HP5:=Lib.hid (HI.out.kp.trans hK5 (fun _ _ h=>h));have HCB5:=Lib.hid (hK5.blk HI.out.cbx (by have:=HW.out.bod.lt;have:=HW.out.ltm;have:=HX4.out;omega));have hob5:=hK5.blk HI.out.ob (by have:=HW.out.bod.lt;have:=HW.out.ltm;have:=HX3.out;omega);have lx5:=hob5.lt;have hr5:=HI.out.rows.kp hK5 (fun k hk _ e=>by have:=HW.out.bod.lt;have:=HW.out.ltm;have:=HX3.out;omega);have HADD:=Lib.hid (add_made hob5 hr5 hF5 HI.out.ob.lt (fun o ho k e=>Nat.lt_of_not_le (fun hk=>HI.out.rows.newer k hk o ho e)) HI.out.o96 HQ96.out _ (if_pos HMANY.out));clear hob5 hr5;clear hF5 hst5 hK5)
         | (go_at_call 31;(with_reducible refine (HADD.out).mono ?_);rintro e w6 ⟨rfl,tT,tD,tC,tI,tL,hB6,hF6,hK6⟩;have HA6:=Lib.hid (after HW.out (HST5.out.up (below1 _ _)) (HP5.out.alloc _) (HR5.out.alloc _) (HCB5.out.alloc _) HX3.out hK6);have HB6:=Lib.hid hB6;have HF6:=Lib.hid hF6;have qc:=five_cells HA6.out.2.2.1;have qf:=five_frozen HA6.out.2.2.1;have lr6:=HA6.out.2.2.1.lt;clear hB6 hF6 hK6))
        have HE:=fend (c1:=.slice none 0 0) (c2:=.slice none 0 0) (c3:=.slice none 0 0) (c4:=.slice none 0 0) (c5:=.slice none 0 0) HW.out HA6.out.1 HA6.out.2.1 HA6.out.2.2.1;exact door 3 _ HE.1 HE.2.1 HE.2.2 (FRows.nil _ _ _) HW.out.ltm HON.out HS.out rfl rfl
      · have HMANY:=Lib.hid hmany;clear hmany
        go_wp2_with (first
         | (go_at_call 29;(with_reducible refine (HC.out).mono ?_);rintro e w5 ⟨yT,yD,yC,yI,yL,rfl,hF5,hst5,hK5⟩;obtain⟨g1,f1,g2,f2,g3,f3,g4,f4,g5,f5,rfl,rfl,rfl,rfl,rfl⟩:=hF5.view.values;have HF5:=Lib.hid hF5;have HST5:=Lib.hid hst5;have HK5:=Lib.hid hK5;have HR5:=Lib.hid (hK5.blk HI.out.rb (by have:=HW.out.bod.lt;have:=HW.out.ltm;omega));have qc:=five_cells HR5.out;have qf:=five_frozen HR5.out;have lr5:=HR5.out.lt;have HP5:=Lib.hid (HI.out.kp.trans hK5 (fun _ _ h=>h));have HCB5:=Lib.hid (hK5.blk HI.out.cbx (by have:=HW.out.bod.lt;have:=HW.out.ltm;have:=HX4.out;omega));have hob5:=hK5.blk HI.out.ob (by have:=HW.out.bod.lt;have:=HW.out.ltm;have:=HX3.out;omega);have lx5:=hob5.lt;have hr5:=HI.out.rows.kp hK5 (fun k hk _ e=>by have:=HW.out.bod.lt;have:=HW.out.ltm;have:=HX3.out;omega);have HADD:=Lib.hid (add_made hob5 hr5 hF5 HI.out.ob.lt (fun o ho k e=>Nat.lt_of_not_le (fun hk=>HI.out.rows.newer k hk o ho e)) HI.out.o96 HQ96.out _ (if_neg HMANY.out));clear hob5 hr5;clear hF5 hst5 hK5)
         | (go_at_call 31;(with_reducible refine (HADD.out).mono ?_);rintro e w6 ⟨rfl,tT,tD,tC,tI,tL,hB6,hF6,hK6⟩;have HA6:=Lib.hid (after HW.out (HST5.out.up (below1 _ _)) (HP5.out.alloc _) (HR5.out.alloc _) (HCB5.out.alloc _) HX3.out hK6);have HB6:=Lib.hid hB6;have HF6:=Lib.hid hF6;have qc:=five_cells HA6.out.2.2.1;have qf:=five_frozen HA6.out.2.2.1;have lr6:=HA6.out.2.2.1.lt;clear hB6 hF6 hK6))
        go_roundg (L - i)
        all_goals first
         | (have:=HI.out.le.2;have:=HLL.out;omega)
         | exact⟨i+1,by rw[wrap_up i (by have:=HSX.out.len;have:=HLL.out;omega)],m1,addP out q,_,_,_,_,_,Lib.hid ⟨⟨by have:=HLL.out;omega,by have:=HLL.out;omega⟩,(wholeS_le p.comps k _ _ _ _ _ HC1.out HI.out.n96).1,by have:=HMANY.out;omega,HC4.out (by simp) HMANY.out,HA6.out.1,HB6.out,HF6.out,HA6.out.2.2.1,HA6.out.2.2.2,HA6.out.2.1⟩⟩
  · have hib:decide (i<L)=false:=decide_eq_false hi;have hiL:i=L:=(by have:=HI.out.le.1;have:=HLL.out;omega);have hr:r=(m,0,out):=by
     have:=HI.out.run;rw[List.drop_eq_nil_of_le (by have:=HLL.out;omega)] at this;injection this with this
     exact this.symm
    have HRR:=Lib.hid hr;obtain⟨cc0,cc1,cc2,cc3,cc4,cc5,cc6,cc7⟩:=s8_cells HI.out.cbx;have lcb:=HI.out.cbx.lt;have HADD:=Lib.hid (add_any w0 wr (X+1) X uT uD uC uI uL out x.body _ _ _ _ _ HI.out.ob (Nat.lt_succ_self _) HI.out.ob.lt HI.out.rows (body_pv HAC.out.body HI.out.st.base (by have:=HW.out.size;have:=HX3.out.1;omega) HI.out.rows) HI.out.o96 HSX.out.body.many);have HAF:=Lib.hid (fun w6 (hk:Kp (fun k=>k=X∨X+1≤k) wr w6)=>after HW.out HI.out.st HI.out.kp HI.out.rb HI.out.cbx HX3.out hk);clear hr hi hiL;by_cases hmany:96<manyP (addP out x.body)
    · have hres:res=(m,3,prog0):=(by rw[HRES.out,HRR.out];simp[hmany]);rw[if_pos hmany] at HADD;subst hres;clear hmany;go_wp2_with (first|(go_at_call 31;(with_reducible refine (HADD.out).mono ?_);rintro e w6 ⟨rfl,tT,tD,tC,tI,tL,hB6,hF6,hK6⟩;have HA6:=Lib.hid (HAF.out w6 hK6);have qc:=five_cells HA6.out.2.2.1;have qf:=five_frozen HA6.out.2.2.1;clear hB6 hF6 hK6))
      have HE:=fend (c1:=.slice none 0 0) (c2:=.slice none 0 0) (c3:=.slice none 0 0) (c4:=.slice none 0 0) (c5:=.slice none 0 0) HW.out HA6.out.1 HA6.out.2.1 HA6.out.2.2.1;exact door 3 _ HE.1 HE.2.1 HE.2.2 (FRows.nil _ _ _) HW.out.ltm HON.out HS.out rfl rfl
    · have hres:res=(m,0,addP out x.body):=(by rw[HRES.out,HRR.out];simp[hmany]);rw[if_neg hmany] at HADD;subst hres;clear hmany;go_wp2_with (first|(go_at_call 31;(with_reducible refine (HADD.out).mono ?_);rintro e w6 ⟨rfl,tT,tD,tC,tI,tL,hB6,hF6,hK6⟩;have HA6:=Lib.hid (HAF.out w6 hK6);obtain⟨g1,f1,g2,f2,g3,f3,g4,f4,g5,f5,rfl,rfl,rfl,rfl,rfl⟩:=hF6.view.values;have HF6:=Lib.hid hF6;have qc:=five_cells HA6.out.2.2.1;have qf:=five_frozen HA6.out.2.2.1;have qo:=five_cells hB6;clear hB6 hF6 hK6))
      have HE:=fend (c1:=.slice g1 (addP out x.body).types.length f1) (c2:=.slice g2 (addP out x.body).decls.length f2) (c3:=.slice g3 (addP out x.body).comps.length f3) (c4:=.slice g4 (addP out x.body).inits.length f4) (c5:=.slice g5 (addP out x.body).clauses.length f5) HW.out HA6.out.1 HA6.out.2.1 HA6.out.2.2.1;have hR:FRows w0 (five w6 w.heap.size (.slice g1 (addP out x.body).types.length f1) (.slice g2 (addP out x.body).decls.length f2) (.slice g3 (addP out x.body).comps.length f3) (.slice g4 (addP out x.body).inits.length f4) (.slice g5 (addP out x.body).clauses.length f5)) w.heap.size _ _ _ _ _ (addP out x.body):=(HF6.out.kp (kp_five (Kp.refl (fun k=>k=w.heap.size) _) (fun _=>rfl)) (fun k hk _ e=>by have:=HX3.out.1;omega)).lower (by have:=HX3.out.1;omega);exact door 0 _ HE.1 HE.2.1 HE.2.2 hR HW.out.ltm HON.out HS.out rfl rfl
end Go.Proofs.Ytddmceldglelkaa.CmpWhole
namespace Go.Proofs.Ytddmceldglelkaa.CmpWholeOf
open Go Go.RowKit RefPure RefKinds RefMem RefSameP CmpPure CmpMem CmpFind CmpAdd CmpDefer CmpWhole RefCells RefExpr YtddmceldglelkaaW.PrintWords
theorem pw_all (w0:World) (vT vD vC vI vL:Value) (p:ProgT) (bp bon bb bw mb:Nat) (hp:CmpSize.Small p):∀ k,PW w0 vT vD vC vI vL p bp bon bb bw mb k:=by
 intro k;induction k with
 | zero=>intro w on nm n r h hr;cases hr
 | succ k ih=>
   intro w on nm n r h hr hn hs;unfold wholeS at hr;cases hf:findC p.comps nm with
   | none=>
     rw[hf] at hr;injection hr with hr
     subst hr;exact whole_none w0 w vT vD vC vI vL p bp bon bb bw mb on nm n h hf
   | some x=>
     rw[hf] at hr;simp only at hr;cases hon:hasS on nm with
     | true=>
       rw[if_pos hon] at hr;injection hr with hr
       subst hr;exact whole_ring w0 w vT vD vC vI vL p bp bon bb bw mb on nm n h x hf hs hon
     | false=>
       rw[if_neg (by rw[hon];simp)] at hr;by_cases hm:96<n+1
       · rw[if_pos hm] at hr;injection hr with hr
         subst hr;exact whole_many w0 w vT vD vC vI vL p bp bon bb bw mb on nm n h x hf hs hon hm hn
       · rw[if_neg hm] at hr;cases hb:basesS (wholeS p.comps k (nm :: on)) x.bases (n+1) prog0 with
         | none=>rw[hb] at hr;cases hr
         | some t=>
           rw[hb] at hr;refine whole_go w0 w vT vD vC vI vL p bp bon bb bw mb on nm n h x hf hs k ih hon (by omega) (hp.comps x (findC_mem hf).1) t hb r ?_;obtain⟨m,e,out⟩:=t;simp only at hr ⊢;split at hr
           · next he=>rw[if_pos he];injection hr with hr;exact hr.symm
           · next he=>
             rw[if_neg he];split at hr
             · next h9=>rw[if_pos h9];injection hr with hr;exact hr.symm
             · next h9=>rw[if_neg h9];injection hr with hr;exact hr.symm
theorem wst_new {w0 w:World} {vT vD vC vI vL:Value} {p:ProgT} (hv:PV w0 w0 vT vD vC vI vL p) (hb:Below w0.heap.size w0 w) (tf:TypeId):WSt w0 ((((((w.alloc (.cells #[vT,vD,vC,vI,vL] 28)).alloc (.cells #[.slice none 0 0,.slice none 0 0,.slice none 0 0,.slice none 0 0,.slice none 0 0] 28)).alloc (.map #[] 0)).alloc (.cells #[.map (some (w.heap.size+1+1))] 85)).alloc (.cells #[.int .i64 0] 3)).alloc (.cells #[.func (.func 29) #[] #[.pointer (some ⟨w.heap.size,0,none⟩),.pointer (some ⟨w.heap.size+1+1+1,0,none⟩),.pointer (some ⟨w.heap.size+1+1+1+1,0,none⟩),.pointer (some ⟨w.heap.size+1+1+1+1+1,0,none⟩)]] tf)) vT vD vC vI vL p w.heap.size (w.heap.size+1+1+1) (w.heap.size+1+1+1+1) (w.heap.size+1+1+1+1+1) (w.heap.size+1+1) [] 0:=by
 have h4:∀ o o1 o2 o3:Obj,((((w.alloc o).alloc o1).alloc o2).alloc o3).heap.size=w.heap.size+1+1+1+1:=fun o o1 o2 o3=>(by rw[size1,size1,size1,size1]);have hs:=hb.size;refine⟨hb.trans ((((below4 w _ _ _ _).alloc (below4 w _ _ _ _).size _).alloc ((below4 w _ _ _ _).alloc (below4 w _ _ _ _).size _).size _).mono hs),hv,((((((Blk.new w _ _).alloc _).alloc _).alloc _).alloc _).alloc _),((blk_new3 w _ _ _ _ _).alloc _).alloc _,?_,⟨tf,?_⟩,?_,⟨by omega,by omega⟩,⟨by omega,by omega,by omega,by omega,by omega,by omega,by omega⟩⟩
 · have:=blk_new3 (w.alloc (.cells #[vT,vD,vC,vI,vL] 28)) (.cells #[.slice none 0 0,.slice none 0 0,.slice none 0 0,.slice none 0 0,.slice none 0 0] 28) (.map #[] 0) (.cells #[.map (some (w.heap.size+1+1))] 85) 3 #[.int .i64 0];rw[size1] at this;exact this.alloc _
 · have:=blk_new3 ((w.alloc (.cells #[vT,vD,vC,vI,vL] 28)).alloc (.cells #[.slice none 0 0,.slice none 0 0,.slice none 0 0,.slice none 0 0,.slice none 0 0] 28)) (.map #[] 0) (.cells #[.map (some (w.heap.size+1+1))] 85) (.cells #[.int .i64 0] 3) tf #[.func (.func 29) #[] #[.pointer (some ⟨w.heap.size,0,none⟩),.pointer (some ⟨w.heap.size+1+1+1,0,none⟩),.pointer (some ⟨w.heap.size+1+1+1+1,0,none⟩),.pointer (some ⟨w.heap.size+1+1+1+1+1,0,none⟩)]];rw[size1,size1] at this;exact this
 · have:=((((CmpMap.Met.made ((w.alloc (.cells #[vT,vD,vC,vI,vL] 28)).alloc (.cells #[.slice none 0 0,.slice none 0 0,.slice none 0 0,.slice none 0 0,.slice none 0 0] 28))).alloc (.cells #[.map (some (w.heap.size+1+1))] 85)).alloc (.cells #[.int .i64 0] 3)).alloc (.cells #[.func (.func 29) #[] #[.pointer (some ⟨w.heap.size,0,none⟩),.pointer (some ⟨w.heap.size+1+1+1,0,none⟩),.pointer (some ⟨w.heap.size+1+1+1+1,0,none⟩),.pointer (some ⟨w.heap.size+1+1+1+1+1,0,none⟩)]] tf));rw[size1,size1] at this;exact this
def WholePost (w0 w:World) (z:Int) (q:ProgT) (e:Ending) (w':World):Prop:=
 ∃ uT uD uC uI uL,e=.returned (.tuple #[.agg #[uT,uD,uC,uI,uL],.int .i64 z])∧FRows w0 w' w.heap.size uT uD uC uI uL q∧Below w.heap.size w w'
theorem whole_end {w0 w w2:World} {o1 o2 o3 o4 o5 o6:Obj} {z:Int} {q:ProgT} {c1 c2 c3 c4 c5:Value} (hF:FRows w0 w2 ((((((w.alloc o1).alloc o2).alloc o3).alloc o4).alloc o5).alloc o6).heap.size c1 c2 c3 c4 c5 q) (hK:Kp (fun k=>k=w.heap.size+1+1+1+1∨k=w.heap.size+1+1) ((((((w.alloc o1).alloc o2).alloc o3).alloc o4).alloc o5).alloc o6) w2) :
    WholePost w0 w z q (.returned (.tuple #[.agg #[c1,c2,c3,c4,c5],.int .i64 z])) (five w2 (w.heap.size+1) c1 c2 c3 c4 c5):=by
 have hs:((((((w.alloc o1).alloc o2).alloc o3).alloc o4).alloc o5).alloc o6).heap.size=w.heap.size+1+1+1+1+1+1:=(by rw[size1,size1,size1,size1,size1,size1]);have h6:Below w.heap.size w ((((((w.alloc o1).alloc o2).alloc o3).alloc o4).alloc o5).alloc o6):=((below4 w _ _ _ _).alloc (below4 w _ _ _ _).size _).alloc ((below4 w _ _ _ _).alloc (below4 w _ _ _ _).size _).size _;have hb:Below w.heap.size w w2:=hK.below2 h6 (fun k hl hs=>by omega) h6.size;rw[hs] at hF;exact⟨_,_,_,_,_,rfl,(hF.kp (kp_five (Kp.refl (fun k=>k=w.heap.size+1) _) (fun _=>rfl)) (fun k hk _ e=>by omega)).lower (by omega),five_below hb (Nat.le_succ _)⟩
theorem whole_any (w0 w:World) (vT vD vC vI vL:Value) (p:ProgT) (hp:CmpSize.Small p) (hv:PV w0 w0 vT vD vC vI vL p) (hb:Below w0.heap.size w0 w) (nm:ByteArray) (hs:nm.size≤65536) (z:Int) (q:ProgT) (hw:wholeOf p.comps nm=some (z,q)) :
    Calls Try.prog 11 #[.agg #[vT,vD,vC,vI,vL],.string nm] w (WholePost w0 w z q):=by
 unfold wholeOf at hw;obtain⟨⟨m0,z0,q0⟩,hr,hrz⟩:=Option.map_eq_some_iff.1 hw;simp only[Prod.mk.injEq] at hrz;obtain⟨rfl,rfl⟩:=hrz;have HR:=Lib.hid hr;have HV:=Lib.hid hv;have HB:=Lib.hid hb;have HS:=Lib.hid hs;have HP:=Lib.hid hp;clear hw hr hv hb hs hp;have HC:=Lib.hid (fun tf=>pw_all w0 vT vD vC vI vL p w.heap.size (w.heap.size+1+1+1) (w.heap.size+1+1+1+1) (w.heap.size+1+1+1+1+1) (w.heap.size+1+1) HP.out (p.comps.length+1) _ [] nm 0 (m0,z0,q0) (wst_new HV.out HB.out tf) HR.out (by omega) HS.out);have hmf:∀ (fn:Fn) (first cap:Array Value) (w:World),(Instr.makeFunc fn first cap).run Try.prog w=.ok (.func fn first cap) w:=fun _ _ _ _=>rfl;have hmk:∀ W:World,(Instr.makeMap 85 none).run Try.prog W=.ok (.map (some W.heap.size)) (W.alloc (.map #[] 0)):=fun W=>(by kernel_rfl);have hst:∀ (a:Addr) (c:Array Value) (W:World),(store a (.func (.func 29) #[] c)).run Try.prog W=stored Try.prog W a (.func (.func 29) #[] c) .plain:=fun a c W=>run_store Try.prog W a _ _ rfl;go_enter Try.func11,Try.ntmps11;go_wp2_with (first|(go_at_call 29;(with_reducible refine (HC.out _).mono ?_);rintro e w2 ⟨uT,uD,uC,uI,uL,rfl,hF,hst,hK⟩;obtain⟨g1,f1,g2,f2,g3,f3,g4,f4,g5,f5,rfl,rfl,rfl,rfl,rfl⟩:=hF.view.values;have HF:=Lib.hid hF;have HK:=Lib.hid hK;have hrb:=Lib.hid (hK.blk ((((((blk_new1 w _ _ _).alloc _).alloc _).alloc _).alloc _)) (by omega));have qc:=five_cells hrb.out;have qf:=five_frozen hrb.out;clear hF hst hK))
 refine bodyPost_ret (results_ct rfl _ _ (w.heap.size+1) 28 #[.slice g1 q0.types.length f1,.slice g2 q0.decls.length f2,.slice g3 q0.comps.length f3,.slice g4 q0.inits.length f4,.slice g5 q0.clauses.length f5] (0,0) _ rfl ?_ Try.underlying28 rfl (by kernel_rfl)) rfl ?_
 · exact five_blk hrb.out
 · exact whole_end HF.out HK.out
end Go.Proofs.Ytddmceldglelkaa.CmpWholeOf
namespace Go.Proofs.Ytddmceldglelkaa.CmpInst
open Go Go.RowKit RefPure RefKinds RefMem RefSameP CmpPure CmpMem CmpKinds CmpFind CmpName CmpClause CmpRule CmpWholeOf RefExpr RefCells YtddmceldglelkaaW.PrintWords
def Ch (g:Nat) (oD oL:Value) (k:Nat):Prop:=k=g∨oD.ownBlock=some k∨oL.ownBlock=some k
structure FlS (w0 w:World) (vT vD vC vI vL:Value) (p:ProgT) (g n0:Nat) (oT oD oL:Value) (tl:List TDecl) (o:Out):Prop where
 bs:Below w0.heap.size w0 w
 pv:PV w0 w0 vT vD vC vI vL p
 fl:Fl w g vT vD vC vI vL oT oD (.slice none 0 0) (.slice none 0 0) oL 0 0 ((o.made:Nat):Int)
 t:(Kd.fixed kTDecl w0).R 73 w n0 (fun b=>Off n0 [oD,oL] b∧b≠g) oT tl
 d:(Kd.fixed kDecl w0).R 46 w n0 (fun b=>Off n0 [oT,oL] b∧b≠g) oD o.decls
 l:(mL w0).R 54 w n0 (fun b=>Off n0 [oT,oD] b∧b≠g) oL o.clauses
 lo:w0.heap.size≤n0∧n0≤w.heap.size∧w0.heap.size≤g
 len:o.decls.length≤1048576∧o.clauses.length≤1048576∧o.made≤96
section
variable {w0 w w1:World} {vT vD vC vI vL:Value} {p:ProgT} {g n0:Nat} {oT oD oL:Value} {tl:List TDecl} {o:Out} {S S':Nat→Prop}
theorem FlS.size (h:FlS w0 w vT vD vC vI vL p g n0 oT oD oL tl o):w0.heap.size≤w.heap.size:=h.bs.size
theorem FlS.kp (h:FlS w0 w vT vD vC vI vL p g n0 oT oD oL tl o) (hk:Kp S w w1) (hS:∀ k,k<w.heap.size→S k→False):FlS w0 w1 vT vD vC vI vL p g n0 oT oD oL tl o:=
 ⟨h.bs.trans (hk.below (fun k hl hs=>hS k (Nat.lt_of_lt_of_le hl h.size) hs) h.size),h.pv,hk.blk h.fl (fun q=>hS _ (Blk.lt h.fl) q),hk.R h.t (fun k _ hl q=>hS k hl q),hk.R h.d (fun k _ hl q=>hS k hl q),hk.R h.l (fun k _ hl q=>hS k hl q),⟨h.lo.1,Nat.le_trans h.lo.2.1 hk.size,h.lo.2.2⟩,h.len⟩
theorem FlS.up (h:FlS w0 w vT vD vC vI vL p g n0 oT oD oL tl o) (hb:Below w.heap.size w w1):FlS w0 w1 vT vD vC vI vL p g n0 oT oD oL tl o:=h.kp (Kp.of_below (fun _=>False) hb) (fun _ _ q=>q)
theorem FlS.old (h:FlS w0 w vT vD vC vI vL p g n0 oT oD oL tl o) (k:Nat) (hk:Ch g oD oL k):w0.heap.size≤k∧k<w.heap.size:=by
 rcases hk with rfl|hk|hk
 · exact⟨h.lo.2.2,Blk.lt h.fl⟩
 · exact⟨Nat.le_trans h.lo.1 (Kd.R_base h.d k hk),Kd.R_lt h.d k hk⟩
 · exact⟨Nat.le_trans h.lo.1 (Kd.R_base h.l k hk),Kd.R_lt h.l k hk⟩
end
theorem Kp.Rm {α:Type} {d:Kd α} {e base:Nat} {ok S:Nat→Prop} {w w1:World} {v:Value} {xs:List α} (h:Kp S w w1) (hR:d.R e w base ok v xs) (hS:∀ k,S k→∃ es c,w.heap[k]?=some (.map es c)):d.R e w1 base ok v xs:=
 Kd.R_mono (Kd.R_move (Kd.R_bound hR) (fun k hk=>h.block k hk.2.2.1 (fun q=>by obtain⟨es,c,h1⟩:=hS k q;obtain⟨_,_,cells,h2⟩:=hk.2.2.2;rw[h1] at h2;cases h2))) (fun k hk=>hk.1)
theorem FlS.kpm {w0 w w1:World} {vT vD vC vI vL:Value} {p:ProgT} {g n0:Nat} {oT oD oL:Value} {tl:List TDecl} {o:Out} {S:Nat→Prop} (h:FlS w0 w vT vD vC vI vL p g n0 oT oD oL tl o) (hk:Kp S w w1) (hS:∀ k,S k→∃ es c,w.heap[k]?=some (.map es c)) (hlo:∀ k,S k→w0.heap.size≤k):FlS w0 w1 vT vD vC vI vL p g n0 oT oD oL tl o:=
 ⟨h.bs.trans (hk.below (fun k hl hs=>by have:=hlo k hs;omega) h.size),h.pv,hk.blk h.fl (fun q=>by obtain⟨es,c,h1⟩:=hS _ q;have h2:=h.fl;unfold Fl Blk at h2;rw[h1] at h2;cases h2),Kp.Rm hk h.t hS,Kp.Rm hk h.d hS,Kp.Rm hk h.l hS,⟨h.lo.1,Nat.le_trans h.lo.2.1 hk.size,h.lo.2.2⟩,h.len⟩
theorem met_map {w:World} {b m:Nat} {l:List ByteArray} (h:CmpMap.Met w b m l):∃ es c,w.heap[b]?=some (.map es c):=by obtain⟨D,⟨es,ck,h1,_⟩,_⟩:=h;exact⟨es,ck,h1⟩
theorem FailPost.all {S S':Nat→Prop} {g:Nat} {why at_:Int} {w w1 w2:World} {e:Ending} (h:FailPost S g why at_ w1 e w2) (hk:Kp S' w w1) (hS:∀ b,b<w.heap.size→S b→S' b):FailPost S' g why at_ w e w2:=⟨h.1,hk.trans h.2.1 hS,h.2.2⟩
def Body (w0 w:World) (S:Nat→Prop) (b1 b2 b3 b4 b5:Value) (b:ProgT):Prop:=∀ W,Kp S w W→PV w0 W b1 b2 b3 b4 b5 b
def Way (w:World) (S:Nat→Prop) (v:Value) (l:List ByteArray):Prop:=(∀ W,Kp S w W→Vw Kd.string W v l)∧∀ A n c ad,v=.slice A n c→A=some ad→ad.spot=none
theorem Body.step {w0 w w1:World} {S S1:Nat→Prop} {b1 b2 b3 b4 b5:Value} {b:ProgT} (h:Body w0 w S b1 b2 b3 b4 b5 b) (hk:Kp S w w1) (hS:∀ k,k<w.heap.size→S1 k→S k):Body w0 w1 S1 b1 b2 b3 b4 b5 b:=fun W hW=>h W (hk.trans hW hS)
theorem Way.step {w w1:World} {S S1:Nat→Prop} {v:Value} {l:List ByteArray} (h:Way w S v l) (hk:Kp S w w1) (hS:∀ k,k<w.heap.size→S1 k→S k):Way w1 S1 v l:=⟨fun W hW=>h.1 W (hk.trans hW hS),h.2⟩
def IPost (w0 w:World) (vT vD vC vI vL:Value) (p:ProgT) (g n0:Nat) (oT oD oL:Value) (tl:List TDecl) (r:Except (Int×Int) Out) (e:Ending) (w':World):Prop:=
 match r with
 | .error z=>FailPost (Ch g oD oL) g z.1 z.2 w e w'
 | .ok o'=>e=.returned (.bool true)∧∃ oD' oL',FlS w0 w' vT vD vC vI vL p g n0 oT oD' oL' tl o'∧Kp (Ch g oD oL) w w'∧∀ k,Ch g oD' oL' k→Ch g oD oL k∨w.heap.size≤k
def PInst (w0:World) (vT vD vC vI vL:Value) (p:ProgT) (g n0:Nat) (oT:Value) (tl:List TDecl) (k:Nat):Prop:=
 ∀ w oD oL b b1 b2 b3 b4 b5 pre at_ way vW o r,FlS w0 w vT vD vC vI vL p g n0 oT oD oL tl o→Body w0 w (Ch g oD oL) b1 b2 b3 b4 b5 b→Way w (Ch g oD oL) vW way→CmpSize.OkP 65536 1048576 b→pre.size≤65537*way.length→(∀ x∈way,x.size≤65536)→k+way.length≤1048580→
  instS (wholeOf p.comps) k b pre at_ way o=some r→
  Calls Try.prog 57 #[.pointer (some ⟨g,0,none⟩),.agg #[b1,b2,b3,b4,b5],.string pre,.int .i64 at_,vW] w (IPost w0 w vT vD vC vI vL p g n0 oT oD oL tl r)
def PInits (w0:World) (vT vD vC vI vL:Value) (p:ProgT) (g n0:Nat) (oT:Value) (tl:List TDecl) (k:Nat):Prop:=
 ∀ w oD oL b b1 b2 b3 b4 b5 pre way vW o r,FlS w0 w vT vD vC vI vL p g n0 oT oD oL tl o→Body w0 w (Ch g oD oL) b1 b2 b3 b4 b5 b→Way w (Ch g oD oL) vW way→CmpSize.OkP 65536 1048576 b→pre.size≤65537*way.length→(∀ x∈way,x.size≤65536)→k+way.length+1≤1048580→
  initsS (wholeOf p.comps) (instS (wholeOf p.comps) k) pre way b.inits (names b.decls).reverse o=some r→
  Calls Try.prog 22 #[.pointer (some ⟨g,0,none⟩),.agg #[b1,b2,b3,b4,b5],.string pre,vW] w (IPost w0 w vT vD vC vI vL p g n0 oT oD oL tl r)
theorem basesS_small (f:ByteArray→Nat→Option (Nat×Int×ProgT)) (hf:∀ b n m q,f b n=some (m,0,q)→CmpSize.OkP 65536 1048576 q):∀ (l:List ByteArray) (n:Nat) (out:ProgT) (m:Nat) (q:ProgT),CmpSize.OkP 65536 1048576 out→basesS f l n out=some (m,0,q)→CmpSize.OkP 65536 1048576 q:=by
 intro l;induction l with
 | nil=>intro n out m q ho h;injection h with h;simp only[Prod.mk.injEq] at h;obtain⟨_,_,rfl⟩:=h;exact ho
 | cons b l ih=>intro n out m q ho h;obtain⟨m1,q1,e1,hm,e2⟩:=CmpBases.basesS_ok h;refine ih _ _ _ _ (addP_small ho (hf _ _ _ _ e1) (by omega)) e2
 where addP_small {a b:ProgT} (ha:CmpSize.OkP 65536 1048576 a) (hb:CmpSize.OkP 65536 1048576 b) (hm:manyP (addP a b)≤1048576):CmpSize.OkP 65536 1048576 (addP a b):=
 ⟨hm,fun d hd=>(List.mem_append.1 hd).elim (ha.decls d) (hb.decls d),fun d hd=>(List.mem_append.1 hd).elim (ha.inits d) (hb.inits d),fun d hd=>(List.mem_append.1 hd).elim (ha.clauses d) (hb.clauses d)⟩
theorem wholeS_small {cs:List CompT} (hs:∀ c∈cs,CmpSize.OkC 65536 1048576 c):∀ (k:Nat) (on:List ByteArray) (nm:ByteArray) (n m:Nat) (q:ProgT),wholeS cs k on nm n=some (m,0,q)→CmpSize.OkP 65536 1048576 q:=by
 intro k;induction k with
 | zero=>intro on nm n m q h;cases h
 | succ k ih=>
   intro on nm n m q h;obtain⟨j,c,out,hj,hc,_,_,hb,hm,hq⟩:=CmpBases.wholeS_ok h;injection hj with hj
   subst hj;rw[hq];exact basesS_small.addP_small (basesS_small _ (fun b n m q=>ih _ b n m q) _ _ _ _ _ CmpSize.Small.zero.body hb) (hs c (findC_mem hc).1).body (by omega)
theorem wholeOf_small {p:ProgT} (hp:CmpSize.Small p) {nm:ByteArray} {q:ProgT} (h:wholeOf p.comps nm=some (0,q)):CmpSize.OkP 65536 1048576 q∧manyP q≤96:=by unfold wholeOf at h;obtain⟨⟨m,e,q'⟩,h1,h2⟩:=Option.map_eq_some_iff.1 h;simp only[Prod.mk.injEq] at h2;obtain⟨rfl,rfl⟩:=h2;exact⟨wholeS_small hp.comps _ _ _ _ _ _ h1,by have:=CmpBases.wholeS_many h1;omega⟩
end Go.Proofs.Ytddmceldglelkaa.CmpInst
namespace Go.Proofs.Ytddmceldglelkaa.CmpContains
open Go Go.RowKit RefPure RefKinds RefMem RefSameP CmpPure CmpMem CmpKinds CmpFind CmpInst YtddmceldglelkaaW.PrintWords
theorem containsS_has (l:List ByteArray) (s:ByteArray):Lib.containsS l s=hasS l s:=by rw[Bool.eq_iff_iff,Lib.containsS_iff,hasS_iff]
theorem contains_any (w:World) (A:Option Addr) (c:Nat) (l:List ByteArray) (s:ByteArray) (hv:Vw Kd.string w (.slice A l.length c) l) (hA:∀ ad,A=some ad→ad.spot=none) (hl:l.length≤1048580):Calls Try.prog 56 #[.slice A l.length c,.string s] w fun e w'=>e=.returned (.bool (hasS l s))∧w'=w:=by
 rcases l with _|⟨x,l⟩
 · exact Try.slices_Contains_string_empty A c s w
 · obtain⟨ad,cs,rfl,_,_⟩:=hv.at_ 0 x rfl;obtain⟨b,off,sp⟩:=ad;have hsp:=hA _ rfl;simp only at hsp;subst hsp;have:=Try.slices_Contains_string b off (x :: l).length c (x :: l) s w (Nat.le_refl _) (Nat.le_trans hl (by decide)) (fun j hj=>by
    obtain⟨ad,cs,hA2,hK,hcell⟩:=hv.at_ j _ (List.getElem?_eq_getElem hj);injection hA2 with hA2
    subst hA2;have hK2:cs=[.string (x :: l)[j]]:=hK;subst hK2;have h0:w.cell? (Addr.add ⟨b,off,none⟩ (j*1+0))=_:=hcell 0 _ rfl;rw[Addr.add_lit,Nat.mul_one,Nat.add_zero] at h0;rw[h0,List.getD_eq_getElem?_getD,List.getElem?_eq_getElem hj];rfl)
   rw[List.take_length,containsS_has] at this;exact this
theorem inits_at {whole:ByteArray→Option (Int×ProgT)} {inst:ProgT→ByteArray→Int→List ByteArray→Out→Option (Except (Int×Int) Out)} {pre:ByteArray} {way:List ByteArray} {l:List InitT} {i:Nat} {met:List ByteArray} {o:Out} {r:Except (Int×Int) Out} {x:InitT} (hx:l[i]?=some x) (h:initsS whole inst pre way (l.drop i) met o=some r) :
    (hasS met x.name=true→r=.error (11,x.at_))∧(hasS met x.name=false→∃ z q,whole x.comp=some (z,q)∧(z≠0→r=.error (z,x.at_))∧(z=0→hasS way x.comp=true→r=.error (12,x.at_))∧(z=0→hasS way x.comp=false→∃ t,inst q (dot pre x.name) x.at_ (way++[x.comp]) o=some t∧(∀ e,t=.error e→r=.error e)∧(∀ o',t=.ok o'→initsS whole inst pre way (l.drop (i+1)) (x.name :: met) o'=some r))):=by
 obtain⟨hi,rfl⟩:=List.getElem?_eq_some_iff.1 hx;rw[List.drop_eq_getElem_cons hi] at h;unfold initsS at h;refine⟨fun hm=>?_,fun hm=>?_⟩
 · rw[if_pos hm] at h;injection h with h
   exact h.symm
 · rw[if_neg (by rw[hm];simp)] at h;cases hw:whole l[i].comp with
   | none=>rw[hw] at h;cases h
   | some t=>
     obtain⟨z,q⟩:=t;rw[hw] at h;simp only at h;refine⟨z,q,rfl,fun hz=>?_,fun hz hc=>?_,fun hz hc=>?_⟩
     · rw[if_pos hz] at h;injection h with h;exact h.symm
     · rw[if_neg (by simpa using hz),if_pos hc] at h;injection h with h;exact h.symm
     · rw[if_neg (by simpa using hz),if_neg (by rw[hc];simp)] at h;cases hi2:inst q (dot pre l[i].name) l[i].at_ (way++[l[i].comp]) o with
       | none=>rw[hi2] at h;cases h
       | some t=>
         rw[hi2] at h;refine⟨t,rfl,fun e he=>?_,fun o' he=>?_⟩
         · subst he;injection h with h;exact h.symm
         · subst he;exact h
end Go.Proofs.Ytddmceldglelkaa.CmpContains
