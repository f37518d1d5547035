/- A claim's texts, in the order of what they need: CmpClause. -/
import Derived.Test.YtddmceldglelkaaBCompBases28
import Derived.StillTailTactics
set_option maxRecDepth 100000
set_option maxHeartbeats 8000000
set_option linter.unusedVariables false
set_option linter.unusedSimpArgs false
set_option linter.unusedSectionVars false
namespace Go.Proofs.Ytddmceldglelkaa
namespace CmpClause
open Go Go.RowKit RefPure RefKinds RefMem RefSameP CmpPure CmpMem CmpKinds CmpClone CmpCopied CmpName RefExpr YtddmceldglelkaaW.PrintWords
theorem set_back (cur:Array Value) (k:Nat) (u old:Value) (h:cur[k]?=some old):(cur.setIfInBounds k u).setIfInBounds k old=cur:=by
 obtain⟨hk,e⟩:=Array.getElem?_eq_some_iff.1 h;refine Array.ext_getElem? fun i=>?_;by_cases e2:k=i
 · subst e2;rw[h];simp[hk]
 · simp[Array.getElem?_setIfInBounds,e2]
theorem put_back {α:Type} {d:Kd α} {e base:Nat} {ok okp:Nat→Prop} {w1 wF:World} {G n c:Nat} {xs:List α} {cur:Array Value} (h:d.R e w1 base ok (.slice (some ⟨G,0,none⟩) n c) xs) (hk:Kp (fun k=>k=G) w1 wF) (hB:Blk w1 G e cur) (i j:Nat) (u:Value)
    (hF:Blk wF G e (cur.setIfInBounds (i*d.sz+j) u)) (hi:i<xs.length) (cs:List Value) (hcl:cs.length=d.sz) (hcell:∀ j v,cs[j]?=some v→w1.cell? ⟨G,i*d.sz+j,none⟩=some v) (hj:j<d.sz) (x':α) (hM:d.M wF base okp x' (cs.take j++[u]++cs.drop (j+1))) (hokp:∀ k,okp k→ok k∧k≠G) :
    d.R e wF base ok (.slice (some ⟨G,0,none⟩) n c) (xs.set i x'):=by
 obtain⟨old,ho⟩:∃ old,cs[j]?=some old:=⟨cs[j]'(by omega),by simp⟩;have hco:cur[i*d.sz+j]?=some old:=(by rw[← hB.cell];exact hcell j old ho);have hW:Blk (wF.setCell ⟨G,i*d.sz+j,none⟩ old) G e cur:=(by have:=hF.set_ (i*d.sz+j) old;rwa [set_back _ _ _ _ hco] at this);have hfar:∀ k,k≠G→(wF.setCell ⟨G,i*d.sz+j,none⟩ old).heap[k]?=wF.heap[k]?:=fun k hne=>Below.heap_setCell wF ⟨G,i*d.sz+j,none⟩ old k hne;have hRW:d.R e (wF.setCell ⟨G,i*d.sz+j,none⟩ old) base ok (.slice (some ⟨G,0,none⟩) n c) xs:=R_like h (fun k _ hl=>by
  by_cases hne:k=G
  · subst hne;unfold Blk at hW hB;rw[hW,hB]
  · rw[hfar k hne];exact hk.block k hl hne)
 have hn:=(Kd.R_reads' h).1;have hM2:d.M (wF.setCell ⟨G,i*d.sz+j,none⟩ old) base okp x' (cs.take j++[u]++cs.drop (j+1)):=d.M_move (fun k hk2=>hfar k (hokp k hk2).2) hM;have hseg:=(Kd.R_seg hRW (i:Int) (by omega) (by omega) (c:=cs) (seg:=[u]) (j:=j) hcl (fun j v hv=>by show (wF.setCell ⟨G,i*d.sz+_,none⟩ old).cell? ⟨G,(i:Int).toNat*d.sz+j,none⟩=_;rw[hW.cell];rw[← hB.cell];exact hcell j v hv) (by simp only[List.length_singleton];omega) hM2 hokp).1;refine R_like hseg (fun k _ hl=>?_);show wF.heap[k]?=((wF.setCell ⟨G,i*d.sz+j,none⟩ old).setCell ⟨G,i*d.sz+j,none⟩ u).heap[k]?;by_cases hne:k=G
 · subst hne;have h1:=hW.set_ (i*d.sz+j) u;unfold Blk at h1 hF;rw[h1,hF]
 · rw[Below.heap_setCell _ ⟨G,i*d.sz+j,none⟩ u k hne,hfar k hne]
theorem Nm.blk {w w':World} {A j:Nat} {n:ByteArray} {t:TypeId} {cur:Array Value} (h:Nm w A j n w') (hB:Blk w A t cur):Blk w' A t (cur.setIfInBounds j (.string n)):=by have h1:=hB.set_ j (.string n);unfold Blk at h1 ⊢;rw[h.at_,h1]
theorem head_row {w0 w W w2:World} {G n c base i:Nat} {ok:Nat→Prop} {l:List (ClauseT×Bool)} {x:ClauseT} {va vb:Value} {n1:ByteArray} {cur:Array Value} (hr:(xL w0).R 54 w base ok (.slice (some ⟨G,0,none⟩) n c) l) (hx:l[i]?=some (x,false)) (hb:Below w.heap.size w W) (hN:Nm W G (i*5) n1 w2) (hB:Blk w G 54 cur)
    (hcell:∀ j u,([.string x.head.rel,va,.int .i64 x.head.at_,vb,.int .i64 x.at_]:List Value)[j]?=some u→w.cell? ⟨G,i*(xL w0).sz+j,none⟩=some u) (hva:Vw kEx w0 va x.head.args) (hvb:Vw kLit w0 vb x.body) :
    (xL w0).R 54 w2 base ok (.slice (some ⟨G,0,none⟩) n c) (l.set i (⟨⟨n1,x.head.args,x.head.at_⟩,x.body,x.at_⟩,false)):=by
 obtain⟨A,ca,rfl,h1,h2⟩:=hva;obtain⟨B,cb,rfl,h3,h4⟩:=hvb;have hBW:=hB.below hb hB.lt;exact put_back (okp:=fun _=>False) (Kd.R_below hr hb) hN.kp hBW i 0 (.string n1) (Nm.blk hN hBW) (Zq hx).1 _ rfl (fun j v hj=>(hb.cell (p:=⟨G,i*(xL w0).sz+j,none⟩) hB.lt).trans (hcell j v hj)) (show 0<5 by decide) _ (kClause_mk w0 ⟨⟨n1,x.head.args,x.head.at_⟩,x.body,x.at_⟩ h1 h2 h3 h4) (fun _ q=>q.elim)
theorem body_row {w0 w2 wr:World} {G n c base i:Nat} {ok:Nat→Prop} {l:List (ClauseT×Bool)} {x:ClauseT} {b:List LitT} {va vb v5:Value} {cur:Array Value} (hr:(xL w0).R 54 w2 base ok (.slice (some ⟨G,0,none⟩) n c) (l.set i (x,false))) (hi:i<l.length) (hk:Kp (fun k=>k=G) w2 wr) (hB:Blk w2 G 54 cur) (hF:Blk wr G 54 (cur.setIfInBounds (i*5+3) v5))
    (hcell:∀ j u,([.string x.head.rel,va,.int .i64 x.head.at_,vb,.int .i64 x.at_]:List Value)[j]?=some u→w2.cell? ⟨G,i*(xL w0).sz+j,none⟩=some u) (hva:Vw kEx w0 va x.head.args) (h5:(Kd.fixed kLit w0).R 58 wr w2.heap.size (fun k=>w2.heap.size≤k) v5 b) (hbase:base≤w2.heap.size) (hok:∀ k,w2.heap.size≤k→ok k) :
    (xL w0).R 54 wr base ok (.slice (some ⟨G,0,none⟩) n c) (l.set i (⟨x.head,b,x.at_⟩,true)):=by
 have:=put_back (okp:=fun k=>w2.heap.size≤k) hr hk hB i 3 v5 hF (by rw[List.length_set];exact hi) _ rfl hcell (show 3<5 by decide) (⟨x.head,b,x.at_⟩,true) (mL_mkM ⟨x.head,b,x.at_⟩ hva (Kd.R_lower h5 hbase)) (fun k hk=>⟨hok k hk,by have:=hB.lt;omega⟩);rwa [List.set_set] at this
theorem head_cells {w0 w w2:World} {G i:Nat} {x:ClauseT} {va vb:Value} {n1:ByteArray} {cur:Array Value} (hB:Blk w G 54 cur) (h2:Blk w2 G 54 (cur.setIfInBounds (i*5) (.string n1))) (hcell:∀ j u,([.string x.head.rel,va,.int .i64 x.head.at_,vb,.int .i64 x.at_]:List Value)[j]?=some u→w.cell? ⟨G,i*(xL w0).sz+j,none⟩=some u) :
    ∀ j u,([.string n1,va,.int .i64 x.head.at_,vb,.int .i64 x.at_]:List Value)[j]?=some u→w2.cell? ⟨G,i*(xL w0).sz+j,none⟩=some u:=by
 intro j u hj;show w2.cell? ⟨G,i*5+j,none⟩=some u;rw[h2.cell];rcases j with _|j
 · have h0:=hcell 0 _ rfl;rw[hB.cell] at h0;have hlt:=(Array.getElem?_eq_some_iff.1 h0).1;have hu:.string n1=u:=(by simpa using hj);rw[← hu];exact Array.getElem?_setIfInBounds_self_of_lt hlt
 · rw[Array.getElem?_setIfInBounds_ne (by omega),← hB.cell];exact hcell (j+1) u (by simpa using hj)
theorem kp_cell {S:Nat→Prop} {w w1:World} (h:Kp S w w1) {b j:Nat} (hb:b<w.heap.size) (hS:¬S b):w1.cell? ⟨b,j,none⟩=w.cell? ⟨b,j,none⟩:=by have:=h.block b hb hS;simp only[World.cell?,this]
structure LitS (N k X:Nat) (kd at_:Int) (pre:ByteArray) (mb:Nat) (W:World):Prop where
 c0:W.cell? ⟨N,k*16,none⟩=some (.int .i64 kd)
 c3:W.cell? ⟨N,k*16+3,none⟩=some (.int .i64 at_)
 s0:W.cell? ⟨X,0,none⟩=some (.string pre)
 s1:W.cell? ⟨X,1,none⟩=some (.map (some mb))
theorem LitS.drew {N k X:Nat} {kd at_:Int} {pre:ByteArray} {mb:Nat} {W:World} (h:LitS N k X kd at_ pre mb W):LitS N k X kd at_ pre mb W.drew:=⟨h.c0,h.c3,h.s0,h.s1⟩
theorem LitS.rules {N k X:Nat} {kd at_:Int} {pre:ByteArray} {mb:Nat} {W:World} (_:LitS N k X kd at_ pre mb W):∀ V,LitS N k X kd at_ pre mb V→V.cell? ⟨N,k*16,none⟩=some (.int .i64 kd)∧V.cell? ⟨N,k*16+3,none⟩=some (.int .i64 at_)∧V.cell? ⟨X,0,none⟩=some (.string pre)∧V.cell? ⟨X,1,none⟩=some (.map (some mb)):=fun _ h=>⟨h.c0,h.c3,h.s0,h.s1⟩
theorem LitS.fail {N k X g:Nat} {kd at_:Int} {pre:ByteArray} {mb:Nat} {W w6:World} (h:LitS N k X kd at_ pre mb W) (hk:Kp (fun b=>b=g) W w6) (hN:N<W.heap.size) (hNg:N≠g) (hX:X<W.heap.size) (hXg:X≠g):LitS N k X kd at_ pre mb w6:=
 ⟨(kp_cell hk hN hNg).trans h.c0,(kp_cell hk hN hNg).trans h.c3,(kp_cell hk hX hXg).trans h.s0,(kp_cell hk hX hXg).trans h.s1⟩
theorem LitS.named {N k X:Nat} {kd at_:Int} {pre n2:ByteArray} {mb:Nat} {W w6:World} {t:TypeId} {cur:Array Value} (h:LitS N k X kd at_ pre mb W) (hN:Nm W N (k*16+1) n2 w6) (hB:Blk W N t cur) (hX:X<W.heap.size) (hXN:X≠N):LitS N k X kd at_ pre mb w6:=by
 have h6:=Nm.blk hN hB;refine⟨?_,?_,(kp_cell hN.kp hX hXN).trans h.s0,(kp_cell hN.kp hX hXN).trans h.s1⟩
 · rw[h6.cell,Array.getElem?_setIfInBounds_ne (by omega),← hB.cell];exact h.c0
 · rw[h6.cell,Array.getElem?_setIfInBounds_ne (by omega),← hB.cell];exact h.c3
theorem lit_row {w0 wr W w6:World} {N n c base k:Nat} {ok:Nat→Prop} {l:List LitT} {y:LitT} {n1:ByteArray} {cur:Array Value} {cs:List Value} (hr:(Kd.fixed kLit w0).R 58 wr base ok (.slice (some ⟨N,0,none⟩) n c) l) (hx:l[k]?=some y) (hb:Below wr.heap.size wr W) (hN:Nm W N (k*16+1) n1 w6) (hB:Blk wr N 58 cur)
    (hcs:kLit.K w0 y cs) (hcell:∀ j u,cs[j]?=some u→wr.cell? ⟨N,k*(Kd.fixed kLit w0).sz+j,none⟩=some u) :
    (Kd.fixed kLit w0).R 58 w6 base ok (.slice (some ⟨N,0,none⟩) n c) (l.set k { y with atom:={ y.atom with rel:=n1 } }):=by
 have hBW:=hB.below hb hB.lt;obtain⟨A,ca,B,cb,C,cc,rfl,h1,h2,h3,h4,h5,h6⟩:=kLit_open hcs;exact put_back (okp:=fun _=>False) (Kd.R_below hr hb) hN.kp hBW k 1 (.string n1) (Nm.blk hN hBW) (Zq hx).1 _ rfl (fun j v hj=>(hb.cell (p:=⟨N,k*(Kd.fixed kLit w0).sz+j,none⟩) hB.lt).trans (hcell j v hj)) (show 1<16 by decide) _ (kLit_mk w0 { y with atom:={ y.atom with rel:=n1 } } h1 h2 h3 h4 h5 h6) (fun _ q=>q.elim)
theorem mid_at {α:Type} {done l:List α} {k:Nat} {y:α} (hd:done.length=k) (hx:l[k]?=some y):(done++l.drop k)[k]?=some y:=by rw[List.getElem?_append_right (by omega),hd,Nat.sub_self,List.getElem?_drop,Nat.add_zero,hx]
theorem mid_set {α:Type} {done l:List α} {k:Nat} {x y:α} (hd:done.length=k) (hx:l[k]?=some x):(done++l.drop k).set k y=(done++[y])++l.drop (k+1):=by obtain⟨hi,_⟩:=Zq hx;rw[List.set_append_right _ _ (by omega),hd,Nat.sub_self,List.drop_eq_getElem_cons hi,List.set_cons_zero,List.append_assoc];rfl
theorem mid_same {α:Type} {done l:List α} {k:Nat} {x:α} (hx:l[k]?=some x):done++l.drop k=(done++[x])++l.drop (k+1):=by obtain⟨hi,rfl⟩:=Zq hx;rw[List.drop_eq_getElem_cons hi,List.append_assoc];rfl
theorem take_one {α:Type} {l:List α} {k:Nat} {x:α} (hx:l[k]?=some x):l.take (k+1)=l.take k++[x]:=by rw[List.take_add_one,hx];rfl
theorem take_split {α:Type} {l:List α} {k:Nat} {x:α} (hx:l[k]?=some x):l=l.take k++x :: l.drop (k+1):=by obtain⟨hi,rfl⟩:=Zq hx;rw[← List.drop_eq_getElem_cons hi,List.take_append_drop]
def ClausePost (w0 w:World) (g G n c base:Nat) (ok:Nat→Prop) (l:List (ClauseT×Bool)) (i:Nat) (r:Except (Int×Int) ClauseT) (e:Ending) (w':World):Prop:=
 match r with
 | .error z=>FailPost (fun k=>k=g∨k=G) g z.1 z.2 w e w'
 | .ok y=>e=.returned (.bool true)∧(xL w0).R 54 w' base ok (.slice (some ⟨G,0,none⟩) n c) (l.set i (y,true))∧Kp (fun k=>k=G) w w'
structure CSt (w0 w:World) (g G n c base:Nat) (ok:Nat→Prop) (l:List (ClauseT×Bool)) (i:Nat) (x:ClauseT) (vT vD vC vI vL oT oD oC oI oL:Value) (why at_ made:Int) (mb m:Nat) (own:List ByteArray) (pre:ByteArray):Prop where
 bs:Below w0.heap.size w0 w
 fl:Fl w g vT vD vC vI vL oT oD oC oI oL why at_ made
 met:CmpMap.Met w mb m own
 row:(xL w0).R 54 w base ok (.slice (some ⟨G,0,none⟩) n c) l
 at_i:l[i]?=some (x,false)
 ne:g≠G∧mb≠G
 gold:w0.heap.size≤G
 blk:∃ cur,Blk w G 54 cur
 fresh:∀ k,w.heap.size≤k→ok k
 old:base≤w.heap.size
 pre_:pre.size≤1099511627776
 small:CmpSize.OkCl 65536 1048576 x
theorem clause_head (w0 w:World) (g G n c base:Nat) (ok:Nat→Prop) (l:List (ClauseT×Bool)) (i:Nat) (x:ClauseT) (vT vD vC vI vL oT oD oC oI oL:Value) (why at_ made:Int) (mb m:Nat) (own:List ByteArray) (pre:ByteArray) (h:CSt w0 w g G n c base ok l i x vT vD vC vI vL oT oD oC oI oL why at_ made mb m own pre) (hn:nameS pre own x.head.rel=none) :
    Calls Try.prog 78 #[.pointer (some ⟨g,0,none⟩),.agg #[.string pre,.map (some mb)],.pointer (some ⟨G,i*5,none⟩)] w (ClausePost w0 w g G n c base ok l i (.error (2,x.head.at_))):=by
 have H:=Za h;obtain⟨cs,hM,hcl,hcell⟩:=made_at h.row i _ h.at_i;obtain⟨va,vb,rfl,hva,hvb⟩:=kL_open hM;obtain⟨cur,hblk⟩:=h.blk;have c0:w.cell? ⟨G,i*5,none⟩=some (.string x.head.rel):=hcell 0 _ rfl;have c2:w.cell? ⟨G,i*5+2,none⟩=some (.int .i64 x.head.at_):=hcell 2 _ rfl;have lG:=hblk.lt;have HN:=Za (fun W (hb:Below w.heap.size w W)=>name_any W g G (i*5) mb m vT vD vC vI vL oT oD oC oI oL why at_ made (h.fl.below hb) pre x.head.rel own x.head.at_ ((Kp.of_below (fun _=>False) hb).met h.met (fun q=>q)) h.small.head _ cur (hblk.below hb hblk.lt) (by rw[← hblk.cell];exact c0) h.pre_);rw[hn] at HN;clear h hn hM hcl hcell hva hvb hblk;go_enter Try.func78,Try.ntmps78;go_wp2;go_region_law (first|(go_simp;go_wp2_with (first|(go_at_call 77;(with_reducible refine (HN.out _ (below1 _ _).drew).mono ?_);rintro e w2 ⟨rfl,hk,h10,h11⟩;have HK:=Za hk;have H10:=Za h10;have H11:=Za h11;clear hk h10 h11))))
 (all_goals go_wp2);(all_goals go_ret);all_goals exact⟨rfl,(Kp.of_below _ (below1 _ _).drew).trans HK.out (fun _ _ q=>.inl q),H10.out,H11.out⟩
theorem clause_go (w0 w:World) (g G n c base:Nat) (ok:Nat→Prop) (l:List (ClauseT×Bool)) (i:Nat) (x:ClauseT) (vT vD vC vI vL oT oD oC oI oL:Value) (why at_ made:Int) (mb m:Nat) (own:List ByteArray) (pre:ByteArray) (h:CSt w0 w g G n c base ok l i x vT vD vC vI vL oT oD oC oI oL why at_ made mb m own pre) (n1:ByteArray) (hn:nameS pre own x.head.rel=some n1) (r:Except (Int×Int) ClauseT) (hr:r=match allS (litS pre own) x.body with|.error z=>.error z|.ok b=>.ok ⟨⟨n1,x.head.args,x.head.at_⟩,b,x.at_⟩) :
    Calls Try.prog 78 #[.pointer (some ⟨g,0,none⟩),.agg #[.string pre,.map (some mb)],.pointer (some ⟨G,i*5,none⟩)] w (ClausePost w0 w g G n c base ok l i r):=by
 have H:=Za h;have HRES:=Za hr;obtain⟨cs,hM,hcl,hcell⟩:=made_at h.row i _ h.at_i;obtain⟨va,vb,rfl,hva,hvb⟩:=kL_open hM;obtain⟨cur,hblk⟩:=h.blk;obtain⟨ab,cb,rfl⟩:=hvb.slice;have c0:w.cell? ⟨G,i*5,none⟩=some (.string x.head.rel):=hcell 0 _ rfl;have c2:w.cell? ⟨G,i*5+2,none⟩=some (.int .i64 x.head.at_):=hcell 2 _ rfl;have c3:w.cell? ⟨G,i*5+3,none⟩=some (.slice ab x.body.length cb):=hcell 3 _ rfl;have lG:=hblk.lt;have HN:=Za (fun W (hb:Below w.heap.size w W)=>name_any W g G (i*5) mb m vT vD vC vI vL oT oD oC oI oL why at_ made (h.fl.below hb) pre x.head.rel own x.head.at_ ((Kp.of_below (fun _=>False) hb).met h.met (fun q=>q)) h.small.head _ cur (hblk.below hb hblk.lt) (by rw[← hblk.cell];exact c0) h.pre_);rw[hn] at HN;have HBK:=Za hblk;have HC3:=Za c3;have HCE:=Za hcell;have HVA:=Za hva;have HVB:=Za hvb;clear h hn hM hcl hcell hva hvb hblk c3 hr;go_enter Try.func78,Try.ntmps78;go_wp2;go_region_law (first|(go_simp;go_wp2_with (first|(go_at_call 77;(with_reducible refine (HN.out _ (below1 _ _).drew).mono ?_);rintro e w2 ⟨rfl,hnm⟩;have HNM:=Za hnm;clear hnm))))
 (all_goals (revert w2));(all_goals refine ?rest);intro w2 HNM;have hB2:=Nm.blk HNM.out ((HBK.out.alloc _).drew);have hq3:w2.cell? ⟨G,i*5+3,none⟩=some (.slice ab x.body.length cb):=by rw[hB2.cell,Array.getElem?_setIfInBounds_ne (by omega),← HBK.out.cell];exact HC3.out
 have hS2:Blk w2 w.heap.size 133 #[.string pre,.map (some mb)]:=HNM.out.kp.blk (Blk.new w _ _).drew (by omega);have HB2:=Za hB2;have HS2:=Za hS2;have hb2:Below w0.heap.size w0 w2:=HNM.out.kp.below2 (H.out.bs.trans ((below1 _ _).drew.mono H.out.bs.size)) (fun k hk e=>by have:=H.out.gold;omega) (Ze H.out.bs.size (below1 _ _).size);have hg2:=hB2.lt;have hs2:=hS2.lt;have hf2:=hB2.frozen (i*5+3);have HCL:=Za (fun W (hb:Below w2.heap.size w2 W)=>lits_any w0 W _ x.body (((vw_fixed HVB.out).below hb2).below hb) H.out.small.len);have HB02:=Za hb2;clear hB2 hS2 hb2 c0 c2 lG;go_wp2_with (first|(go_at_call 54;(with_reducible refine (HCL.out _ (Below.refl _ _)).mono ?_);rintro e w5 ⟨v5,rfl,hr5,hb5⟩;obtain⟨a5,d5,e5⟩:=Kd.R_slice hr5;subst e5;have HR5:=Za hr5;have HB5:=Za hb5;have c35:=(hb5.cell (p:=⟨G,i*5+3,none⟩) hg2).trans hq3;have f35:=(hb5.frozen (p:=⟨G,i*5+3,none⟩) hg2).trans hf2;have g35:=Nat.lt_of_lt_of_le hg2 hb5.size;clear hr5 hb5))
 obtain⟨nb,hnb⟩:∃ nb,x.body.length=nb:=⟨_,rfl⟩;have HNB:=Za hnb;have H3:Hid (Kp (fun k=>k=G∨w2.heap.size≤k) w2 (w5.setCell ⟨G,i*5+3,none⟩ (.slice a5 x.body.length d5))):=Za ((Kp.of_below _ HB5.out).set (fun _=>.inl rfl) _ _);have HG3:Hid (Blk (w5.setCell ⟨G,i*5+3,none⟩ (.slice a5 x.body.length d5)) G 54 ((cur.setIfInBounds (i*5) (.string n1)).setIfInBounds (i*5+3) (.slice a5 x.body.length d5))):=Za ((HB2.out.below HB5.out hg2).set_ _ _);have HR3:Hid ((Kd.fixed kLit w0).R 58 (w5.setCell ⟨G,i*5+3,none⟩ (.slice a5 x.body.length d5)) w2.heap.size (fun b=>w2.heap.size≤b) (.slice a5 x.body.length d5) x.body):=Za (Kd.R_far HR5.out (fun k hk e=>by have e2:k=G:=e;omega) _);have HLT:Hid (w.heap.size<w2.heap.size∧G<w.heap.size):=Za ⟨hs2,HBK.out.lt⟩;simp only[hnb] at H3 HG3 HR3 ⊢;generalize w5.setCell ⟨G,i*5+3,none⟩ (.slice a5 nb d5)=W3 at *;clear hnb HR5 HB5 c35 f35 g35 hq3 hg2 hs2 hf2 HCL;go_loopg [35] (nb+1) (fun gk v35 wr=>∃ k:Nat,v35=.int .i64 (k:Int)∧∃ done,Hid (k≤nb∧nb - k<gk∧allS (litS pre own) (x.body.take k)=.ok done∧(Kd.fixed kLit w0).R 58 wr w2.heap.size (fun b=>w2.heap.size≤b) (.slice a5 nb d5) (done++x.body.drop k)∧Kp (fun b=>w2.heap.size≤b) W3 wr))
 case atStart=>exact⟨0,rfl,[],Za ⟨Nat.zero_le _,by omega,rfl,by simpa using HR3.out,Kp.refl _ _⟩⟩
 case round=>
  obtain⟨k,rfl,done,HI⟩:=hrel;have hGr:Blk wr G 54 ((cur.setIfInBounds (i*5) (.string n1)).setIfInBounds (i*5+3) (.slice a5 nb d5)):=HI.out.2.2.2.2.blk HG3.out (by have:=HLT.out;omega);have hK:Kp (fun b=>b=G∨w2.heap.size≤b) w2 wr:=H3.out.trans HI.out.2.2.2.2 (fun b hb hs=>.inr hs);have HKG:Hid (Kp (fun b=>b=G) w2 wr):=Za ⟨hK.os,hK.tape,hK.output,hK.size,fun b hb hs=>hK.block b hb (fun q=>by rcases q with q|q;exact hs q;omega)⟩;have HKW:Hid (Kp (fun b=>b=G) w wr):=Za (((Kp.of_below (fun b=>b=G) ((below1 _ _).drew)).trans HNM.out.kp (fun _ _ q=>q)).trans HKG.out (fun _ _ q=>q));have HGR:=Za hGr;by_cases hi:k<nb
  · have hib:decide (k<nb)=true:=Zl hi;obtain⟨y,hy⟩:∃ t,x.body[k]?=some t:=⟨x.body[k]'(by rw[HNB.out];exact hi),by simp⟩;have hdl:done.length=k:=(by have:=allS_len _ _ _ HI.out.2.2.1;rw[List.length_take] at this;have:=HNB.out;omega);have hyd:=mid_at hdl hy;obtain⟨N,rfl,hNb,_,hNl,curN,hNB⟩:=row_at HI.out.2.2.2.1 (by have:=(Zq hyd).1;omega);obtain⟨cs,hM,hcl,hcell⟩:=made_at HI.out.2.2.2.1 k y hyd;have hKy:kLit.K w0 y cs:=hM;obtain⟨A,ca,B,cb2,C,cc,ecs,_⟩:=kLit_open hKy;have l0:wr.cell? ⟨N,k*16,none⟩=some (.int .i64 y.kind):=hcell 0 _ (by rw[ecs];rfl);have l1:wr.cell? ⟨N,k*16+1,none⟩=some (.string y.atom.rel):=hcell 1 _ (by rw[ecs];rfl);have l3:wr.cell? ⟨N,k*16+3,none⟩=some (.int .i64 y.atom.at_):=hcell 3 _ (by rw[ecs];rfl);have lN:=hNB.lt;have q3:wr.cell? ⟨G,i*5+3,none⟩=some (.slice (some ⟨N,0,none⟩) nb d5):=(by rw[hGr.cell,Array.getElem?_setIfInBounds_self_of_lt];have:=HC3.out;rw[HBK.out.cell] at this;have:=(Array.getElem?_eq_some_iff.1 this).1;simpa using this);have hsb:Blk wr w.heap.size 133 #[.string pre,.map (some mb)]:=hK.blk HS2.out (by have:=HLT.out;omega);have s0:=hsb.cell 0;have s1:=hsb.cell 1;simp only[List.getElem?_toArray,List.getElem?_cons_zero,List.getElem?_cons_succ] at s0 s1;have lsb:=hsb.lt;have lG:=hGr.lt;have hfl:Fl wr g vT vD vC vI vL oT oD oC oI oL why at_ made:=HKW.out.blk H.out.fl H.out.ne.1;have hmt:=HKW.out.met H.out.met H.out.ne.2;have hys:y.atom.rel.size≤65536:=H.out.small.body y (List.mem_of_getElem? hy);have HN2:=Za (fun W (hb:Below wr.heap.size wr W)=>name_any W g N (k*16+1) mb m vT vD vC vI vL oT oD oC oI oL why at_ made (hfl.below hb) pre y.atom.rel own y.atom.at_ ((Kp.of_below (fun _=>False) hb).met hmt (fun q=>q)) hys _ curN (hNB.below hb hNB.lt) (by rw[← hNB.cell];exact l1) H.out.pre_);have HLR:=Za (fun W w6 n2 (hb:Below wr.heap.size wr W) (hN:Nm W N (k*16+1) n2 w6)=>lit_row (n1:=n2) HI.out.2.2.2.1 hyd hb hN hNB hKy hcell);have hls:LitS N k w.heap.size y.kind y.atom.at_ pre mb wr:=⟨l0,l3,s0,s1⟩;have HS0:=Za hls;have HSF:=Za (fun w6 (hk:Kp (fun b=>b=g) wr.drew w6)=>hls.drew.fail hk hNB.lt (fun e=>by subst e;have:=H.out.fl;have:=Blk.lt this;have:=HLT.out;omega) hsb.lt (fun e=>by have:=H.out.fl;have:=Blk.lt this;omega));have HSO:=Za (fun n2 w6 (hN:Nm wr.drew N (k*16+1) n2 w6)=>hls.drew.named hN hNB.drew hsb.lt (by have:=HLT.out;omega));have HY:=Za hy;have HDL:=Za hdl;have HNN:Hid (w2.heap.size≤N):=Za hNb;have hi0:(0:Int)≤(k:Int):=(by omega);have hi1:(k:Int)<(nb:Int):=(by omega);clear hy hdl hyd hNb hNl hNB hM hcl hcell hKy ecs hsb hGr hK hfl hmt hys hls;by_cases hkd:y.kind=1∨y.kind=2
    · cases hnm:nameS pre own y.atom.rel with
      | none=>
        rw[hnm] at HN2;have hls:litS pre own y=.error (2,y.atom.at_):=(by unfold litS atomS;rw[if_pos hkd,hnm]);have hres:r=.error (2,y.atom.at_):=(by rw[HRES.out,take_split HY.out,allS_fall _ _ _ _ _ _ HI.out.2.2.1 hls]);subst hres;clear hls hnm;rcases Decidable.em (y.kind=1) with h1|h1
        · have HKD:=Za h1;have hS0:LitS N k w.heap.size 1 y.atom.at_ pre mb wr:=(by have:=HS0.out;rwa [h1] at this);have hSr:=hS0.rules;rw[h1] at l0;clear h1;go_wp2;go_still_tail 24,(by kernel_rfl)
          change wpList _ _ _ _ _ wr.drew;have hSr2:=(LitS.drew hS0).rules;go_wp2_with (first|(go_at_call 77;(with_reducible refine (HN2.out _ (Below.refl _ _).drew).mono ?_);rintro e w6 ⟨rfl,hk,h10,h11⟩;have HK:=Za hk;have H10:=Za h10;have H11:=Za h11;have hS6:=HSF.out w6 hk;rw[HKD.out] at hS6;clear hk h10 h11))
          (all_goals go_ret);all_goals exact⟨rfl,(HKW.out.mono (fun _ _ q=>.inr q)).trans ((Kp.of_below (fun b=>b=g∨b=G) (Below.refl _ _).drew).trans HK.out (fun _ _ q=>.inl q)) (fun _ _ q=>q),H10.out,H11.out⟩
        · have h2:y.kind=2:=hkd.resolve_left h1;have HKD:=Za h2;have hS0:LitS N k w.heap.size 2 y.atom.at_ pre mb wr:=(by have:=HS0.out;rwa [h2] at this);have hSr:=hS0.rules;rw[h2] at l0;clear h1 h2;go_wp2;first
          | (go_region_held3 (fun W=>LitS N k w.heap.size 2 y.atom.at_ pre mb W) (first|assumption|exact LitS.drew (by assumption))
              (first
              | (go_at_call 77;(with_reducible refine (HN2.out _ (Below.refl _ _).drew).mono ?_);rintro e w6 ⟨rfl,hk,h10,h11⟩;have HK:=Za hk;have H10:=Za h10;have H11:=Za h11;have hS6:=HSF.out w6 hk;rw[HKD.out] at hS6;clear hk h10 h11)))
          | fail
          (all_goals go_wp2);(all_goals go_ret);all_goals exact⟨rfl,(HKW.out.mono (fun _ _ q=>.inr q)).trans ((Kp.of_below (fun b=>b=g∨b=G) (Below.refl _ _).drew).trans HK.out (fun _ _ q=>.inl q)) (fun _ _ q=>q),H10.out,H11.out⟩
      | some n2=>
        rw[hnm] at HN2;have HLS:Hid (litS pre own y=.ok { y with atom:={ y.atom with rel:=n2 } }):=Za (by unfold litS atomS;rw[if_pos hkd,hnm]);clear hnm;rcases Decidable.em (y.kind=1) with h1|h1
        · have HKD:=Za h1;have hS0:LitS N k w.heap.size 1 y.atom.at_ pre mb wr:=(by have:=HS0.out;rwa [h1] at this);have hSr:=hS0.rules;rw[h1] at l0;clear h1;go_wp2;go_still_tail 24,(by kernel_rfl)
          change wpList _ _ _ _ _ wr.drew;have hSr2:=(LitS.drew hS0).rules;go_wp2_with (first|(go_at_call 77;(with_reducible refine (HN2.out _ (Below.refl _ _).drew).mono ?_);rintro e w6 ⟨rfl,hnm6⟩;have HM6:=Za hnm6;have hS6:=HSO.out n2 w6 hnm6;rw[HKD.out] at hS6;clear hnm6))
          all_goals go_roundg (nb - k)
          all_goals first
           | (have:=HI.out.2.1;omega)
           | exact⟨k+1,by rw[wrap_up k (by have:=H.out.small.len;have:=HNB.out;omega)],done++[{ y with atom:={ y.atom with rel:=n2 } }],Za ⟨hi,by omega,by rw[take_one HY.out];exact allS_snoc _ _ _ _ _ HI.out.2.2.1 HLS.out,by rw[← mid_set HDL.out HY.out];exact HLR.out _ _ _ (Below.refl _ _).drew HM6.out,HI.out.2.2.2.2.drew.trans HM6.out.kp (fun b _ q=>by have:=HNN.out;omega)⟩⟩
        · have h2:y.kind=2:=hkd.resolve_left h1;have HKD:=Za h2;have hS0:LitS N k w.heap.size 2 y.atom.at_ pre mb wr:=(by have:=HS0.out;rwa [h2] at this);have hSr:=hS0.rules;rw[h2] at l0;clear h1 h2;go_wp2;first
          | (go_region_held3 (fun W=>LitS N k w.heap.size 2 y.atom.at_ pre mb W) (first|assumption|exact LitS.drew (by assumption))
              (first
              | (go_at_call 77;(with_reducible refine (HN2.out _ (Below.refl _ _).drew).mono ?_);rintro e w6 ⟨rfl,hnm6⟩;have HM6:=Za hnm6;have hS6:=HSO.out n2 w6 hnm6;rw[HKD.out] at hS6;clear hnm6)))
          | fail
          (all_goals go_wp2);all_goals go_roundg (nb - k)
          all_goals first
           | (have:=HI.out.2.1;omega)
           | exact⟨k+1,by rw[wrap_up k (by have:=H.out.small.len;have:=HNB.out;omega)],done++[{ y with atom:={ y.atom with rel:=n2 } }],Za ⟨hi,by omega,by rw[take_one HY.out];exact allS_snoc _ _ _ _ _ HI.out.2.2.1 HLS.out,by rw[← mid_set HDL.out HY.out];exact HLR.out _ _ _ (Below.refl _ _).drew HM6.out,HI.out.2.2.2.2.drew.trans HM6.out.kp (fun b _ q=>by have:=HNN.out;omega)⟩⟩
    · have hk1:(y.kind==1)=false:=(by simp;omega);have hk2:(y.kind==2)=false:=(by simp;omega);go_wp2;go_region;(all_goals go_wp2);all_goals go_roundg (nb - k)
      all_goals first
       | (have:=HI.out.2.1;omega)
       | exact⟨k+1,by rw[wrap_up k (by have:=H.out.small.len;have:=HNB.out;omega)],done++[y],Za ⟨hi,by omega,by rw[take_one HY.out];exact allS_snoc _ _ _ _ _ HI.out.2.2.1 (by unfold litS;rw[if_neg hkd]),by rw[← mid_same HY.out];exact HI.out.2.2.2.1,HI.out.2.2.2.2.drew⟩⟩
  · have hib:decide (k<nb)=false:=Zm hi;go_wp2;go_ret;have hkn:k=x.body.length:=(by have:=HI.out.1;have:=HNB.out;omega);have hrun:=HI.out.2.2.1;rw[hkn,List.take_length] at hrun;have hres:r=.ok ⟨⟨n1,x.head.args,x.head.at_⟩,done,x.at_⟩:=(by rw[HRES.out,hrun]);subst hres;have hrow:=HI.out.2.2.2.1;rw[hkn,List.drop_eq_nil_of_le (Zc _),List.append_nil] at hrow;have h1:=head_row H.out.row H.out.at_i (below1 _ _).drew HNM.out HBK.out HCE.out HVA.out HVB.out;refine⟨rfl,?_,HKW.out⟩;exact body_row (x:=⟨⟨n1,x.head.args,x.head.at_⟩,x.body,x.at_⟩) h1 (Zq H.out.at_i).1 HKG.out HB2.out HGR.out (head_cells (x:=x) HBK.out HB2.out HCE.out) HVA.out hrow (Ze H.out.old (by have:=HLT.out;omega)) (fun b hb=>H.out.fresh b (by have:=HLT.out;omega))
end CmpClause
end Go.Proofs.Ytddmceldglelkaa
