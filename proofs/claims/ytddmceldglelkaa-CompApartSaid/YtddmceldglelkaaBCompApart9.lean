/- A claim's texts, in the order of what they need: LexRefTokW. -/
import Derived.Test.YtddmceldglelkaaBCompApart8
import Derived.IntWalk
import Derived.RegionTactic
set_option maxRecDepth 100000
set_option maxHeartbeats 8000000
set_option linter.unusedVariables false
set_option linter.unusedSimpArgs false
set_option linter.unusedSectionVars false
namespace Go.Proofs.Ytddmceldglelkaa.LexRefTokW
open Go Go.RowKit NumPure NumRead LexPure LexGap LexToks LexRise LexRefTok LexRefNum LexRefText LexRefTokens YtddmceldglelkaaW.PrintWords YtddmceldglelkaaW.PrintLast PTokens
attribute [local go_sem high] eqA31
theorem toks_tok {f i:Nat} {c:UInt8} {r:List UInt8} {acc:List T} {kd:Int} {tx:List UInt8} {n:Int} {len:Nat} (h0:gap1 (c :: r)=0) (ht:token (c :: r)=.tok kd tx n len):toks (f+1) i (c :: r) acc=toks f (i+len) ((c :: r).drop len) (acc++[⟨kd,tx,n,i⟩]):=by
 rw[toks_ok (by rw[G_none h0]),G_none h0]
 simp only[Nat.add_zero,List.drop_zero]
 exact aft_tok ht
theorem toks_fault {f i:Nat} {c:UInt8} {r:List UInt8} {acc:List T} {why:Int} {off:Nat} (h0:gap1 (c :: r)=0) (ht:token (c :: r)=.bad why off):toks (f+1) i (c :: r) acc=([],why,((i+off:Nat):Int)):=by
 rw[toks_ok (by rw[G_none h0]),G_none h0]
 simp only[Nat.add_zero,List.drop_zero]
 exact aft_bad ht
def Head (V:List T×Int×Int) (w:World) (s:ByteArray) (wr:World) (v:Value) (i g:Nat):Prop:=
 ∃ f acc,toks (f+1) i (s.data.toList.drop i) acc=V∧i≤s.size∧acc.length≤i∧s.size - i≤f∧s.size - i<g∧Kd.R k63 63 wr w.heap.size (fun b=>b≠w.heap.size) v (acc.map tkS)∧wr.heap[w.heap.size]?=some (.cells #[.int .i64 0,.int .i64 0] 31 (0,0))∧Below w.heap.size w wr
def Post (V:List T×Int×Int) (w:World) (e:Ending) (w':World):Prop:=
 ∃ v,e=.returned (.tuple #[v,.agg #[.int .i64 V.2.1,.int .i64 V.2.2]])∧Kd.R k63 63 w' w.heap.size (fun _=>True) v (V.1.map tkS)∧Below w.heap.size w w'
theorem set_size (W:World) (a:Addr) (u:Value):(W.setCell a u).heap.size=W.heap.size:=by simp[World.setCell]
theorem blk_second (w:World) (o o':Obj):((w.alloc o).alloc o').heap[w.heap.size+1]?=some o':=by
 have h:=blk_new (w.alloc o) o'
 rwa [show (w.alloc o).heap.size=w.heap.size+1 by simp] at h
theorem two_c {w:World} {g:Nat} {t:TypeId} {a b:Value} (h:w.heap[g]?=some (.cells #[a,b] t (0,0))):w.cell? ⟨g,0,none⟩=some a∧w.frozen? ⟨g,0,none⟩=false∧w.cell? ⟨g,1,none⟩=some b∧w.frozen? ⟨g,1,none⟩=false∧g<w.heap.size:=
 ⟨blk_cell h 0,blk_frozen h 0,blk_cell h 1,blk_frozen h 1,blk_lt h⟩
theorem four_c {w:World} {g:Nat} {t:TypeId} {a b c d:Value} (h:w.heap[g]?=some (.cells #[a,b,c,d] t (0,0))):w.cell? ⟨g,0,none⟩=some a∧w.frozen? ⟨g,0,none⟩=false∧w.cell? ⟨g,1,none⟩=some b∧w.frozen? ⟨g,1,none⟩=false∧w.cell? ⟨g,2,none⟩=some c∧w.frozen? ⟨g,2,none⟩=false∧w.cell? ⟨g,3,none⟩=some d∧w.frozen? ⟨g,3,none⟩=false∧g<w.heap.size:=
 ⟨blk_cell h 0,blk_frozen h 0,blk_cell h 1,blk_frozen h 1,blk_cell h 2,blk_frozen h 2,blk_cell h 3,blk_frozen h 3,blk_lt h⟩
theorem push {V:List T×Int×Int} {w wn:World} {s:ByteArray} {v:Value} {i j f:Nat} {acc:List T} {t:T} {p:S63} (hv:toks f j (s.data.toList.drop j) (acc++[t])=V) (hij:i<j) (hj:j≤s.size) (ha:acc.length≤i) (hf:s.size - i≤f)
    (hR:Kd.R k63 63 wn w.heap.size (fun b=>b≠w.heap.size) v (acc.map tkS++[p])) (hp:p=tkS t) (hX:wn.heap[w.heap.size]?=some (.cells #[.int .i64 0,.int .i64 0] 31 (0,0))) (hB:Below w.heap.size w wn):Head V w s wn v j (s.size - i):=by
 obtain⟨f,rfl⟩:∃ k,f=k+1:=⟨f - 1,by omega⟩
 refine⟨f,acc++[t],hv,hj,by rw[List.length_append];simp;omega,by omega,by omega,?_,hX,hB⟩
 rw[List.map_append,List.map_cons,List.map_nil,← hp]
 exact hR
structure Sx (w w1 W:World) (v:Value) (l:List S63):Prop where
 x:W.heap[w.heap.size]?=some (.cells #[.int .i64 0,.int .i64 0] 31 (0,0))
 b:Below w.heap.size w W
 r:Kd.R k63 63 W w.heap.size (fun b=>b≠w.heap.size∧b<w1.heap.size) v l
 lt:w.heap.size<w1.heap.size
section
variable {w w1 W W2:World} {v:Value} {l:List S63}
theorem Sx.below (h:Sx w w1 W v l) (hb:Below W.heap.size W W2):Sx w w1 W2 v l:=⟨blk_below h.x hb,below_step h.b hb,Kd.R_below h.r hb,h.lt⟩
theorem Sx.alloc (h:Sx w w1 W v l) (o:Obj):Sx w w1 (W.alloc o) v l:=h.below (below_alloc (Below.refl _ _) o)
theorem Sx.drewN (h:Sx w w1 W v l) (n:Nat):Sx w w1 (W.drewN n) v l:=⟨h.x,pw_below_drewN h.b n,h.r,h.lt⟩
theorem Sx.far (h:Sx w w1 W v l) {p:Addr} (hp:w1.heap.size≤p.block) (u:Value):Sx w w1 (W.setCell p u) v l:=⟨blk_far h.x (by have:=h.lt;omega) u,h.b.setCell (by have:=h.lt;omega) u,Kd.R_far h.r (fun k hk=>by omega) u,h.lt⟩
theorem Sx.own (h:Sx w w1 W v l):Kd.R k63 63 W w.heap.size (fun b=>b≠w.heap.size) v l:=Kd.R_mono h.r (fun _ hk=>hk.1)
theorem Sx.start (h:Sx w W W v l) (hb:Below W.heap.size W W2):Sx w W2 W2 v l:=
 ⟨blk_below h.x hb,below_step h.b hb,Kd.R_mono (Kd.R_below h.r hb) (fun k hk=>⟨hk.1,Nat.lt_of_lt_of_le hk.2 hb.size⟩),Nat.lt_of_lt_of_le h.lt hb.size⟩
theorem t_new {o:Obj} (hb:Below ((W.alloc (.cells #[.int .i64 0,.string ⟨#[]⟩,.int .i64 0,.int .i64 0] 63)).alloc o).heap.size ((W.alloc (.cells #[.int .i64 0,.string ⟨#[]⟩,.int .i64 0,.int .i64 0] 63)).alloc o) W2):W2.heap[W.heap.size]?=some (.cells #[.int .i64 0,.string ⟨#[]⟩,.int .i64 0,.int .i64 0] 63 (0,0)):=blk_below (blk_alloc (blk_new _ _) _) hb
theorem q_new {o:Obj} (hb:Below ((W.alloc o).alloc (.cells #[.int .i64 0,.int .i64 0] 31)).heap.size ((W.alloc o).alloc (.cells #[.int .i64 0,.int .i64 0] 31)) W2):W2.heap[W.heap.size+1]?=some (.cells #[.int .i64 0,.int .i64 0] 31 (0,0)):=blk_below (blk_second _ _ _) hb
end
theorem fault_calls (y a:Int) (w:World):Calls Try.prog 35 #[.int .i64 y,.int .i64 a] w fun e w'=>e=.returned (.agg #[.int .i64 y,.int .i64 a])∧Below w.heap.size w w':=vestryref08_fault.calls _ _ _ _ w rfl
theorem drawn_below {w w':World} (h:Drawn0 w w'):Below w.heap.size w w':=by
 obtain⟨n,rfl⟩:=h
 exact pw_below_drewN (Below.refl _ _) n
theorem tokens_long (w:World) (s:ByteArray) (hs:65536<s.size):Calls Try.prog 13 #[.string s] w (Post ([],2,0) w):=by
 have hsb:decide (65536<(s.size:Int))=true:=decide_eq_true (by omega)
 have hsc:decide (65536<s.size)=true:=decide_eq_true hs
 have HS:Hid (Sx w (w.alloc (.cells #[.int .i64 0,.int .i64 0] 31)) (w.alloc (.cells #[.int .i64 0,.int .i64 0] 31)) (.slice none 0 0) []):=Lib.hid ⟨blk_new _ _,below_alloc (Below.refl _ _) _,Kd.R_nil _ _ _ _ _,by simp⟩
 have lxx:w.heap.size<w.heap.size+1:=Nat.lt_succ_self _
 have x0:=lxx
 have x1:=lxx
 have fx0:=lxx
 have fx1:=lxx
 have lx:=lxx
 clear hs
 go_enter Try.func13,Try.ntmps13
 go_wp2_with (first|(go_at_call 35;(with_reducible refine (fault_calls _ _ _).mono ?_);rintro e w6 ⟨rfl,hb⟩;have hs:=Sx.below (by with_reducible repeat (first|exact HS.out|refine Sx.far ?_ (by first|exact Nat.le_refl _|exact Nat.le_succ _) _|apply Sx.alloc|apply Sx.drewN|apply Sx.drew)) hb;clear HS hb x0 x1 fx0 fx1 lx;have HS:=Lib.hid hs;clear hs;obtain⟨x0,fx0,x1,fx1,lx⟩:=two_c HS.out.x))
 refine bodyPost_ret (results_tc rfl _ _ w.heap.size 31 #[.int .i64 2,.int .i64 0] (0,0) _ rfl ?blk Try.underlying31 rfl (by kernel_rfl)) rfl ?_
 case blk=>exact blk_put (blk_put HS.out.x 0 _ rfl) 1 _ rfl
 exact⟨_,rfl,Kd.R_nil _ _ _ _ _,below_set (below_set HS.out.b (Nat.le_refl _)) (Nat.le_refl _)⟩
theorem tokens_short (w:World) (s:ByteArray) (hs:s.size≤65536) (V:List T×Int×Int) (hV:toks (s.data.toList.length+1) 0 s.data.toList []=V):Calls Try.prog 13 #[.string s] w (Post V w):=by
 have hz:s.size=s.data.toList.length:=Lib.size_eq s
 have hs4:s.size≤140737488351232:=by omega
 have hsb:decide (65536<(s.size:Int))=false:=decide_eq_false (by omega)
 have hsc:decide (65536<s.size)=false:=decide_eq_false (by omega)
 have HZ:=Lib.hid hz
 have HS4:=Lib.hid hs4
 have HS8:=Lib.hid hs
 have H0:Hid (Head V w s (w.alloc (.cells #[.int .i64 0,.int .i64 0] 31)) (.slice none 0 0) 0 (s.size+1)):=Lib.hid ⟨s.data.toList.length,[],by rw[List.drop_zero];exact hV,Nat.zero_le _,Nat.le_refl _,by omega,by omega,Kd.R_nil _ _ _ _ _,blk_new _ _,below_alloc (Below.refl _ _) _⟩
 clear hs hs4 hz hV
 go_enter Try.func13,Try.ntmps13
 go_wp2
 go_loopg [4,5] (s.size+1) (fun g v4 v5 wr=>∃ i:Nat,v5=.int .i64 (i:Int)∧Hid (Head V w s wr v4 i g))
 case atStart=>exact⟨0,rfl,H0⟩
 case round=>
  clear H0
  obtain⟨i,rfl,HH⟩:=hrel
  obtain⟨f,acc,hV,hi,ha,hf,hg,hR,hB,hbl⟩:=HH.out
  clear HH
  obtain⟨p4,c4,e4⟩:=Kd.R_slice hR
  rw[List.length_map] at e4
  subst e4
  have HS:Hid (Sx w wr wr (.slice p4 acc.length c4) (acc.map tkS)):=Lib.hid ⟨hB,hbl,Kd.R_mono (Kd.R_bound hR) (fun k hk=>⟨hk.1,hk.2.2.1⟩),blk_lt hB⟩
  obtain⟨x0,fx0,x1,fx1,lx⟩:=two_c HS.out.x
  have HV:=Lib.hid hV
  have HA:=Lib.hid ha
  have HF:=Lib.hid hf
  clear hB hbl hR hV ha hf
  cases hdr:s.data.toList.drop i with
  | nil=>
    have hib:decide ((i:Int)<(s.size:Int))=false:=decide_eq_false (by have:=List.drop_eq_nil_iff.1 hdr;have:=HZ.out;omega)
    have hic:decide (i<s.size)=false:=decide_eq_false (by have:=List.drop_eq_nil_iff.1 hdr;have:=HZ.out;omega)
    have hv:=HV.out
    rw[hdr,toks_ok (by rfl)] at hv
    have HV2:=Lib.hid hv
    clear hv hdr
    go_wp2
    refine bodyPost_ret (results_tc rfl _ _ w.heap.size 31 #[.int .i64 0,.int .i64 0] (0,0) _ rfl ?blk Try.underlying31 rfl (by kernel_rfl)) rfl ?_
    case blk=>exact blk_put (blk_put HS.out.x 0 _ rfl) 1 _ rfl
    have e2:=HV2.out
    refine (show Post V w _ _ from ?_)
    rw[← e2]
    refine⟨.slice p4 acc.length c4,rfl,?_,below_set (below_set HS.out.b (Nat.le_refl _)) (Nat.le_refl _)⟩
    · exact Kd.R_mono (Kd.R_far (p:=⟨w.heap.size,1,none⟩) (Kd.R_far (p:=⟨w.heap.size,0,none⟩) HS.out.own (fun _ hk=>hk) _) (fun _ hk=>hk) _) (fun _ _=>trivial)
  | cons c r=>
    obtain⟨h1,h2,h3⟩:=bt_of s i c r hdr
    have hcl:(c :: r).length=s.size - i:=by rw[← hdr,List.length_drop,HZ.out]
    have hib:decide ((i:Int)<(s.size:Int))=true:=decide_eq_true h2
    have hic:decide (i<s.size)=true:=decide_eq_true (by omega)
    have hxn:∀ h:i<s.size,((s[i]'h).toNat:Int)=bt s i:=bt_at s i
    have hv:=HV.out
    rw[hdr] at hv
    have hgl:=gap1_le (c :: r)
    have hgf:=gap_f s HS4.out i (r.length+3) c r hdr (by omega)
    by_cases hneg:gap1 (c :: r)<0
    · rw[if_pos hneg] at hgf
      have HG:Hid (∀ W,Calls Try.prog 36 #[.string s,.int .i64 (i:Int)] W fun e w'=>e=.returned (.int .i64 (-1))∧Drawn0 W w'):=Lib.hid (fun W=>vestryref08_gap.calls _ s i (-1) W hgf)
      rw[toks_bad (by rw[G_open hneg]),G_open hneg] at hv
      have HV2:=Lib.hid hv
      clear hv hgf hneg hgl hdr h1 h2 h3 hcl
      go_wp2_with (first|(go_at_call 36;(with_reducible refine (HG.out _).mono ?_);rintro e w1 ⟨rfl,⟨n1,rfl⟩⟩)|(go_at_call 35;(with_reducible refine (fault_calls _ _ _).mono ?_);rintro e w6 ⟨rfl,hb⟩;have hs:=Sx.below (by with_reducible repeat (first|exact HS.out|refine Sx.far ?_ (by first|exact Nat.le_refl _|exact Nat.le_succ _) _|apply Sx.alloc|apply Sx.drewN|apply Sx.drew)) hb;clear HS hb x0 x1 fx0 fx1 lx;have HS:=Lib.hid hs;clear hs;obtain⟨x0,fx0,x1,fx1,lx⟩:=two_c HS.out.x))
      refine bodyPost_ret (results_tc rfl _ _ w.heap.size 31 #[.int .i64 7,.int .i64 (i:Int)] (0,0) _ rfl ?blk Try.underlying31 rfl (by kernel_rfl)) rfl ?_
      case blk=>exact blk_put (blk_put HS.out.x 0 _ rfl) 1 _ rfl
      exact⟨_,by rw[← HV2.out];rfl,by rw[← HV2.out];exact Kd.R_nil _ _ _ _ _,below_set (below_set HS.out.b (Nat.le_refl _)) (Nat.le_refl _)⟩
    · rw[if_neg hneg] at hgf
      by_cases hpos:0<gap1 (c :: r)
      · obtain⟨g,hgg⟩:∃ g:Nat,gap1 (c :: r)=g:=⟨(gap1 (c :: r)).toNat,by omega⟩
        rw[hgg] at hpos hgl hgf
        obtain⟨j,hj⟩:∃ j:Nat,i+g=j:=⟨_,rfl⟩
        have HJ:=Lib.hid hj
        have hgf2:vestryref08_gap.f (r.length+3) s i=some (j:Int):=by rw[hgf,← hj];rfl
        have HG:Hid (∀ W,Calls Try.prog 36 #[.string s,.int .i64 (i:Int)] W fun e w'=>e=.returned (.int .i64 (j:Int))∧Drawn0 W w'):=Lib.hid (fun W=>vestryref08_gap.calls _ s i (j:Int) W hgf2)
        have hjz:decide ((j:Int)<0)=false:=decide_eq_false (by omega)
        have hjb:decide (i<j)=true:=decide_eq_true (by omega)
        have hjc:decide ((i:Int)<(j:Int))=true:=decide_eq_true (by omega)
        rw[toks_gap hgg (by omega),hj,← hdr,List.drop_drop,hj] at hv
        have HV2:=Lib.hid hv
        have HJ2:Hid (j≤s.size∧i<j):=Lib.hid ⟨by omega,by omega⟩
        clear hv hgf hgf2 hneg hgl hdr h1 h2 h3 hcl hj hgg hpos
        go_wp2_with (first|(go_at_call 36;(with_reducible refine (HG.out _).mono ?_);rintro e w1 ⟨rfl,⟨n1,rfl⟩⟩))
        go_roundg (s.size - i)
        case measure=>omega
        case rel=>exact⟨j,rfl,Lib.hid ⟨f,acc,HV2.out,HJ2.out.1,by have:=HA.out;have:=HJ2.out;omega,by have:=HF.out;have:=HJ2.out;omega,by have:=HJ2.out;omega,Kd.R_drewN HS.out.own _,HS.out.x,pw_below_drewN HS.out.b _⟩⟩
      · have h0:gap1 (c :: r)=0:=by omega
        rw[h0,Int.add_zero] at hgf
        have HG:Hid (∀ W,Calls Try.prog 36 #[.string s,.int .i64 (i:Int)] W fun e w'=>e=.returned (.int .i64 (i:Int))∧Below W.heap.size W w'):=Lib.hid (fun W=>(vestryref08_gap.calls _ s i (i:Int) W hgf).mono (fun _ _ h=>⟨h.1,drawn_below h.2⟩))
        have hiz:decide ((i:Int)<0)=false:=decide_eq_false (by omega)
        have hnf:=name_f s HS4.out i (s.size - i+2) hi (Nat.le_refl _)
        rw[hdr] at hnf
        have hle:=token_le c r
        have htc:=token_cons c r
        have HTF:=Lib.hid (fun why off=>toks_fault (f:=f) (i:=i) (c:=c) (r:=r) (acc:=acc) (why:=why) (off:=off) h0)
        have HTT:=Lib.hid (fun kd tx n len=>toks_tok (f:=f) (i:=i) (c:=c) (r:=r) (acc:=acc) (kd:=kd) (tx:=tx) (n:=n) (len:=len) h0)
        obtain⟨m,hm⟩:∃ m,name (c :: r)=m:=⟨_,rfl⟩
        rw[hm] at hnf htc
        have HN:Hid (∀ W,Calls Try.prog 37 #[.string s,.int .i64 (i:Int)] W fun e w'=>e=.returned (.int .i64 (m:Int))∧Below W.heap.size W w'):=Lib.hid (fun W=>(vestryref08_name.calls _ s i (m:Int) W hnf).mono (fun _ _ h=>⟨h.1,drawn_below h.2⟩))
        have HM:=Lib.hid hm
        have HVV:=Lib.hid hv
        have HLE:=Lib.hid hle
        have HCL:=Lib.hid hcl
        have HDR:=Lib.hid hdr
        have HH1:=Lib.hid h1
        clear hgf hgl hneg hpos hm hnf hv hle h0 hdr hcl h1 h2 h3
        by_cases h64:64<m
        · rw[if_pos h64] at htc
          have h64n:decide (64<m)=true:=decide_eq_true h64
          have h64i:decide ((64:Int)<(m:Int))=true:=decide_eq_true (by omega)
          have HV2:=Lib.hid (HVV.out.symm.trans (HTF.out _ _ htc))
          clear htc h64
          go_wp2_with (first|(go_at_call 36;(with_reducible refine (HG.out _).mono ?_);rintro e w1 ⟨rfl,hb⟩;have hs:=HS.out.start hb;clear HS hb x0 x1 fx0 fx1 lx;have HS:=Lib.hid hs;clear hs;have lxx:=HS.out.lt;have hne1:w.heap.size≠w1.heap.size:=Nat.ne_of_lt lxx;have hne2:w.heap.size≠w1.heap.size+1:=Nat.ne_of_lt (Nat.lt_succ_of_lt lxx);have hne3:=hne1.symm;have hne4:=hne2.symm;obtain⟨x0,fx0,x1,fx1,lx⟩:=two_c HS.out.x)|(go_at_call 37;(with_reducible refine (HN.out _).mono ?_);rintro e w2 ⟨rfl,hb⟩;have hs:=Sx.below (by with_reducible repeat (first|exact HS.out|refine Sx.far ?_ (by first|exact Nat.le_refl _|exact Nat.le_succ _) _|apply Sx.alloc|apply Sx.drewN|apply Sx.drew)) hb;have HT:=Lib.hid (t_new hb);have HQ:=Lib.hid (q_new hb);clear HS hb x0 x1 fx0 fx1 lx;have HS:=Lib.hid hs;clear hs;obtain⟨x0,fx0,x1,fx1,lx⟩:=two_c HS.out.x;obtain⟨t0,ft0,t1,ft1,t2,ft2,t3,ft3,lt⟩:=four_c HT.out;obtain⟨q0,fq0,q1,fq1,lq⟩:=two_c HQ.out)|(go_at_call 35;(with_reducible refine (fault_calls _ _ _).mono ?_);rintro e w6 ⟨rfl,hb⟩;have hs:=Sx.below (by with_reducible repeat (first|exact HS.out|refine Sx.far ?_ (by first|exact Nat.le_refl _|exact Nat.le_succ _) _|apply Sx.alloc|apply Sx.drewN|apply Sx.drew)) hb;clear HS hb x0 x1 fx0 fx1 lx;have HS:=Lib.hid hs;clear hs;obtain⟨x0,fx0,x1,fx1,lx⟩:=two_c HS.out.x))
          refine bodyPost_ret (results_tc rfl _ _ w.heap.size 31 #[.int .i64 2,.int .i64 (i:Int)] (0,0) _ rfl ?blk Try.underlying31 rfl (by kernel_rfl)) rfl ?_
          case blk=>exact blk_put (blk_put HS.out.x 0 _ rfl) 1 _ rfl
          exact⟨_,by rw[HV2.out];rfl,by rw[HV2.out];exact Kd.R_nil _ _ _ _ _,below_set (below_set HS.out.b (Nat.le_refl _)) (Nat.le_refl _)⟩
        · rw[if_neg h64] at htc
          have h64n:decide (64<m)=false:=decide_eq_false h64
          have h64i:decide ((64:Int)<(m:Int))=false:=decide_eq_false (by omega)
          by_cases hm0:0<m
          · rw[if_pos hm0] at htc
            have hm0n:decide (0<m)=true:=decide_eq_true hm0
            have hm0i:decide ((0:Int)<(m:Int))=true:=decide_eq_true (by omega)
            obtain⟨hl1,hl2⟩:=HLE.out _ _ _ _ htc
            obtain⟨j,hj⟩:∃ j:Nat,i+m=j:=⟨_,rfl⟩
            have hjs:j≤s.size:=by have:=HCL.out;omega
            have hij:i≤j:=by omega
            have hwr:IntKind.i64.wrap ((i:Int)+(m:Int))=(j:Int):=by rw[IntWalk.i64_in _ (by have:=HS4.out;omega)];omega
            have hijb:decide ((i:Int)≤(j:Int))=true:=decide_eq_true (by omega)
            have hjsb:decide ((j:Int)≤(s.size:Int))=true:=decide_eq_true (by omega)
            have HP:Hid ((⟨1,s.extract i j,0,(i:Int)⟩:S63)=tkS ⟨1,(c :: r).take m,0,i⟩):=Lib.hid (by
             have e:(s.extract i j).data.toList=(c :: r).take m:=by rw[Lib.extract_data,HDR.out,show j - i=m by omega]
             show (⟨1,ByteArray.mk (s.extract i j).data,0,(i:Int)⟩:S63)=⟨1,ByteArray.mk _,0,(i:Int)⟩
             rw[← e])
            have HV2:Hid (toks f j (s.data.toList.drop j) (acc++[(⟨1,(c :: r).take m,0,i⟩:T)])=V):=Lib.hid (by rw[← hj,← List.drop_drop,HDR.out];exact (HTT.out _ _ _ _ htc).symm.trans HVV.out)
            have HJ:Hid (i<j∧j≤s.size):=Lib.hid ⟨by omega,hjs⟩
            clear htc h64 hl1 hl2 hj
            go_wp2_with (first|(go_at_call 36;(with_reducible refine (HG.out _).mono ?_);rintro e w1 ⟨rfl,hb⟩;have hs:=HS.out.start hb;clear HS hb x0 x1 fx0 fx1 lx;have HS:=Lib.hid hs;clear hs;have lxx:=HS.out.lt;have hne1:w.heap.size≠w1.heap.size:=Nat.ne_of_lt lxx;have hne2:w.heap.size≠w1.heap.size+1:=Nat.ne_of_lt (Nat.lt_succ_of_lt lxx);have hne3:=hne1.symm;have hne4:=hne2.symm;obtain⟨x0,fx0,x1,fx1,lx⟩:=two_c HS.out.x)|(go_at_call 37;(with_reducible refine (HN.out _).mono ?_);rintro e w2 ⟨rfl,hb⟩;have hs:=Sx.below (by with_reducible repeat (first|exact HS.out|refine Sx.far ?_ (by first|exact Nat.le_refl _|exact Nat.le_succ _) _|apply Sx.alloc|apply Sx.drewN|apply Sx.drew)) hb;have HT:=Lib.hid (t_new hb);have HQ:=Lib.hid (q_new hb);clear HS hb x0 x1 fx0 fx1 lx;have HS:=Lib.hid hs;clear hs;obtain⟨x0,fx0,x1,fx1,lx⟩:=two_c HS.out.x;obtain⟨t0,ft0,t1,ft1,t2,ft2,t3,ft3,lt⟩:=four_c HT.out;obtain⟨q0,fq0,q1,fq1,lq⟩:=two_c HQ.out)|((with_reducible refine gate_builtin (b:=.append) (xs:=#[.tmp 96,.tmp 98]) rfl ?_);at_builtin;refine Kd.R_append k63 (w0:=w) w.heap.size rfl (.tmp 96) (.tmp 98) 59 63 (.agg #[.int .i64 0,.string ⟨#[]⟩,.int .i64 0,.int .i64 0]) 40 rfl Try.underlying59 info63 rfl (by decide) (by decide) (.slice p4 acc.length c4) (acc.map tkS) (⟨1,s.extract i j,0,(i:Int)⟩:S63) [.int .i64 1,.string (s.extract i j),.int .i64 0,.int .i64 (i:Int)] (fun b=>b≠w.heap.size) (fun _=>False) rfl ?a2 (k63_mkM _ _ _ _) (fun _ hk=>hk.elim) ?aF ?aO ?aB ?aS ?aL ?_;(case a2=>(try simp only[set_size]);rfl);(case aF=>exact fun k hk e=>(by simp only[set_size] at hk;omega));(case aO=>exact Sx.own (w1:=w1) (by with_reducible repeat (first|exact HS.out|refine Sx.far ?_ (by first|exact Nat.le_refl _|exact Nat.le_succ _) _|apply Sx.alloc|apply Sx.drewN|apply Sx.drew)));(case aB=>exact Sx.b (w1:=w1) (v:=.slice p4 acc.length c4) (l:=acc.map tkS) (by with_reducible repeat (first|exact HS.out|refine Sx.far ?_ (by first|exact Nat.le_refl _|exact Nat.le_succ _) _|apply Sx.alloc|apply Sx.drewN|apply Sx.drew)));(case aS=>(simp only[set_size];omega));(case aL=>rw[List.length_map];have:=HA.out;have:=HS8.out;omega);intro v1 wn ho hb hgr hat;have HH2:Hid (Head V w s wn v1 j (s.size - i)):=Lib.hid (push HV2.out HJ.out.1 HJ.out.2 HA.out HF.out ho HP.out (blk_grown (Sx.x (w1:=w1) (v:=.slice p4 acc.length c4) (l:=acc.map tkS) (by with_reducible repeat (first|exact HS.out|refine Sx.far ?_ (by first|exact Nat.le_refl _|exact Nat.le_succ _) _|apply Sx.alloc|apply Sx.drewN|apply Sx.drew))) hgr (fun e=>(HS.out.r.1 _ e.symm).1 rfl)) hb);clear ho hb hgr hat))
            go_roundg (s.size - i)
            case measure=>omega
            case rel=>exact⟨j,rfl,HH2⟩
          · rw[if_neg hm0] at htc
            have hm0n:decide (0<m)=false:=decide_eq_false hm0
            have hm0i:decide ((0:Int)<(m:Int))=false:=decide_eq_false (by omega)
            have hdd:vestryref03_Digit.f (bt s i)=some (dig c):=by rw[HH1.out];exact digit_is c
            have hin:i<s.size:=by have:=HCL.out;simp only[List.length_cons] at this;omega
            clear h64 hm0
            by_cases hd:dig c=true
            · rw[if_pos hd] at htc
              rw[hd] at hdd
              have HD:Hid (∀ W,Calls Try.prog 38 #[.int .u8 (bt s i)] W fun e w'=>e=.returned (.bool true)∧Drawn0 W w'):=Lib.hid (fun W=>vestryref03_Digit.calls _ _ W hdd)
              have hnf:=number_f s HS4.out i (2*r.length+11) c r HDR.out hd (by omega)
              clear hdd hd
              cases ho:number (c :: r) with
              | bad why off=>
                rw[ho] at htc hnf
                obtain⟨ao,hao⟩:∃ ao:Nat,i+off=ao:=⟨_,rfl⟩
                have hnf2:vestryref08_number.f (2*r.length+11) s i=some (0,⟨#[]⟩,0,0,0,why,(ao:Int)):=by rw[hnf,← hao];rfl
                have HC:Hid (∀ W,Calls Try.prog 39 #[.string s,.int .i64 (i:Int)] W fun e w'=>e=.returned (.tuple #[.agg #[.int .i64 0,.string ⟨#[]⟩,.int .i64 0,.int .i64 0],.int .i64 0,.agg #[.int .i64 why,.int .i64 (ao:Int)]])∧Below W.heap.size W w'):=Lib.hid (fun W=>vestryref08_number.calls _ s i _ _ _ _ _ _ _ W hnf2)
                have hy:(why==0)=false:=beq_eq_false_iff_ne.mpr (token_bad c r _ _ htc).1
                have hv2:=HVV.out.symm.trans (HTF.out _ _ htc)
                rw[hao] at hv2
                have HV2:=Lib.hid hv2
                clear hv2 hnf hnf2 htc hao ho
                go_wp2_with (first|(go_at_call 36;(with_reducible refine (HG.out _).mono ?_);rintro e w1 ⟨rfl,hb⟩;have hs:=HS.out.start hb;clear HS hb x0 x1 fx0 fx1 lx;have HS:=Lib.hid hs;clear hs;have lxx:=HS.out.lt;have hne1:w.heap.size≠w1.heap.size:=Nat.ne_of_lt lxx;have hne2:w.heap.size≠w1.heap.size+1:=Nat.ne_of_lt (Nat.lt_succ_of_lt lxx);have hne3:=hne1.symm;have hne4:=hne2.symm;obtain⟨x0,fx0,x1,fx1,lx⟩:=two_c HS.out.x)|(go_at_call 37;(with_reducible refine (HN.out _).mono ?_);rintro e w2 ⟨rfl,hb⟩;have hs:=Sx.below (by with_reducible repeat (first|exact HS.out|refine Sx.far ?_ (by first|exact Nat.le_refl _|exact Nat.le_succ _) _|apply Sx.alloc|apply Sx.drewN|apply Sx.drew)) hb;have HT:=Lib.hid (t_new hb);have HQ:=Lib.hid (q_new hb);clear HS hb x0 x1 fx0 fx1 lx;have HS:=Lib.hid hs;clear hs;obtain⟨x0,fx0,x1,fx1,lx⟩:=two_c HS.out.x;obtain⟨t0,ft0,t1,ft1,t2,ft2,t3,ft3,lt⟩:=four_c HT.out;obtain⟨q0,fq0,q1,fq1,lq⟩:=two_c HQ.out)|(go_at_call 38;(with_reducible refine (HD.out _).mono ?_);rintro e w3 ⟨rfl,⟨n3,rfl⟩⟩)|(go_at_call 39;(with_reducible refine (HC.out _).mono ?_);rintro e w5 ⟨rfl,hb⟩;have hs:=Sx.below (by with_reducible repeat (first|exact HS.out|refine Sx.far ?_ (by first|exact Nat.le_refl _|exact Nat.le_succ _) _|apply Sx.alloc|apply Sx.drewN|apply Sx.drew)) hb;have ht:=blk_below (blk_drewN HT.out _) hb;have hq:=blk_below (blk_drewN HQ.out _) hb;clear HS HT HQ hb x0 x1 fx0 fx1 lx t0 t1 t2 t3 ft0 ft1 ft2 ft3 lt q0 q1 fq0 fq1 lq;have HS:=Lib.hid hs;have HT:=Lib.hid ht;have HQ:=Lib.hid hq;clear hs ht hq;obtain⟨x0,fx0,x1,fx1,lx⟩:=two_c HS.out.x;obtain⟨t0,ft0,t1,ft1,t2,ft2,t3,ft3,lt⟩:=four_c HT.out;obtain⟨q0,fq0,q1,fq1,lq⟩:=two_c HQ.out))
                go_region
                all_goals go_wp2
                refine bodyPost_ret (results_tc rfl _ _ w.heap.size 31 #[.int .i64 why,.int .i64 (ao:Int)] (0,0) _ rfl ?blk Try.underlying31 rfl (by kernel_rfl)) rfl ?_
                case blk=>exact blk_drew (blk_put (cs:=#[.int .i64 why,.int .i64 0]) (blk_put (cs:=#[.int .i64 0,.int .i64 0]) (Sx.x (w1:=w1) (v:=.slice p4 acc.length c4) (l:=acc.map tkS) (by with_reducible repeat (first|exact HS.out|refine Sx.far ?_ (by first|exact Nat.le_refl _|exact Nat.le_succ _) _|apply Sx.alloc|apply Sx.drewN|apply Sx.drew))) 0 _ rfl) 1 _ rfl)
                exact⟨_,by rw[HV2.out],by rw[HV2.out];exact Kd.R_nil _ _ _ _ _,below_drew1 (below_set (below_set (Sx.b (w1:=w1) (v:=.slice p4 acc.length c4) (l:=acc.map tkS) (by with_reducible repeat (first|exact HS.out|refine Sx.far ?_ (by first|exact Nat.le_refl _|exact Nat.le_succ _) _|apply Sx.alloc|apply Sx.drewN|apply Sx.drew))) (Nat.le_refl _)) (Nat.le_refl _))⟩
              | tok kd tx n len=>
                rw[ho] at htc hnf
                obtain⟨hl1,hl2⟩:=HLE.out _ _ _ _ htc
                obtain⟨j,hj⟩:∃ j:Nat,i+len=j:=⟨_,rfl⟩
                obtain⟨x,hx⟩:∃ x:ByteArray,ByteArray.mk tx.toArray=x:=⟨_,rfl⟩
                have hnf2:vestryref08_number.f (2*r.length+11) s i=some (kd,x,n,(i:Int),(j:Int),0,0):=by rw[hnf,← hj,← hx];rfl
                have HC:Hid (∀ W,Calls Try.prog 39 #[.string s,.int .i64 (i:Int)] W fun e w'=>e=.returned (.tuple #[.agg #[.int .i64 kd,.string x,.int .i64 n,.int .i64 (i:Int)],.int .i64 (j:Int),.agg #[.int .i64 0,.int .i64 0]])∧Below W.heap.size W w'):=Lib.hid (fun W=>vestryref08_number.calls _ s i _ _ _ _ _ _ _ W hnf2)
                have HV2:Hid (toks f j (s.data.toList.drop j) (acc++[(⟨kd,tx,n,i⟩:T)])=V):=Lib.hid (by rw[← hj,← List.drop_drop,HDR.out];exact (HTT.out _ _ _ _ htc).symm.trans HVV.out)
                have HP:Hid ((⟨kd,x,n,(i:Int)⟩:S63)=tkS ⟨kd,tx,n,i⟩):=Lib.hid (by rw[← hx];rfl)
                have HJ:Hid (i<j∧j≤s.size):=Lib.hid (by have:=HCL.out;omega)
                clear htc hnf hnf2 hl1 hl2 hj hx ho
                go_wp2_with (first|(go_at_call 36;(with_reducible refine (HG.out _).mono ?_);rintro e w1 ⟨rfl,hb⟩;have hs:=HS.out.start hb;clear HS hb x0 x1 fx0 fx1 lx;have HS:=Lib.hid hs;clear hs;have lxx:=HS.out.lt;have hne1:w.heap.size≠w1.heap.size:=Nat.ne_of_lt lxx;have hne2:w.heap.size≠w1.heap.size+1:=Nat.ne_of_lt (Nat.lt_succ_of_lt lxx);have hne3:=hne1.symm;have hne4:=hne2.symm;obtain⟨x0,fx0,x1,fx1,lx⟩:=two_c HS.out.x)|(go_at_call 37;(with_reducible refine (HN.out _).mono ?_);rintro e w2 ⟨rfl,hb⟩;have hs:=Sx.below (by with_reducible repeat (first|exact HS.out|refine Sx.far ?_ (by first|exact Nat.le_refl _|exact Nat.le_succ _) _|apply Sx.alloc|apply Sx.drewN|apply Sx.drew)) hb;have HT:=Lib.hid (t_new hb);have HQ:=Lib.hid (q_new hb);clear HS hb x0 x1 fx0 fx1 lx;have HS:=Lib.hid hs;clear hs;obtain⟨x0,fx0,x1,fx1,lx⟩:=two_c HS.out.x;obtain⟨t0,ft0,t1,ft1,t2,ft2,t3,ft3,lt⟩:=four_c HT.out;obtain⟨q0,fq0,q1,fq1,lq⟩:=two_c HQ.out)|(go_at_call 38;(with_reducible refine (HD.out _).mono ?_);rintro e w3 ⟨rfl,⟨n3,rfl⟩⟩)|(go_at_call 39;(with_reducible refine (HC.out _).mono ?_);rintro e w5 ⟨rfl,hb⟩;have hs:=Sx.below (by with_reducible repeat (first|exact HS.out|refine Sx.far ?_ (by first|exact Nat.le_refl _|exact Nat.le_succ _) _|apply Sx.alloc|apply Sx.drewN|apply Sx.drew)) hb;have ht:=blk_below (blk_drewN HT.out _) hb;have hq:=blk_below (blk_drewN HQ.out _) hb;clear HS HT HQ hb x0 x1 fx0 fx1 lx t0 t1 t2 t3 ft0 ft1 ft2 ft3 lt q0 q1 fq0 fq1 lq;have HS:=Lib.hid hs;have HT:=Lib.hid ht;have HQ:=Lib.hid hq;clear hs ht hq;obtain⟨x0,fx0,x1,fx1,lx⟩:=two_c HS.out.x;obtain⟨t0,ft0,t1,ft1,t2,ft2,t3,ft3,lt⟩:=four_c HT.out;obtain⟨q0,fq0,q1,fq1,lq⟩:=two_c HQ.out)|((with_reducible refine gate_builtin (b:=.append) (xs:=#[.tmp 96,.tmp 98]) rfl ?_);at_builtin;refine Kd.R_append k63 (w0:=w) w.heap.size rfl (.tmp 96) (.tmp 98) 59 63 (.agg #[.int .i64 0,.string ⟨#[]⟩,.int .i64 0,.int .i64 0]) 40 rfl Try.underlying59 info63 rfl (by decide) (by decide) (.slice p4 acc.length c4) (acc.map tkS) (⟨kd,x,n,(i:Int)⟩:S63) [.int .i64 kd,.string x,.int .i64 n,.int .i64 (i:Int)] (fun b=>b≠w.heap.size) (fun _=>False) rfl ?a2 (k63_mkM _ _ _ _) (fun _ hk=>hk.elim) ?aF ?aO ?aB ?aS ?aL ?_;(case a2=>(try simp only[set_size]);rfl);(case aF=>exact fun k hk e=>(by simp only[set_size] at hk;omega));(case aO=>exact Sx.own (w1:=w1) (by with_reducible repeat (first|exact HS.out|refine Sx.far ?_ (by first|exact Nat.le_refl _|exact Nat.le_succ _) _|apply Sx.alloc|apply Sx.drewN|apply Sx.drew)));(case aB=>exact Sx.b (w1:=w1) (v:=.slice p4 acc.length c4) (l:=acc.map tkS) (by with_reducible repeat (first|exact HS.out|refine Sx.far ?_ (by first|exact Nat.le_refl _|exact Nat.le_succ _) _|apply Sx.alloc|apply Sx.drewN|apply Sx.drew)));(case aS=>(simp only[set_size];omega));(case aL=>rw[List.length_map];have:=HA.out;have:=HS8.out;omega);intro v1 wn ho hb hgr hat;have HH2:Hid (Head V w s wn v1 j (s.size - i)):=Lib.hid (push HV2.out HJ.out.1 HJ.out.2 HA.out HF.out ho HP.out (blk_grown (Sx.x (w1:=w1) (v:=.slice p4 acc.length c4) (l:=acc.map tkS) (by with_reducible repeat (first|exact HS.out|refine Sx.far ?_ (by first|exact Nat.le_refl _|exact Nat.le_succ _) _|apply Sx.alloc|apply Sx.drewN|apply Sx.drew))) hgr (fun e=>(HS.out.r.1 _ e.symm).1 rfl)) hb);clear ho hb hgr hat))
                go_roundg (s.size - i)
                case measure=>omega
                case rel=>exact⟨j,rfl,HH2⟩
            · rw[if_neg hd] at htc
              rw[Bool.not_eq_true] at hd
              rw[hd] at hdd
              have HD:Hid (∀ W,Calls Try.prog 38 #[.int .u8 (bt s i)] W fun e w'=>e=.returned (.bool false)∧Drawn0 W w'):=Lib.hid (fun W=>vestryref03_Digit.calls _ _ W hdd)
              clear hdd hd
              have h34:(bt s i=34)↔c=34:=by rw[HH1.out];exact⟨fun e=>UInt8.toNat_inj.mp (by have e2:(34:UInt8).toNat=34:=rfl;omega),fun e=>by rw[e];rfl⟩
              by_cases hc:c=34
              · rw[if_pos hc] at htc
                have h34b:(bt s i==34)=true:=beq_iff_eq.mpr (h34.2 hc)
                have hnf:=text_f s HS4.out i (2*r.length+11) c r HDR.out (by omega)
                clear h34 hc
                cases ho:text [] 1 r with
                | bad why off=>
                  rw[ho] at htc hnf
                  obtain⟨ao,hao⟩:∃ ao:Nat,i+off=ao:=⟨_,rfl⟩
                  have hnf2:vestryref08_text.f (2*r.length+11) s i=some (0,⟨#[]⟩,0,0,0,why,(ao:Int)):=by rw[hnf,← hao];rfl
                  have HC:Hid (∀ W,Calls Try.prog 40 #[.string s,.int .i64 (i:Int)] W fun e w'=>e=.returned (.tuple #[.agg #[.int .i64 0,.string ⟨#[]⟩,.int .i64 0,.int .i64 0],.int .i64 0,.agg #[.int .i64 why,.int .i64 (ao:Int)]])∧Below W.heap.size W w'):=Lib.hid (fun W=>vestryref08_text.calls _ s i _ _ _ _ _ _ _ W hnf2)
                  have hy:(why==0)=false:=beq_eq_false_iff_ne.mpr (token_bad c r _ _ htc).1
                  have hv2:=HVV.out.symm.trans (HTF.out _ _ htc)
                  rw[hao] at hv2
                  have HV2:=Lib.hid hv2
                  clear hv2 hnf hnf2 htc hao ho
                  go_wp2_with (first|(go_at_call 36;(with_reducible refine (HG.out _).mono ?_);rintro e w1 ⟨rfl,hb⟩;have hs:=HS.out.start hb;clear HS hb x0 x1 fx0 fx1 lx;have HS:=Lib.hid hs;clear hs;have lxx:=HS.out.lt;have hne1:w.heap.size≠w1.heap.size:=Nat.ne_of_lt lxx;have hne2:w.heap.size≠w1.heap.size+1:=Nat.ne_of_lt (Nat.lt_succ_of_lt lxx);have hne3:=hne1.symm;have hne4:=hne2.symm;obtain⟨x0,fx0,x1,fx1,lx⟩:=two_c HS.out.x)|(go_at_call 37;(with_reducible refine (HN.out _).mono ?_);rintro e w2 ⟨rfl,hb⟩;have hs:=Sx.below (by with_reducible repeat (first|exact HS.out|refine Sx.far ?_ (by first|exact Nat.le_refl _|exact Nat.le_succ _) _|apply Sx.alloc|apply Sx.drewN|apply Sx.drew)) hb;have HT:=Lib.hid (t_new hb);have HQ:=Lib.hid (q_new hb);clear HS hb x0 x1 fx0 fx1 lx;have HS:=Lib.hid hs;clear hs;obtain⟨x0,fx0,x1,fx1,lx⟩:=two_c HS.out.x;obtain⟨t0,ft0,t1,ft1,t2,ft2,t3,ft3,lt⟩:=four_c HT.out;obtain⟨q0,fq0,q1,fq1,lq⟩:=two_c HQ.out)|(go_at_call 38;(with_reducible refine (HD.out _).mono ?_);rintro e w3 ⟨rfl,⟨n3,rfl⟩⟩)|(go_at_call 40;(with_reducible refine (HC.out _).mono ?_);rintro e w5 ⟨rfl,hb⟩;have hs:=Sx.below (by with_reducible repeat (first|exact HS.out|refine Sx.far ?_ (by first|exact Nat.le_refl _|exact Nat.le_succ _) _|apply Sx.alloc|apply Sx.drewN|apply Sx.drew)) hb;have ht:=blk_below (blk_drewN HT.out _) hb;have hq:=blk_below (blk_drewN HQ.out _) hb;clear HS HT HQ hb x0 x1 fx0 fx1 lx t0 t1 t2 t3 ft0 ft1 ft2 ft3 lt q0 q1 fq0 fq1 lq;have HS:=Lib.hid hs;have HT:=Lib.hid ht;have HQ:=Lib.hid hq;clear hs ht hq;obtain⟨x0,fx0,x1,fx1,lx⟩:=two_c HS.out.x;obtain⟨t0,ft0,t1,ft1,t2,ft2,t3,ft3,lt⟩:=four_c HT.out;obtain⟨q0,fq0,q1,fq1,lq⟩:=two_c HQ.out))
                  go_region
                  all_goals go_wp2
                  refine bodyPost_ret (results_tc rfl _ _ w.heap.size 31 #[.int .i64 why,.int .i64 (ao:Int)] (0,0) _ rfl ?blk Try.underlying31 rfl (by kernel_rfl)) rfl ?_
                  case blk=>exact blk_drew (blk_put (cs:=#[.int .i64 why,.int .i64 0]) (blk_put (cs:=#[.int .i64 0,.int .i64 0]) (Sx.x (w1:=w1) (v:=.slice p4 acc.length c4) (l:=acc.map tkS) (by with_reducible repeat (first|exact HS.out|refine Sx.far ?_ (by first|exact Nat.le_refl _|exact Nat.le_succ _) _|apply Sx.alloc|apply Sx.drewN|apply Sx.drew))) 0 _ rfl) 1 _ rfl)
                  exact⟨_,by rw[HV2.out],by rw[HV2.out];exact Kd.R_nil _ _ _ _ _,below_drew1 (below_set (below_set (Sx.b (w1:=w1) (v:=.slice p4 acc.length c4) (l:=acc.map tkS) (by with_reducible repeat (first|exact HS.out|refine Sx.far ?_ (by first|exact Nat.le_refl _|exact Nat.le_succ _) _|apply Sx.alloc|apply Sx.drewN|apply Sx.drew))) (Nat.le_refl _)) (Nat.le_refl _))⟩
                | tok kd tx n len=>
                  rw[ho] at htc hnf
                  obtain⟨hl1,hl2⟩:=HLE.out _ _ _ _ htc
                  obtain⟨j,hj⟩:∃ j:Nat,i+len=j:=⟨_,rfl⟩
                  obtain⟨x,hx⟩:∃ x:ByteArray,ByteArray.mk tx.toArray=x:=⟨_,rfl⟩
                  have hnf2:vestryref08_text.f (2*r.length+11) s i=some (kd,x,n,(i:Int),(j:Int),0,0):=by rw[hnf,← hj,← hx];rfl
                  have HC:Hid (∀ W,Calls Try.prog 40 #[.string s,.int .i64 (i:Int)] W fun e w'=>e=.returned (.tuple #[.agg #[.int .i64 kd,.string x,.int .i64 n,.int .i64 (i:Int)],.int .i64 (j:Int),.agg #[.int .i64 0,.int .i64 0]])∧Below W.heap.size W w'):=Lib.hid (fun W=>vestryref08_text.calls _ s i _ _ _ _ _ _ _ W hnf2)
                  have HV2:Hid (toks f j (s.data.toList.drop j) (acc++[(⟨kd,tx,n,i⟩:T)])=V):=Lib.hid (by rw[← hj,← List.drop_drop,HDR.out];exact (HTT.out _ _ _ _ htc).symm.trans HVV.out)
                  have HP:Hid ((⟨kd,x,n,(i:Int)⟩:S63)=tkS ⟨kd,tx,n,i⟩):=Lib.hid (by rw[← hx];rfl)
                  have HJ:Hid (i<j∧j≤s.size):=Lib.hid (by have:=HCL.out;omega)
                  clear htc hnf hnf2 hl1 hl2 hj hx ho
                  go_wp2_with (first|(go_at_call 36;(with_reducible refine (HG.out _).mono ?_);rintro e w1 ⟨rfl,hb⟩;have hs:=HS.out.start hb;clear HS hb x0 x1 fx0 fx1 lx;have HS:=Lib.hid hs;clear hs;have lxx:=HS.out.lt;have hne1:w.heap.size≠w1.heap.size:=Nat.ne_of_lt lxx;have hne2:w.heap.size≠w1.heap.size+1:=Nat.ne_of_lt (Nat.lt_succ_of_lt lxx);have hne3:=hne1.symm;have hne4:=hne2.symm;obtain⟨x0,fx0,x1,fx1,lx⟩:=two_c HS.out.x)|(go_at_call 37;(with_reducible refine (HN.out _).mono ?_);rintro e w2 ⟨rfl,hb⟩;have hs:=Sx.below (by with_reducible repeat (first|exact HS.out|refine Sx.far ?_ (by first|exact Nat.le_refl _|exact Nat.le_succ _) _|apply Sx.alloc|apply Sx.drewN|apply Sx.drew)) hb;have HT:=Lib.hid (t_new hb);have HQ:=Lib.hid (q_new hb);clear HS hb x0 x1 fx0 fx1 lx;have HS:=Lib.hid hs;clear hs;obtain⟨x0,fx0,x1,fx1,lx⟩:=two_c HS.out.x;obtain⟨t0,ft0,t1,ft1,t2,ft2,t3,ft3,lt⟩:=four_c HT.out;obtain⟨q0,fq0,q1,fq1,lq⟩:=two_c HQ.out)|(go_at_call 38;(with_reducible refine (HD.out _).mono ?_);rintro e w3 ⟨rfl,⟨n3,rfl⟩⟩)|(go_at_call 40;(with_reducible refine (HC.out _).mono ?_);rintro e w5 ⟨rfl,hb⟩;have hs:=Sx.below (by with_reducible repeat (first|exact HS.out|refine Sx.far ?_ (by first|exact Nat.le_refl _|exact Nat.le_succ _) _|apply Sx.alloc|apply Sx.drewN|apply Sx.drew)) hb;have ht:=blk_below (blk_drewN HT.out _) hb;have hq:=blk_below (blk_drewN HQ.out _) hb;clear HS HT HQ hb x0 x1 fx0 fx1 lx t0 t1 t2 t3 ft0 ft1 ft2 ft3 lt q0 q1 fq0 fq1 lq;have HS:=Lib.hid hs;have HT:=Lib.hid ht;have HQ:=Lib.hid hq;clear hs ht hq;obtain⟨x0,fx0,x1,fx1,lx⟩:=two_c HS.out.x;obtain⟨t0,ft0,t1,ft1,t2,ft2,t3,ft3,lt⟩:=four_c HT.out;obtain⟨q0,fq0,q1,fq1,lq⟩:=two_c HQ.out)|((with_reducible refine gate_builtin (b:=.append) (xs:=#[.tmp 96,.tmp 98]) rfl ?_);at_builtin;refine Kd.R_append k63 (w0:=w) w.heap.size rfl (.tmp 96) (.tmp 98) 59 63 (.agg #[.int .i64 0,.string ⟨#[]⟩,.int .i64 0,.int .i64 0]) 40 rfl Try.underlying59 info63 rfl (by decide) (by decide) (.slice p4 acc.length c4) (acc.map tkS) (⟨kd,x,n,(i:Int)⟩:S63) [.int .i64 kd,.string x,.int .i64 n,.int .i64 (i:Int)] (fun b=>b≠w.heap.size) (fun _=>False) rfl ?a2 (k63_mkM _ _ _ _) (fun _ hk=>hk.elim) ?aF ?aO ?aB ?aS ?aL ?_;(case a2=>(try simp only[set_size]);rfl);(case aF=>exact fun k hk e=>(by simp only[set_size] at hk;omega));(case aO=>exact Sx.own (w1:=w1) (by with_reducible repeat (first|exact HS.out|refine Sx.far ?_ (by first|exact Nat.le_refl _|exact Nat.le_succ _) _|apply Sx.alloc|apply Sx.drewN|apply Sx.drew)));(case aB=>exact Sx.b (w1:=w1) (v:=.slice p4 acc.length c4) (l:=acc.map tkS) (by with_reducible repeat (first|exact HS.out|refine Sx.far ?_ (by first|exact Nat.le_refl _|exact Nat.le_succ _) _|apply Sx.alloc|apply Sx.drewN|apply Sx.drew)));(case aS=>(simp only[set_size];omega));(case aL=>rw[List.length_map];have:=HA.out;have:=HS8.out;omega);intro v1 wn ho hb hgr hat;have HH2:Hid (Head V w s wn v1 j (s.size - i)):=Lib.hid (push HV2.out HJ.out.1 HJ.out.2 HA.out HF.out ho HP.out (blk_grown (Sx.x (w1:=w1) (v:=.slice p4 acc.length c4) (l:=acc.map tkS) (by with_reducible repeat (first|exact HS.out|refine Sx.far ?_ (by first|exact Nat.le_refl _|exact Nat.le_succ _) _|apply Sx.alloc|apply Sx.drewN|apply Sx.drew))) hgr (fun e=>(HS.out.r.1 _ e.symm).1 rfl)) hb);clear ho hb hgr hat))
                  go_roundg (s.size - i)
                  case measure=>omega
                  case rel=>exact⟨j,rfl,HH2⟩
              · rw[if_neg hc] at htc
                have h34b:(bt s i==34)=false:=beq_eq_false_iff_ne.mpr (fun e=>hc (h34.1 e))
                have hnf:=sign_f s HS4.out i (r.length+41) c r HDR.out (by omega)
                clear h34 hc
                unfold sign at htc
                by_cases hs0:signLen (c :: r)=0
                · rw[if_pos hs0] at htc
                  rw[hs0] at hnf
                  have HC:Hid (∀ W,Calls Try.prog 41 #[.string s,.int .i64 (i:Int)] W fun e w'=>e=.returned (.string ⟨#[]⟩)∧Below W.heap.size W w'):=Lib.hid (fun W=>vestryref08_sign.calls _ s i _ W hnf)
                  have hwi:IntKind.i64.wrap (i:Int)=(i:Int):=IntWalk.i64_in _ (by have:=HS4.out;omega)
                  have hv2:=HVV.out.symm.trans (HTF.out _ _ htc)
                  have HV2:=Lib.hid hv2
                  clear htc hnf hs0 hv2
                  go_wp2_with (first|(go_at_call 36;(with_reducible refine (HG.out _).mono ?_);rintro e w1 ⟨rfl,hb⟩;have hs:=HS.out.start hb;clear HS hb x0 x1 fx0 fx1 lx;have HS:=Lib.hid hs;clear hs;have lxx:=HS.out.lt;have hne1:w.heap.size≠w1.heap.size:=Nat.ne_of_lt lxx;have hne2:w.heap.size≠w1.heap.size+1:=Nat.ne_of_lt (Nat.lt_succ_of_lt lxx);have hne3:=hne1.symm;have hne4:=hne2.symm;obtain⟨x0,fx0,x1,fx1,lx⟩:=two_c HS.out.x)|(go_at_call 37;(with_reducible refine (HN.out _).mono ?_);rintro e w2 ⟨rfl,hb⟩;have hs:=Sx.below (by with_reducible repeat (first|exact HS.out|refine Sx.far ?_ (by first|exact Nat.le_refl _|exact Nat.le_succ _) _|apply Sx.alloc|apply Sx.drewN|apply Sx.drew)) hb;have HT:=Lib.hid (t_new hb);have HQ:=Lib.hid (q_new hb);clear HS hb x0 x1 fx0 fx1 lx;have HS:=Lib.hid hs;clear hs;obtain⟨x0,fx0,x1,fx1,lx⟩:=two_c HS.out.x;obtain⟨t0,ft0,t1,ft1,t2,ft2,t3,ft3,lt⟩:=four_c HT.out;obtain⟨q0,fq0,q1,fq1,lq⟩:=two_c HQ.out)|(go_at_call 38;(with_reducible refine (HD.out _).mono ?_);rintro e w3 ⟨rfl,⟨n3,rfl⟩⟩)|(go_at_call 41;(with_reducible refine (HC.out _).mono ?_);rintro e w5 ⟨rfl,hb⟩;have hs:=Sx.below (by with_reducible repeat (first|exact HS.out|refine Sx.far ?_ (by first|exact Nat.le_refl _|exact Nat.le_succ _) _|apply Sx.alloc|apply Sx.drewN|apply Sx.drew)) hb;have ht:=blk_below (blk_drewN HT.out _) hb;have hq:=blk_below (blk_drewN HQ.out _) hb;clear HS HT HQ hb x0 x1 fx0 fx1 lx t0 t1 t2 t3 ft0 ft1 ft2 ft3 lt q0 q1 fq0 fq1 lq;have HS:=Lib.hid hs;have HT:=Lib.hid ht;have HQ:=Lib.hid hq;clear hs ht hq;obtain⟨x0,fx0,x1,fx1,lx⟩:=two_c HS.out.x;obtain⟨t0,ft0,t1,ft1,t2,ft2,t3,ft3,lt⟩:=four_c HT.out;obtain⟨q0,fq0,q1,fq1,lq⟩:=two_c HQ.out)|(go_at_call 35;(with_reducible refine (fault_calls _ _ _).mono ?_);rintro e w6 ⟨rfl,hb⟩;have hs:Sx w w1 w6 (.slice p4 acc.length c4) (acc.map tkS):=Sx.below (by with_reducible repeat (first|exact HS.out|refine Sx.far ?_ (by first|exact Nat.le_refl _|exact Nat.le_succ _) _|apply Sx.alloc|apply Sx.drewN|apply Sx.drew)) hb;have hq:w6.heap[w1.heap.size+1]?=some (.cells #[.int .i64 0,.int .i64 0] 31 (0,0)):=blk_below (by with_reducible repeat (first|exact HQ.out|refine blk_far ?_ (by exact Nat.succ_ne_self _) _|refine blk_drewN ?_ _)) hb;clear HS HQ HT hb x0 x1 fx0 fx1 lx t0 t1 t2 t3 ft0 ft1 ft2 ft3 lt q0 q1 fq0 fq1 lq;have HS:=Lib.hid hs;have HQ:=Lib.hid hq;clear hs hq;obtain⟨x0,fx0,x1,fx1,lx⟩:=two_c HS.out.x;obtain⟨q0,fq0,q1,fq1,lq⟩:=two_c HQ.out))
                  go_region
                  all_goals go_wp2
                  refine bodyPost_ret (results_tc rfl _ _ w.heap.size 31 #[.int .i64 7,.int .i64 (i:Int)] (0,0) _ rfl ?blk Try.underlying31 rfl (by kernel_rfl)) rfl ?_
                  case blk=>exact blk_drew (blk_put (cs:=#[.int .i64 7,.int .i64 0]) (blk_put (cs:=#[.int .i64 0,.int .i64 0]) (Sx.x (w1:=w1) (v:=.slice p4 acc.length c4) (l:=acc.map tkS) (by with_reducible repeat (first|exact HS.out|refine Sx.far ?_ (by first|exact Nat.le_refl _|exact Nat.le_succ _) _|apply Sx.alloc|apply Sx.drewN|apply Sx.drew))) 0 _ rfl) 1 _ rfl)
                  exact⟨_,by rw[HV2.out];rfl,by rw[HV2.out];exact Kd.R_nil _ _ _ _ _,below_drew1 (below_set (below_set (Sx.b (w1:=w1) (v:=.slice p4 acc.length c4) (l:=acc.map tkS) (by with_reducible repeat (first|exact HS.out|refine Sx.far ?_ (by first|exact Nat.le_refl _|exact Nat.le_succ _) _|apply Sx.alloc|apply Sx.drewN|apply Sx.drew))) (Nat.le_refl _)) (Nat.le_refl _))⟩
                · rw[if_neg hs0] at htc
                  obtain⟨hl1,hl2⟩:=HLE.out _ _ _ _ htc
                  obtain⟨n,hn⟩:∃ n,signLen (c :: r)=n:=⟨_,rfl⟩
                  rw[hn] at hnf htc hl1 hl2
                  obtain⟨x,hx⟩:∃ x,LexRefTokens.bytes ((c :: r).take n)=x:=⟨_,rfl⟩
                  rw[hx] at hnf
                  have hxz:x.size=n:=by
                   rw[← hx,Lib.size_eq]
                   show ((c :: r).take n).length=_
                   rw[List.length_take];omega
                  have HC:Hid (∀ W,Calls Try.prog 41 #[.string s,.int .i64 (i:Int)] W fun e w'=>e=.returned (.string x)∧Below W.heap.size W w'):=Lib.hid (fun W=>vestryref08_sign.calls _ s i _ W hnf)
                  obtain⟨j,hj⟩:∃ j:Nat,i+n=j:=⟨_,rfl⟩
                  have hwr:IntKind.i64.wrap ((i:Int)+(x.size:Int))=(j:Int):=by rw[IntWalk.i64_in _ (by have:=HS4.out;have:=HCL.out;omega)];omega
                  have hxe:(x.toList==([]:List UInt8))=false:=beq_eq_false_iff_ne.mpr (fun e=>by rw[Lib.toList_data] at e;have e2:=congrArg List.length e;rw[← Lib.size_eq,hxz] at e2;simp at e2;omega)
                  have HV2:Hid (toks f j (s.data.toList.drop j) (acc++[(⟨4,(c :: r).take n,0,i⟩:T)])=V):=Lib.hid (by rw[← hj,← List.drop_drop,HDR.out];exact (HTT.out _ _ _ _ htc).symm.trans HVV.out)
                  have HP:Hid ((⟨4,x,0,(i:Int)⟩:S63)=tkS ⟨4,(c :: r).take n,0,i⟩):=Lib.hid (by rw[← hx];rfl)
                  have HJ:Hid (i<j∧j≤s.size):=Lib.hid (by have:=HCL.out;omega)
                  clear htc hnf hl1 hl2 hj hx hn hxz hs0
                  go_wp2_with (first|(go_at_call 36;(with_reducible refine (HG.out _).mono ?_);rintro e w1 ⟨rfl,hb⟩;have hs:=HS.out.start hb;clear HS hb x0 x1 fx0 fx1 lx;have HS:=Lib.hid hs;clear hs;have lxx:=HS.out.lt;have hne1:w.heap.size≠w1.heap.size:=Nat.ne_of_lt lxx;have hne2:w.heap.size≠w1.heap.size+1:=Nat.ne_of_lt (Nat.lt_succ_of_lt lxx);have hne3:=hne1.symm;have hne4:=hne2.symm;obtain⟨x0,fx0,x1,fx1,lx⟩:=two_c HS.out.x)|(go_at_call 37;(with_reducible refine (HN.out _).mono ?_);rintro e w2 ⟨rfl,hb⟩;have hs:=Sx.below (by with_reducible repeat (first|exact HS.out|refine Sx.far ?_ (by first|exact Nat.le_refl _|exact Nat.le_succ _) _|apply Sx.alloc|apply Sx.drewN|apply Sx.drew)) hb;have HT:=Lib.hid (t_new hb);have HQ:=Lib.hid (q_new hb);clear HS hb x0 x1 fx0 fx1 lx;have HS:=Lib.hid hs;clear hs;obtain⟨x0,fx0,x1,fx1,lx⟩:=two_c HS.out.x;obtain⟨t0,ft0,t1,ft1,t2,ft2,t3,ft3,lt⟩:=four_c HT.out;obtain⟨q0,fq0,q1,fq1,lq⟩:=two_c HQ.out)|(go_at_call 38;(with_reducible refine (HD.out _).mono ?_);rintro e w3 ⟨rfl,⟨n3,rfl⟩⟩)|(go_at_call 41;(with_reducible refine (HC.out _).mono ?_);rintro e w5 ⟨rfl,hb⟩;have hs:=Sx.below (by with_reducible repeat (first|exact HS.out|refine Sx.far ?_ (by first|exact Nat.le_refl _|exact Nat.le_succ _) _|apply Sx.alloc|apply Sx.drewN|apply Sx.drew)) hb;have ht:=blk_below (blk_drewN HT.out _) hb;have hq:=blk_below (blk_drewN HQ.out _) hb;clear HS HT HQ hb x0 x1 fx0 fx1 lx t0 t1 t2 t3 ft0 ft1 ft2 ft3 lt q0 q1 fq0 fq1 lq;have HS:=Lib.hid hs;have HT:=Lib.hid ht;have HQ:=Lib.hid hq;clear hs ht hq;obtain⟨x0,fx0,x1,fx1,lx⟩:=two_c HS.out.x;obtain⟨t0,ft0,t1,ft1,t2,ft2,t3,ft3,lt⟩:=four_c HT.out;obtain⟨q0,fq0,q1,fq1,lq⟩:=two_c HQ.out)|((with_reducible refine gate_builtin (b:=.append) (xs:=#[.tmp 96,.tmp 98]) rfl ?_);at_builtin;refine Kd.R_append k63 (w0:=w) w.heap.size rfl (.tmp 96) (.tmp 98) 59 63 (.agg #[.int .i64 0,.string ⟨#[]⟩,.int .i64 0,.int .i64 0]) 40 rfl Try.underlying59 info63 rfl (by decide) (by decide) (.slice p4 acc.length c4) (acc.map tkS) (⟨4,x,0,(i:Int)⟩:S63) [.int .i64 4,.string x,.int .i64 0,.int .i64 (i:Int)] (fun b=>b≠w.heap.size) (fun _=>False) rfl ?a2 (k63_mkM _ _ _ _) (fun _ hk=>hk.elim) ?aF ?aO ?aB ?aS ?aL ?_;(case a2=>(try simp only[set_size]);rfl);(case aF=>exact fun k hk e=>(by simp only[set_size] at hk;omega));(case aO=>exact Sx.own (w1:=w1) (by with_reducible repeat (first|exact HS.out|refine Sx.far ?_ (by first|exact Nat.le_refl _|exact Nat.le_succ _) _|apply Sx.alloc|apply Sx.drewN|apply Sx.drew)));(case aB=>exact Sx.b (w1:=w1) (v:=.slice p4 acc.length c4) (l:=acc.map tkS) (by with_reducible repeat (first|exact HS.out|refine Sx.far ?_ (by first|exact Nat.le_refl _|exact Nat.le_succ _) _|apply Sx.alloc|apply Sx.drewN|apply Sx.drew)));(case aS=>(simp only[set_size];omega));(case aL=>rw[List.length_map];have:=HA.out;have:=HS8.out;omega);intro v1 wn ho hb hgr hat;have HH2:Hid (Head V w s wn v1 j (s.size - i)):=Lib.hid (push HV2.out HJ.out.1 HJ.out.2 HA.out HF.out ho HP.out (blk_grown (Sx.x (w1:=w1) (v:=.slice p4 acc.length c4) (l:=acc.map tkS) (by with_reducible repeat (first|exact HS.out|refine Sx.far ?_ (by first|exact Nat.le_refl _|exact Nat.le_succ _) _|apply Sx.alloc|apply Sx.drewN|apply Sx.drew))) hgr (fun e=>(HS.out.r.1 _ e.symm).1 rfl)) hb);clear ho hb hgr hat))
                  go_roundg (s.size - i)
                  case measure=>omega
                  case rel=>exact⟨j,rfl,HH2⟩
theorem ref_Tokens (s:ByteArray) (_:s.size≤140737488351232) (w:World):Calls Try.prog 13 #[.string s] w fun e w'=>∃ v,e=.returned (.tuple #[v,.agg #[.int .i64 (lex s.data.toList).2.1,.int .i64 (lex s.data.toList).2.2]])∧Kd.R k63 63 w' w.heap.size (fun _=>True) v ((lex s.data.toList).1.map tkS)∧Below w.heap.size w w':=by
 have hz:s.size=s.data.toList.length:=Lib.size_eq s
 by_cases h:65536<s.size
 · have:=tokens_long w s h
   unfold lex
   rw[if_pos (by omega)]
   exact this
 · unfold lex
   rw[if_neg (by omega)]
   exact tokens_short w s (by omega) _ rfl
end Go.Proofs.Ytddmceldglelkaa.LexRefTokW
