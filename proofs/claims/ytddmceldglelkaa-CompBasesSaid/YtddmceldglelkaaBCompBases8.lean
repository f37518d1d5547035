/- A claim's texts, in the order of what they need: LexRefNum, LexRise, LexRefText, LexRefTokens. -/
import Derived.Test.YtddmceldglelkaaBCompBases3
import Derived.Test.YtddmceldglelkaaBCompBases7
set_option maxRecDepth 100000
set_option maxHeartbeats 8000000
set_option linter.unusedVariables false
set_option linter.unusedSimpArgs false
set_option linter.unusedSectionVars false
namespace Go.Proofs.Ytddmceldglelkaa
namespace LexRefNum
open Go Go.RowKit NumPure NumRead LexPure LexNumP LexToks LexRefTok YtddmceldglelkaaW.PrintWords YtddmceldglelkaaW.PrintLast PTokens
abbrev big:Nat:=9223372036854775807
def stepN (p:Nat×Bool) (c:UInt8):Nat×Bool:=if p.2=true then (p.1,true) else if p.1 > (big - (c.toNat - 48)) / 10 then (p.1,true) else (p.1*10+(c.toNat - 48),false)
def foldN (p:Nat×Bool) (l:List UInt8):Nat×Bool:=l.foldl stepN p
theorem foldN_over (l:List UInt8):∀ n,foldN (n,true) l=(n,true):=by
 induction l with
 | nil=>intro n;rfl
 | cons c r ih=>intro n;unfold foldN;rw[List.foldl_cons];exact ih n
theorem foldN_val (l:List UInt8):∀ n,n≤big→l.all dig=true→(val n l≤big→foldN (n,false) l=(val n l,false))∧(big<val n l→(foldN (n,false) l).2=true):=by
 induction l with
 | nil=>intro n hn _;exact⟨fun _=>by rw[val_nil];rfl,fun h=>by rw[val_nil] at h;omega⟩
 | cons c r ih=>
   intro n hn ha;simp only[List.all_cons,Bool.and_eq_true] at ha;have hc:48≤c.toNat∧c.toNat≤57:=(by simpa [dig] using ha.1);have hs:foldN (n,false) (c :: r)=foldN (stepN (n,false) c) r:=rfl;have hv:=val_ge r (n*10+(c.toNat - 48));rw[val_cons,hs];have h2:stepN (n,false) c=if n > (big - (c.toNat - 48)) / 10 then (n,true) else (n*10+(c.toNat - 48),false):=by simp[stepN]
   rw[h2];by_cases ho:n > (big - (c.toNat - 48)) / 10
   · rw[if_pos ho];have hb:big<n*10+(c.toNat - 48):=(by simp only[big] at ho ⊢;omega);exact⟨fun h=>by omega,fun _=>by rw[foldN_over]⟩
   · rw[if_neg ho];exact ih _ (by simp only[big] at ho ⊢;omega) ha.2
def numOut (from_ i:Nat) (p:Nat×Bool) (l:List UInt8):Int×ByteArray×Int×Int×Int×Int×Int:=
 if stands l=true then (0,⟨#[]⟩,0,0,0,7,(i:Int)) else if p.2=true then (0,⟨#[]⟩,0,0,0,8,(from_:Int)) else (2,⟨#[]⟩,(p.1:Int),(from_:Int),(i:Int),0,0)
theorem num_end (s:ByteArray) (from_ i n k:Nat) (o:Bool) (l:List UInt8) (h:s.data.toList.drop i=l) (hi:i≤s.size) (hk:2≤k) :
    vestryref08_number.j1 k s from_ i n o false=some (numOut from_ i (n,o) l):=by
 have hz:s.size=s.data.toList.length:=Lib.size_eq s;obtain⟨k,rfl⟩:∃ j,k=j+2:=⟨k - 2,by omega⟩;have key:∀ x:Bool,x=stands l→vestryref08_number.j2 (k+1) (from_:Int) (i:Int) (n:Int) o x=some (numOut from_ i (n,o) l):=by
  rintro x rfl;rw[vestryref08_number.j2];unfold numOut vestryref08_fault.f;by_cases hs:stands l=true
  · rw[if_pos hs,if_pos hs];rfl
  · rw[if_neg hs,if_neg hs];by_cases ho:o=true
    · rw[if_pos ho,if_pos ho];rfl
    · rw[if_neg ho,if_neg ho]
 rw[vestryref08_number.j1,if_neg (by simp)];cases l with
 | nil=>have:s.size≤i:=(by rw[hz];exact List.drop_eq_nil_iff.1 h);rw[if_neg (by omega)];exact key _ rfl
 | cons c r=>
   obtain⟨h1,h2,h3⟩:=bt_of s i c r h;rw[if_pos h2,if_pos (by omega),h1,LexRefTok.digit_is];simp only[Option.bind_some];by_cases hd:dig c=true
   · rw[if_pos hd];exact key _ (by simp[stands,hd])
   · rw[if_neg hd,LexRefTok.letter_is];simp only[Option.bind_some];exact key _ (by simp[stands,hd])
theorem dig_sub (c:UInt8) (hd:dig c=true):((c.toNat:Int) - 48) % 256=((c.toNat - 48:Nat):Int)∧c.toNat - 48≤9∧48≤c.toNat:=by have hc:48≤c.toNat∧c.toNat≤57:=(by simpa [dig] using hd);omega
theorem num_digit (s:ByteArray) (hs:s.size≤140737488351232) (from_ i n k:Nat) (o:Bool) (c:UInt8) (r:List UInt8) (h:s.data.toList.drop i=c :: r) (hd:dig c=true) (hn:n≤big) :
    vestryref08_number.j1 (k+1) s from_ i n o true=vestryref08_number.l0 k s from_ ((i+1:Nat):Int) ((stepN (n,o) c).1:Int) (stepN (n,o) c).2:=by
 have hz:s.size=s.data.toList.length:=Lib.size_eq s;obtain⟨h1,h2,h3⟩:=bt_of s i c r h;obtain⟨d1,d2,d3⟩:=dig_sub c hd;rw[vestryref08_number.j1,if_pos rfl,if_pos (by omega),if_pos h2,h1,d1];have hw:=Za (up1 i 1 s.size hs (by omega));rw[show ((i:Int)+1)=((i:Int)+((1:Nat):Int)) from rfl,hw.out];unfold stepN;by_cases ho:o=true
 · rw[if_pos ho,if_pos ho]
 · rw[if_neg ho,if_neg ho];have hcmp:((n:Int) > (9223372036854775807 - ((c.toNat - 48:Nat):Int)) / 10)↔n > (big - (c.toNat - 48)) / 10:=(by simp only[big];omega);by_cases hb:n > (big - (c.toNat - 48)) / 10
   · rw[if_pos (hcmp.2 hb),if_pos hb,Zl (hcmp.2 hb)]
   · rw[if_neg (fun x=>hb (hcmp.1 x)),if_neg hb,Zm (fun x=>hb (hcmp.1 x))];have hn10:n*10+(c.toNat - 48)≤big:=(by simp only[big] at hb ⊢;omega);have e1:wrap64 ((n:Int)*10)=((n*10:Nat):Int):=(by rw[wrap_in (by simp only[big] at hn10;unfold In;omega)];omega);have E1:=Za e1;clear e1 hw;rw[E1.out];clear E1;have e2:wrap64 (((n*10:Nat):Int)+((c.toNat - 48:Nat):Int))=((n*10+(c.toNat - 48):Nat):Int):=(by rw[wrap_in (by simp only[big] at hn10;unfold In;omega)];omega);rw[e2]
theorem stepN_le (p:Nat×Bool) (c:UInt8) (h:p.1≤big) (hd:dig c=true):(stepN p c).1≤big:=by
 obtain⟨_,d2,d3⟩:=dig_sub c hd;unfold stepN;split
 · exact h
 · split
   · exact h
   · rename_i hb;simp only[big] at hb ⊢;omega
theorem num_tail (s:ByteArray) (hs:s.size≤140737488351232) (from_:Nat) (c0:UInt8) (r0:List UInt8) (h0:s.data.toList.drop from_=c0 :: r0) (hc0:c0≠48):∀ (l:List UInt8) (i n k:Nat) (o:Bool),s.data.toList.drop i=l→i≤s.size→from_<i→n≤big→2*l.length+3<k→
    vestryref08_number.l0 k s from_ i n o=some (numOut from_ (i+run l) (foldN (n,o) (l.take (run l))) (l.drop (run l))):=by
 have hz:s.size=s.data.toList.length:=Lib.size_eq s;obtain⟨g1,g2,_⟩:=bt_of s from_ c0 r0 h0;have g48:=bt_byte s from_ c0 r0 h0 48;rw[show ((48:UInt8).toNat:Int)=48 from rfl] at g48;intro l;induction l with
 | nil=>intro i n k o h hi hf hn hk;have:s.size≤i:=(by rw[hz];exact List.drop_eq_nil_iff.1 h);obtain⟨k,rfl⟩:∃ j,k=j+1:=⟨k - 1,by omega⟩;rw[vestryref08_number.l0,if_neg (by omega),num_end s from_ i n k o [] h hi (by simp at hk;omega)];rfl
 | cons c r ih=>
   intro i n k o h hi hf hn hk;obtain⟨h1,h2,h3⟩:=bt_of s i c r h;obtain⟨k,rfl⟩:∃ j,k=j+2:=⟨k - 2,by omega⟩;rw[vestryref08_number.l0,if_pos h2,if_pos (by omega),h1,LexRefTok.digit_is,run_cons];simp only[Option.bind_some];by_cases hd:dig c=true
   · rw[if_pos hd,if_pos hd,if_neg (by omega),if_pos (by omega),if_pos g2];have e:(bt s (from_:Int) != 48)=true:=(by rw[bne_iff_ne];exact fun x=>hc0 (g48.1 x));rw[e,num_digit s hs from_ i n k o c r h hd hn,ih (i+1) _ k _ h3 (by omega) (by omega) (stepN_le (n,o) c hn hd) (by simp at hk;omega),List.take_succ_cons,List.drop_succ_cons];rw[show i+1+run r=i+(run r+1) by omega];rfl
   · rw[if_neg hd,if_neg hd,num_end s from_ i n (k+1) o (c :: r) h hi (by omega)];rfl
theorem big_In (v:Nat):(v≤big↔In (v:Int)):=by unfold In;simp only[big];omega
def numTok (from_:Nat):Out→Int×ByteArray×Int×Int×Int×Int×Int
 | .tok kd tx n len=>(kd,⟨tx.toArray⟩,n,(from_:Int),((from_+len:Nat):Int),0,0)
 | .bad why off=>(0,⟨#[]⟩,0,0,0,why,((from_+off:Nat):Int))
theorem number_f (s:ByteArray) (hs:s.size≤140737488351232) (from_ k:Nat) (c:UInt8) (r:List UInt8) (h:s.data.toList.drop from_=c :: r) (hd:dig c=true) (hk:2*r.length+10<k) :
    vestryref08_number.f k s from_=some (numTok from_ (number (c :: r))):=by
 have hz:s.size=s.data.toList.length:=Lib.size_eq s;obtain⟨h1,h2,h3⟩:=bt_of s from_ c r h;obtain⟨d1,d2,d3⟩:=dig_sub c hd;obtain⟨k,rfl⟩:∃ j,k=j+2:=⟨k - 2,by omega⟩;have g48:=bt_byte s from_ c r h 48;rw[show ((48:UInt8).toNat:Int)=48 from rfl] at g48;unfold vestryref08_number.f;rw[vestryref08_number.l0,if_pos h2,if_pos (by omega),h1,LexRefTok.digit_is];simp only[Option.bind_some];have hj:=num_digit s hs from_ from_ 0 k false c r h hd (by decide);have hst:stepN (0,false) c=(c.toNat - 48,false):=(by unfold stepN;rw[if_neg (by simp),if_neg (by simp only[big];omega)];simp);rw[hst] at hj;rw[if_pos hd,if_pos trivial];show vestryref08_number.j1 (k+1) s from_ from_ ((0:Nat):Int) false true=_;rw[hj];have hne45:¬(c=45):=(by rintro rfl;simp[dig] at hd);by_cases hc:c=48
 · subst hc;have hnl:numLen (48 :: r)=1:=numLen_zero r;have hps:parseS ((48 :: r).take 1)=(0,0):=(by rw[List.take_succ_cons,List.take_zero];decide);have hnum:number (48 :: r)=if stands r=true then .bad 7 1 else .tok 2 [] 0 1:=by unfold number;rw[hnl,hps];simp
   rw[hnum];cases r with
   | nil=>have:s.size≤from_+1:=(by rw[hz];exact List.drop_eq_nil_iff.1 h3);obtain⟨k,rfl⟩:∃ j,k=j+1:=⟨k - 1,by omega⟩;rw[vestryref08_number.l0,if_neg (by omega),num_end s from_ (from_+1) _ k false [] h3 (by omega) (by simp at hk;omega)];rfl
   | cons e r=>
     obtain⟨e1,e2,e3⟩:=bt_of s (from_+1) e r h3;obtain⟨k,rfl⟩:∃ j,k=j+1:=⟨k - 1,by omega⟩;have hend:=num_end s from_ (from_+1) ((48:UInt8).toNat - 48) k false (e :: r) h3 (by omega) (by simp at hk;omega);rw[vestryref08_number.l0,if_pos e2,if_pos (by omega),e1,LexRefTok.digit_is];simp only[Option.bind_some];have e48:(bt s (from_:Int) != 48)=false:=(by rw[bne_eq_false_iff_eq];exact g48.2 rfl);by_cases hde:dig e=true
     · rw[if_pos hde,if_neg (by omega),if_pos (by omega),if_pos h2,e48,hend];simp[numOut,stands,hde,numTok]
     · rw[if_neg hde,hend];by_cases hst:stands (e :: r)=true
       · simp[numOut,hst,numTok]
       · simp[numOut,hst,numTok]
 · rw[num_tail s hs from_ c r h hc r (from_+1) _ k false h3 (by omega) (by omega) (by simp only[big];omega) (by omega)];have hnl:numLen (c :: r)=run r+1:=(by unfold numLen;rw[if_neg (by simpa using hc),List.tail_cons];omega);have hall:(c :: r.take (run r)).all dig=true:=(by rw[List.all_cons,hd,take_run];rfl);have hps:parseS ((c :: r).take (run r+1))=told ((val 0 (c :: r.take (run r)):Nat):Int):=by
    rw[List.take_succ_cons];unfold parseS;rw[if_neg (by simpa using hne45)];unfold core;rw[if_neg]
    · rfl
    · rintro (hb|hb|hb)
      · cases hb
      · rw[hall] at hb;cases hb
      · exact hc (by simpa using hb.1)
   have hv:val 0 (c :: r.take (run r))=val (c.toNat - 48) (r.take (run r)):=(by rw[val_cons];simp);have hf:=foldN_val (r.take (run r)) (c.toNat - 48) (by simp only[big];omega) (take_run r);unfold number;rw[hnl,hps,hv,List.drop_succ_cons];unfold numOut;by_cases hst:stands (r.drop (run r))=true
   · rw[if_pos hst,if_pos hst];simp[numTok];omega
   · rw[if_neg hst,if_neg hst];unfold told;by_cases hb:val (c.toNat - 48) (r.take (run r))≤big
     · rw[hf.1 hb,if_pos ((big_In _).1 hb)];simp[numTok];omega
     · rw[if_pos (hf.2 (by omega)),if_neg (fun x=>hb ((big_In _).2 x))];simp[numTok]
end LexRefNum
namespace LexRise
open Go Go.RowKit NumPure NumRead LexPure LexGap LexToks
theorem text_cons (b:List UInt8) (i:Nat) (c:UInt8) (r:List UInt8):text b i (c :: r)=if c=34 then .tok 3 b 0 (i+1) else if c=10 then .bad 7 i else if c=92 then (match r with|[]=>.bad 7 i|d :: r'=>match esc d with|none=>.bad 7 i|some e=>text (b++[e]) (i+2) r') else text (b++[c]) (i+1) r:=by
 cases r with
 | nil=>rfl
 | cons d r=>rfl
theorem text_bad:∀ (n:Nat) (r:List UInt8),r.length≤n→∀ b i y off,text b i r=.bad y off→y=7∧off≤i+r.length:=by
 intro n;induction n with
 | zero=>intro r hr b i y off h;obtain rfl:r=[]:=List.eq_nil_of_length_eq_zero (by omega);simp[text] at h;omega
 | succ n ih=>
   intro r hr b i y off h;cases r with
   | nil=>simp[text] at h;omega
   | cons c r=>
     rw[text_cons] at h;simp at hr;split at h
     · cases h
     · split at h
       · injection h with h1 h2
         simp;omega
       · split at h
         · cases r with
           | nil=>simp at h;simp;omega
           | cons d r=>
             simp only[] at h;cases he:esc d with
             | none=>rw[he] at h;simp at h;simp;omega
             | some e=>rw[he] at h;simp at hr;have:=ih r (by omega) _ _ _ _ h;simp;omega
         · have:=ih r (by omega) _ _ _ _ h;simp;omega
theorem token_bad (c:UInt8) (r:List UInt8) (y:Int) (off:Nat) (h:token (c :: r)=.bad y off):y≠0∧off≤(c :: r).length:=by
 rw[token_cons] at h;split at h
 · injection h with h1 h2
   simp;omega
 · split at h
   · cases h
   · split at h
     · have:=numLen_bound c r;unfold number at h;split at h
       · injection h with h1 h2
         omega
       · split at h
         · cases h
         · rename_i hp;injection h with h1 h2
           exact⟨h1▸hp,by omega⟩
     · split at h
       · have:=text_bad _ r (Zc _) _ _ _ _ h;simp;omega
       · unfold sign at h;split at h
         · injection h with h1 h2
           simp;omega
         · cases h
def Rise (l:List T) (n:Nat):Prop:=l.Pairwise (fun a b=>a.at_<b.at_)∧∀ t∈l,t.at_<n
theorem Rise.mono {l:List T} {n m:Nat} (h:Rise l n) (hm:n≤m):Rise l m:=⟨h.1,fun t ht=>Nat.lt_of_lt_of_le (h.2 t ht) hm⟩
theorem Rise.snoc {l:List T} {n:Nat} (h:Rise l n) (t:T) (ht:t.at_=n):Rise (l++[t]) (n+1):=by
 constructor
 · rw[List.pairwise_append];exact⟨h.1,by simp,fun a ha b hb=>by simp at hb;subst hb;rw[ht];exact h.2 a ha⟩
 · intro u hu;rw[List.mem_append] at hu;rcases hu with hu|hu
   · exact Nat.lt_succ_of_lt (h.2 u hu)
   · simp at hu;subst hu;omega
theorem toks_law:∀ (f p:Nat) (l:List UInt8) (acc:List T),l.length<f→Rise acc p→(((toks f p l acc).2.1=0∧(toks f p l acc).2.2=0∧Rise (toks f p l acc).1 (p+l.length))∨((toks f p l acc).2.1≠0∧(toks f p l acc).1=[]∧0≤(toks f p l acc).2.2∧(toks f p l acc).2.2≤((p+l.length:Nat):Int))):=by
 intro f;induction f with
 | zero=>intro p l acc hf;omega
 | succ f ih=>
   intro p l acc hf hr;have hg:=G_le l;by_cases hk:(G l).2=true
   · rw[toks_ok hk];cases hd:l.drop (G l).1 with
     | nil=>rw[aft_nil];exact .inl ⟨rfl,rfl,hr.mono (by omega)⟩
     | cons c r=>
       have hcl:(c :: r).length=l.length - (G l).1:=(by rw[← hd,List.length_drop]);cases ht:token (c :: r) with
       | bad y off=>rw[aft_bad ht];have:=token_bad c r y off ht;exact .inr ⟨this.1,rfl,by simp only[];omega,by simp only[];omega⟩
       | tok kd tx n len=>
         rw[aft_tok ht];have hle:=token_le c r _ _ _ _ ht;have hl2:((c :: r).drop len).length=(c :: r).length - len:=List.length_drop;have hr2:=((hr.mono (Nat.le_add_right p (G l).1)).snoc ⟨kd,tx,n,p+(G l).1⟩ rfl).mono (show p+(G l).1+1≤p+(G l).1+len by omega);rcases ih (p+(G l).1+len) ((c :: r).drop len) _ (by omega) hr2 with ⟨h1,h2,h3⟩|⟨h1,h2,h3,h4⟩
         · exact .inl ⟨h1,h2,h3.mono (by omega)⟩
         · exact .inr ⟨h1,h2,h3,by omega⟩
   · rw[toks_bad (by simpa using hk)];exact .inr ⟨by simp,rfl,by simp only[];omega,by simp only[];omega⟩
theorem lex_law (l:List UInt8):((lex l).2.1=0∧(lex l).2.2=0∧Rise (lex l).1 l.length)∨((lex l).2.1≠0∧(lex l).1=[]∧0≤(lex l).2.2∧(lex l).2.2≤(l.length:Int)):=by
 unfold lex;split
 · exact .inr ⟨by decide,rfl,by simp,by simp⟩
 · have:=toks_law (l.length+1) 0 l [] (by omega) ⟨List.Pairwise.nil,fun t ht=>by cases ht⟩;simpa using this
end LexRise
namespace LexRefText
open Go Go.RowKit NumPure NumRead LexPure LexGap LexToks LexRise LexRefTok LexRefNum YtddmceldglelkaaW.PrintWords YtddmceldglelkaaW.PrintLast PTokens
def nb (b:List UInt8):List Int:=b.map fun c=>(c.toNat:Int)
theorem nb_snoc (b:List UInt8) (c:UInt8):nb b++[(c.toNat:Int)]=nb (b++[c]):=by simp[nb]
theorem str_nb (b:List UInt8):strOfNums (nb b)=⟨b.toArray⟩:=by
 unfold strOfNums nb;congr 1;rw[List.map_map];have:((fun x:Int=>UInt8.ofNat x.toNat) ∘ fun c:UInt8=>(c.toNat:Int))=id:=by funext c;simp
 first
  | rw[this,List.map_id]
  | simp
theorem nb_len (b:List UInt8):(nb b).length=b.length:=by simp[nb]
theorem text_cons (b:List UInt8) (i:Nat) (c:UInt8) (r:List UInt8):text b i (c :: r)=if c=34 then .tok 3 b 0 (i+1) else if c=10 then .bad 7 i else if c=92 then (match r with|[]=>.bad 7 i|d :: r'=>match esc d with|none=>.bad 7 i|some e=>text (b++[e]) (i+2) r') else text (b++[c]) (i+1) r:=by
 cases r with
 | nil=>rfl
 | cons d r=>rfl
theorem text_l0 (s:ByteArray) (hs:s.size≤140737488351232) (from_:Nat):∀ (n:Nat) (l:List UInt8),l.length≤n→∀ (b:List UInt8) (i k:Nat),s.data.toList.drop (from_+i)=l→from_+i≤s.size→b.length≤i→2*l.length+3<k→
    vestryref08_text.l0 k s from_ (nb b) ((from_+i:Nat):Int)=some (numTok from_ (text b i l)):=by
 have hz:s.size=s.data.toList.length:=Lib.size_eq s;intro n;induction n with
 | zero=>intro l hl b i k h hi hb hk;obtain rfl:l=[]:=List.eq_nil_of_length_eq_zero (by omega);have:s.size≤from_+i:=(by rw[hz];exact List.drop_eq_nil_iff.1 h);obtain⟨k,rfl⟩:∃ j,k=j+1:=⟨k - 1,by omega⟩;rw[vestryref08_text.l0,if_neg (by omega)];rfl
 | succ n ih=>
   intro l hl b i k h hi hb hk;cases l with
   | nil=>have:s.size≤from_+i:=(by rw[hz];exact List.drop_eq_nil_iff.1 h);obtain⟨k,rfl⟩:∃ j,k=j+1:=⟨k - 1,by omega⟩;rw[vestryref08_text.l0,if_neg (by omega)];rfl
   | cons c r=>
     obtain⟨h1,h2,h3⟩:=bt_of s (from_+i) c r h;simp only[Zj] at hl hk;obtain⟨k,rfl⟩:∃ j,k=j+2:=⟨k - 2,by omega⟩;have e34:=bt_byte s (from_+i) c r h 34;have e10:=bt_byte s (from_+i) c r h 10;have e92:=bt_byte s (from_+i) c r h 92;rw[show ((34:UInt8).toNat:Int)=34 from rfl] at e34;rw[show ((10:UInt8).toNat:Int)=10 from rfl] at e10;rw[show ((92:UInt8).toNat:Int)=92 from rfl] at e92;have W1:Hid (wrap64 (((from_+i:Nat):Int)+1)=((from_+(i+1):Nat):Int)):=Za (up1 (from_+i) 1 s.size hs (by omega));rw[vestryref08_text.l0,if_pos h2,if_pos (by omega),text_cons];by_cases hc34:c=34
     · rw[if_pos (e34.2 hc34),if_pos hc34,str_nb,W1.out];rfl
     · rw[if_neg (fun x=>hc34 (e34.1 x)),if_neg hc34];by_cases hc10:c=10
       · rw[if_pos (e10.2 hc10),if_pos hc10];rfl
       · rw[if_neg (fun x=>hc10 (e10.1 x)),if_neg hc10];by_cases hc92:c=92
         · rw[if_pos (e92.2 hc92),if_pos hc92,W1.out];cases r with
           | nil=>have:s.size≤from_+i+1:=(by rw[hz];exact List.drop_eq_nil_iff.1 h3);rw[if_pos (by omega)];rfl
           | cons d r'=>
             obtain⟨g1,g2,g3⟩:=bt_of s (from_+i+1) d r' h3;simp only[Zj] at hl hk;have d34:=bt_byte s (from_+i+1) d r' h3 34;have d92:=bt_byte s (from_+i+1) d r' h3 92;have d110:=bt_byte s (from_+i+1) d r' h3 110;have d116:=bt_byte s (from_+i+1) d r' h3 116;rw[show ((34:UInt8).toNat:Int)=34 from rfl] at d34;rw[show ((92:UInt8).toNat:Int)=92 from rfl] at d92;rw[show ((110:UInt8).toNat:Int)=110 from rfl] at d110;rw[show ((116:UInt8).toNat:Int)=116 from rfl] at d116;rw[Nat.add_assoc] at d34 d92 d110 d116 g1 g2;have W2:Hid (wrap64 (((from_+(i+1):Nat):Int)+1)=((from_+(i+2):Nat):Int)):=Za (up1 (from_+(i+1)) 1 s.size hs (by omega));have hb1:(nb b).length<140737488355328:=(by rw[nb_len];omega);have hi2:∀ e:UInt8,vestryref08_text.l0 k s from_ (nb (b++[e])) ((from_+(i+2):Nat):Int)=some (numTok from_ (text (b++[e]) (i+2) r')):=fun e=>ih r' (by omega) (b++[e]) (i+2) k (by rw[← Nat.add_assoc];exact g3) (by omega) (by rw[Zi];simp;omega) (by omega);rw[if_neg (by omega),if_pos (by omega),if_pos (by omega),g1];have main:∀ x:Bool,x=decide (d=34∨d=92)→vestryref08_text.j1 (k+1) s (from_:Int) (nb b) ((from_+i:Nat):Int) (d.toNat:Int) x=some (numTok from_ (match esc d with|none=>.bad 7 i|some e=>text (b++[e]) (i+2) r')):=by
              rintro x rfl;rw[vestryref08_text.j1,W1.out,W2.out];unfold esc;by_cases hq:d=34∨d=92
              · rw[if_pos (by simpa using hq),if_pos (by omega),if_pos (by omega),if_pos hb1,g1,nb_snoc,hi2 d];rcases hq with rfl|rfl
                · rfl
                · rfl
              · have n34:¬d=34:=fun x=>hq (.inl x);have n92:¬d=92:=fun x=>hq (.inr x);rw[if_neg (by simpa using hq),if_neg n34,if_neg n92,← g1];by_cases q110:d=110
                · rw[if_pos (d110.2 q110),if_pos q110,if_pos hb1];have:=nb_snoc b 10;rw[show ((10:UInt8).toNat:Int)=10 from rfl] at this;rw[this,hi2 10]
                · rw[if_neg (fun x=>q110 (d110.1 x)),if_neg q110];by_cases q116:d=116
                  · rw[if_pos (d116.2 q116),if_pos q116,if_pos hb1];have:=nb_snoc b 9;rw[show ((9:UInt8).toNat:Int)=9 from rfl] at this;rw[this,hi2 9]
                  · rw[if_neg (fun x=>q116 (d116.1 x)),if_neg q116];rfl
             rw[← g1];by_cases q34:d=34
             · rw[if_pos (d34.2 q34),g1];exact main _ (by subst q34;rfl)
             · rw[if_neg (fun x=>q34 (d34.1 x)),g1];refine main _ ?_;rw[← g1,Bool.eq_iff_iff,beq_iff_eq,decide_eq_true_iff,d92];exact⟨fun x=>.inr x,fun x=>x.resolve_left q34⟩
         · rw[if_neg (fun x=>hc92 (e92.1 x)),if_neg hc92,if_pos (by rw[nb_len];omega),h1,nb_snoc,W1.out];exact ih r (by omega) (b++[c]) (i+1) (k+1) (by rw[← Nat.add_assoc];exact h3) (by omega) (by rw[Zi];simp;omega) (by omega)
theorem text_f (s:ByteArray) (hs:s.size≤140737488351232) (from_ k:Nat) (c:UInt8) (r:List UInt8) (h:s.data.toList.drop from_=c :: r) (hk:2*r.length+3<k) :
    vestryref08_text.f k s from_=some (numTok from_ (text [] 1 r)):=by
 obtain⟨_,h2,h3⟩:=bt_of s from_ c r h;unfold vestryref08_text.f;rw[show ((from_:Int)+1)=((from_:Int)+((1:Nat):Int)) from rfl,up1 from_ 1 s.size hs (by omega)];exact text_l0 s hs from_ _ r (Zc _) [] 1 k h3 (by omega) (by simp) hk
end LexRefText
namespace LexRefTokens
open Go Go.RowKit NumPure NumRead LexPure LexGap LexToks LexRise LexRefTok LexRefNum LexRefText YtddmceldglelkaaW.PrintWords YtddmceldglelkaaW.PrintLast PTokens
def bytes (l:List UInt8):ByteArray:=⟨l.toArray⟩
theorem rd_drop (ds:List (List UInt8)) (j:Nat) (d:List UInt8) (rest:List (List UInt8)) (h:ds.drop j=d :: rest):rdOf ByteArray.empty (ds.map bytes) (j:Int)=bytes d∧j<ds.length∧ds.drop (j+1)=rest:=by
 have hl:j<ds.length:=by
  rcases Nat.lt_or_ge j ds.length with h1|h1
  · exact h1
  · rw[List.drop_eq_nil_of_le h1] at h;cases h
 rw[List.drop_eq_getElem_cons hl] at h;simp only[List.cons.injEq] at h;refine⟨?_,hl,h.2⟩;unfold rdOf;rw[Int.toNat_natCast,List.getD_eq_getElem?_getD,List.getElem?_map,List.getElem?_eq_getElem hl,h.1];rfl
theorem ones_l2 (s:ByteArray) (hs:s.size≤140737488351232) (i:Nat) (c:UInt8) (r:List UInt8) (h:s.data.toList.drop i=c :: r) (os:List UInt8) (hos:os.length≤100):∀ (rest:List UInt8) (j k:Nat),os.drop j=rest→rest.length<k→
    vestryref08_sign.l2 k s i (bytes os) j=some (if rest.contains c=true then bytes [c] else bytes []):=by
 have hz:s.size=s.data.toList.length:=Lib.size_eq s;obtain⟨h1,h2,h3⟩:=bt_of s i c r h;have hoz:(bytes os).size=os.length:=(by rw[Lib.size_eq];rfl);intro rest;induction rest with
 | nil=>intro j k hj hk;have:os.length≤j:=List.drop_eq_nil_iff.1 hj;obtain⟨k,rfl⟩:∃ m,k=m+1:=⟨k - 1,by omega⟩;rw[vestryref08_sign.l2,if_neg (by omega)];rfl
 | cons d rest ih=>
   intro j k hj hk;simp only[Zj] at hk;obtain⟨g1,g2,g3⟩:=bt_of (bytes os) j d rest hj;obtain⟨k,rfl⟩:∃ m,k=m+1:=⟨k - 1,by omega⟩;have hjl:j<os.length:=(by omega);have W1:Hid (wrap64 ((i:Int)+1)=((i+1:Nat):Int)):=Za (up1 i 1 s.size hs (by omega));have W2:Hid (wrap64 ((j:Int)+1)=((j+1:Nat):Int)):=Za (up1 j 1 140737488351232 (Zc _) (by omega));rw[vestryref08_sign.l2,if_pos g2,if_pos (by omega),if_pos h2,if_pos (by omega),h1,g1,W1.out,W2.out];by_cases hcd:c=d
   · subst hcd;rw[if_pos rfl,if_pos (by omega),if_pos (by omega)];have:(c :: rest).contains c=true:=(by simp);rw[this,if_pos rfl];simp only[Int.toNat_natCast];refine congrArg some ?_;have e:(s.extract i (i+1)).data.toList=[c]:=(by rw[Lib.extract_data,h];simp);show s.extract i (i+1)=bytes [c];have e2:(s.extract i (i+1)).data=#[c]:=Array.toList_inj.1 e;show ByteArray.mk (s.extract i (i+1)).data=ByteArray.mk #[c];rw[e2]
   · rw[if_neg (fun x=>hcd (UInt8.toNat_inj.mp (by omega))),ih (j+1) k g3 (by omega)];have:(d :: rest).contains c=rest.contains c:=(by rw[List.contains_cons,Zo hcd];rfl);rw[this]
theorem twos_l1 (s:ByteArray) (hs:s.size≤140737488351232) (i:Nat) (c:UInt8) (r:List UInt8) (h:s.data.toList.drop i=c :: r) (ds:List (List UInt8)) (hds:ds.length≤100) (h2s:∀ d∈ds,d.length=2):∀ (rest:List (List UInt8)) (j k:Nat),ds.drop j=rest→rest.length+20<k→
    vestryref08_sign.l1 k s i (ds.map bytes) ((ds.length:Nat):Int) j=some (if rest.contains ((c :: r).take 2)=true then bytes ((c :: r).take 2) else if ones.contains c=true then bytes [c] else bytes []):=by
 have hz:s.size=s.data.toList.length:=Lib.size_eq s;obtain⟨h1,h2,h3⟩:=bt_of s i c r h;intro rest;induction rest with
 | nil=>intro j k hj hk;have:ds.length≤j:=List.drop_eq_nil_iff.1 hj;obtain⟨k,rfl⟩:∃ m,k=m+1:=⟨k - 1,by omega⟩;have hp:=ones_l2 s hs i c r h ones (by decide) ones 0 k rfl (by simp at hk;exact Nat.lt_of_lt_of_le (by decide:ones.length<20) (by omega));rw[vestryref08_sign.l1,if_neg (by omega)];exact hp
 | cons d rest ih=>
   intro j k hj hk;simp only[Zj] at hk;obtain⟨g1,g2,g3⟩:=rd_drop ds j d rest hj;obtain⟨k,rfl⟩:∃ m,k=m+1:=⟨k - 1,by omega⟩;have hd2:d.length=2:=h2s d (List.mem_of_mem_drop (by rw[hj];exact List.mem_cons_self));have W2:Hid (wrap64 ((j:Int)+1)=((j+1:Nat):Int)):=Za (up1 j 1 140737488351232 (Zc _) (by omega));have hat:=at_f s (bytes d) hs (by rw[Lib.size_eq];show d.length≤8;omega) i (by omega);rw[h,show (bytes d).data.toList=d from rfl] at hat;rw[vestryref08_sign.l1,if_pos (by omega),if_pos (by omega),if_pos (by rw[List.length_map];omega),g1,hat];simp only[Option.bind_some];by_cases hp:d.isPrefixOf (c :: r)=true
   · have e:=List.prefix_iff_eq_take.1 (List.isPrefixOf_iff_prefix.1 hp);rw[hd2] at e;rw[if_pos hp,if_pos (by rw[← e];simp),← e]
   · have hne:(c :: r).take 2≠d:=(by intro e;apply hp;rw[List.isPrefixOf_iff_prefix,List.prefix_iff_eq_take,hd2,e]);rw[if_neg hp,W2.out,ih (j+1) k g3 (by omega)];have:(d :: rest).contains ((c :: r).take 2)=rest.contains ((c :: r).take 2):=(by rw[List.contains_cons,Zo hne];rfl);rw[this]
def headsOf (rest:List (List UInt8)) (l:List UInt8):Option (List UInt8):=rest.find? (fun d=>d.isPrefixOf l&&decide (word l.tail=4))
theorem heads_l0 (s:ByteArray) (hs:s.size≤140737488351232) (i:Nat) (c:UInt8) (r:List UInt8) (h:s.data.toList.drop i=c :: r) (ds:List (List UInt8)) (hds:ds.length≤100) (h5s:∀ d∈ds,d.length=5):∀ (rest:List (List UInt8)) (j k:Nat),ds.drop j=rest→rest.length+r.length+30<k→
    vestryref08_sign.l0 k s i (ds.map bytes) ((ds.length:Nat):Int) j=some (match headsOf rest (c :: r) with|some d=>bytes d|none=>if twos.contains ((c :: r).take 2)=true then bytes ((c :: r).take 2) else if ones.contains c=true then bytes [c] else bytes []):=by
 have hz:s.size=s.data.toList.length:=Lib.size_eq s;obtain⟨h1,h2,h3⟩:=bt_of s i c r h;have hrl:r.length=s.size - (i+1):=(by rw[← h3,List.length_drop,hz]);have W1:Hid (wrap64 ((i:Int)+1)=((i+1:Nat):Int)):=Za (up1 i 1 s.size hs (by omega));intro rest;induction rest with
 | nil=>intro j k hj hk;have:ds.length≤j:=List.drop_eq_nil_iff.1 hj;obtain⟨k,rfl⟩:∃ m,k=m+1:=⟨k - 1,by omega⟩;have hp:=twos_l1 s hs i c r h twos (by decide) (by decide) twos 0 k rfl (by simp at hk;exact Nat.lt_of_lt_of_le (by decide:twos.length+20<26) (by omega));rw[vestryref08_sign.l0,if_neg (by omega)];exact hp
 | cons d rest ih=>
   intro j k hj hk;simp only[Zj] at hk;obtain⟨g1,g2,g3⟩:=rd_drop ds j d rest hj;obtain⟨k,rfl⟩:∃ m,k=m+1:=⟨k - 1,by omega⟩;have hd5:d.length=5:=h5s d (List.mem_of_mem_drop (by rw[hj];exact List.mem_cons_self));have W2:Hid (wrap64 ((j:Int)+1)=((j+1:Nat):Int)):=Za (up1 j 1 140737488351232 (Zc _) (by omega));have hat:=at_f s (bytes d) hs (by rw[Lib.size_eq];show d.length≤8;omega) i (by omega);rw[h,show (bytes d).data.toList=d from rfl] at hat;have hw:=word_f s hs (i+1) k (by omega) (by omega);rw[h3] at hw;have ih1:=ih (j+1) k g3 (by omega);have hhd:headsOf (d :: rest) (c :: r)=if (d.isPrefixOf (c :: r)&&decide (word r=4))=true then some d else headsOf rest (c :: r):=by
    unfold headsOf;rw[List.find?_cons];show (match (d.isPrefixOf (c :: r)&&decide (word r=4)) with|true=>some d|false=>List.find? (fun d=>d.isPrefixOf (c :: r)&&decide (word (c :: r).tail=4)) rest)=_;by_cases hb:(d.isPrefixOf (c :: r)&&decide (word r=4))=true
    · rw[if_pos hb,hb]
    · rw[if_neg hb,Bool.eq_false_iff.2 hb]
   rw[vestryref08_sign.l0,if_pos (by omega),if_pos (by omega),if_pos (by rw[List.length_map];omega),g1,hat,hhd];simp only[Option.bind_some];rw[W1.out,W2.out];by_cases hp:d.isPrefixOf (c :: r)=true
   · rw[if_pos hp,hw];simp only[Option.bind_some];by_cases h4:word r=4
     · rw[if_pos (by omega),if_pos (by rw[hp,Zl h4];rfl)]
     · rw[if_neg (by omega),if_neg (by rw[Zm h4];simp),ih1]
   · rw[if_neg hp,if_neg (by simp[hp]),ih1]
theorem heads_take (l:List UInt8):∀ d,headsOf heads l=some d→d=l.take (1+word l.tail)∧1+word l.tail=5∧l.head?=some 46∧heads.contains (l.take (1+word l.tail))=true:=by
 intro d hd;unfold headsOf at hd;have h1:=List.find?_some hd;have h2:=List.mem_of_find?_eq_some hd;simp only[Bool.and_eq_true,decide_eq_true_eq] at h1;have h5:d.length=5∧d.head?=some 46:=(by have:∀ x∈heads,x.length=5∧x.head?=some 46:=(by decide);exact this d h2);have e:=List.prefix_iff_eq_take.1 (List.isPrefixOf_iff_prefix.1 h1.1);rw[h5.1] at e;have e2:1+word l.tail=5:=(by omega);rw[e2,← e];refine⟨rfl,rfl,?_,by simpa using h2⟩;have:=h5.2;rw[e] at this;cases l with
 | nil=>simp at this
 | cons a b=>simpa using this
theorem heads_none (l:List UInt8) (hn:headsOf heads l=none):¬(l.head?=some 46∧heads.contains (l.take (1+word l.tail))=true):=by rintro ⟨_,hc⟩;have hm:l.take (1+word l.tail)∈heads:=(by simpa using hc);have h5:(l.take (1+word l.tail)).length=5:=(by have:∀ x∈heads,x.length=5:=(by decide);exact this _ hm);have hw:=word_le l.tail;rw[List.length_take] at h5;rw[List.length_tail] at hw;have h4:word l.tail=4:=(by omega);unfold headsOf at hn;rw[List.find?_eq_none] at hn;refine hn _ hm ?_;simp only[Bool.and_eq_true,decide_eq_true_eq];exact⟨List.isPrefixOf_iff_prefix.2 (List.take_prefix _ _),h4⟩
theorem sign_f (s:ByteArray) (hs:s.size≤140737488351232) (i k:Nat) (c:UInt8) (r:List UInt8) (h:s.data.toList.drop i=c :: r) (hk:r.length+40<k):vestryref08_sign.f k s i=some (bytes ((c :: r).take (signLen (c :: r)))):=by
 have:=heads_l0 s hs i c r h heads (by decide) (by decide) heads 0 k rfl (by exact Nat.lt_of_le_of_lt (by have:heads.length=4:=rfl;omega) hk);unfold vestryref08_sign.f;simp only[Option.bind_some];refine Eq.trans this (congrArg some ?_);unfold signLen;cases hh:headsOf heads (c :: r) with
 | some d=>obtain⟨h1,h2,h3,h4⟩:=heads_take _ d hh;simp only[];rw[if_pos ⟨h3,h4⟩,h1]
 | none=>
   simp only[];rw[if_neg (heads_none _ hh)];by_cases h2:twos.contains ((c :: r).take 2)=true
   · rw[if_pos h2,if_pos h2]
   · rw[if_neg h2,if_neg h2];by_cases h1:ones.contains c=true
     · rw[if_pos h1,if_pos h1];rfl
     · rw[if_neg h1,if_neg h1];rfl
theorem toks_gap {f p g:Nat} {l:List UInt8} {acc:List T} (h:gap1 l=g) (hg:0<g):toks (f+1) p l acc=toks (f+1) (p+g) (l.drop g) acc:=by
 have e:=G_some h hg;by_cases h2:(G (l.drop g)).2=true
 · rw[toks_ok (by rw[e];exact h2),toks_ok h2,e];simp only[];rw[List.drop_drop,Nat.add_assoc]
 · have h3:(G (l.drop g)).2=false:=(by simpa using h2);rw[toks_bad (by rw[e];exact h3),toks_bad h3,e];simp only[];rw[Nat.add_assoc]
def tkS (t:T):S63:=⟨t.kind,bytes t.text,t.n,(t.at_:Int)⟩
end LexRefTokens
end Go.Proofs.Ytddmceldglelkaa
