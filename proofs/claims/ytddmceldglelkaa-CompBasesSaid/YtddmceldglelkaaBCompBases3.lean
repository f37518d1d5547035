/- A claim's texts, in the order of what they need: NumPure, NumRead, LexPure, RefPure, RefKinds, LexNumP, LexGap, LexToks, PTokensx0, PTokensx1. -/
import Derived.Test.YtddmceldglelkaaBCompBases1
import Derived.Test.YtddmceldglelkaaBCompBases2
import Derived.RowKit
import Derived.Laws.Entries
import Derived.Laws.BitsLemmas
import Derived.Lib.Mul64
import Derived.Laws.Bits64b
import Derived.Shelf.Bits.Mul64
import Derived.Lib.AtoiAll
import Derived.Lib.ItoaNum
import Derived.Lib.SlTrimSet
import Derived.Lib.Strings
import Derived.Lib.IndexMore
import Derived.Lib.IndexLaws
import Derived.Test.YtddmceldglelkaaProg
import Derived.Below
import Derived.Deep.Draws
import Derived.Deep.AppendLies
import Derived.Maps.AppendAt
import Derived.OwnWalk
import Derived.Laws.BytesArg
import Derived.Laws.MakeOwn
import Derived.Laws.OwnMore
import Derived.Deep.OwnRows
import Derived.Tactics
import Derived.Lib.ConvBytes
import Derived.Laws.Slices
import Derived.WalkKit
import Derived.KernelRfl
import Derived.RowKit3
import Derived.Deep.LoopGhost
import Derived.Deep.QuietTactic
import Derived.BigQuiet
import Derived.WideLaws
import Derived.Deep.DeepCutAuto
import Derived.Deep.CutBlock
import Derived.Deep.RegionHeld3
import Derived.Laws.Rows
import Derived.Lib.AppendStr
import Derived.ArgAppend
import Derived.Laws.IdiomCopy
import Derived.OrdersHeld
set_option maxRecDepth 100000
set_option maxHeartbeats 8000000
set_option linter.unusedVariables false
set_option linter.unusedSimpArgs false
set_option linter.unusedSectionVars false
namespace Go.Proofs.Ytddmceldglelkaa
namespace NumPure
open Go Go.RowKit
def In (x:Int):Prop:=-9223372036854775808≤x∧x≤9223372036854775807
instance (x:Int):Decidable (In x):=inferInstanceAs (Decidable (_∧_))
def told (x:Int):Int×Int:=if In x then (x,0) else (0,8)
theorem wrap_in {x:Int} (h:In x):wrap64 x=x:=by unfold In at h;unfold wrap64;omega
end NumPure
namespace NumRead
open Go Go.RowKit NumPure
def dig (c:UInt8):Bool:=decide (48≤c.toNat∧c.toNat≤57)
def val (a:Nat) (l:List UInt8):Nat:=l.foldl (fun x c=>x*10+(c.toNat - 48)) a
theorem val_nil (a:Nat):val a []=a:=by unfold val;rw[List.foldl_nil]
theorem val_cons (a:Nat) (c:UInt8) (r:List UInt8):val a (c :: r)=val (a*10+(c.toNat - 48)) r:=by unfold val;rw[List.foldl_cons]
theorem val_ge (l:List UInt8):∀ a:Nat,a≤val a l:=by
 induction l with
 | nil=>intro a;rw[val_nil];exact Zc _
 | cons c r ih=>intro a;rw[val_cons];have:=ih (a*10+(c.toNat - 48));omega
def signed (m:Bool) (v:Nat):Int:=if m=true then -(v:Int) else v
def Bad (l d:List UInt8):Prop:=d=[]∨d.all dig=false∨(d.head?=some 48∧l≠[48])
instance (l d:List UInt8):Decidable (Bad l d):=inferInstanceAs (Decidable (_∨_∨_))
def core (l:List UInt8) (m:Bool) (d:List UInt8):Int×Int:=if Bad l d then (0,7) else told (signed m (val 0 d))
def parseS (l:List UInt8):Int×Int:=if l.head?=some 45 then core l true l.tail else core l false l
end NumRead
namespace LexPure
open Go Go.RowKit NumPure NumRead
def letter (c:UInt8):Bool:=c==95 || (decide (97≤c.toNat)&&decide (c.toNat≤122)) || (decide (65≤c.toNat)&&decide (c.toNat≤90))
def inWord (k:Bool) (c:UInt8):Bool:=letter c || (k&&dig c)
def wd:Bool→List UInt8→Nat
 | _,[]=>0
 | k,c :: r=>if inWord k c=true then wd true r+1 else 0
def word (l:List UInt8):Nat:=wd false l
def more:Nat→List UInt8→Nat
 | 0,_=>0
 | _+1,[]=>0
 | f+1,c :: r=>if c=46∧0<word r then 1+word r+more f (r.drop (word r)) else 0
def name (l:List UInt8):Nat:=if word l=0 then 0 else word l+more l.length (l.drop (word l))
def Word (l:List UInt8):Bool:=decide (l≠[])&&decide (l.length≤64)&&decide (word l=l.length)
def blank (c:UInt8):Bool:=c==32 || c==9 || c==10 || c==13
def eol:List UInt8→Nat
 | []=>0
 | c :: r=>if c=10 then 0 else eol r+1
def close:List UInt8→Option Nat
 | []=>none
 | c :: r=>if [42,47].isPrefixOf (c :: r)=true then some 2 else (close r).map (·+1)
def gap1:List UInt8→Int
 | []=>0
 | c :: r=>if blank c=true then 1 else if [47,47].isPrefixOf (c :: r)=true then (eol (c :: r):Int) else if [47,42].isPrefixOf (c :: r)=true then (match close (r.drop 1) with|none=>-1|some n=>((n+2:Nat):Int)) else 0
def gaps:Nat→List UInt8→Nat×Bool
 | 0,_=>(0,true)
 | f+1,l=>if gap1 l=0 then (0,true) else if gap1 l<0 then (0,false) else ((gap1 l).toNat+(gaps f (l.drop (gap1 l).toNat)).1,(gaps f (l.drop (gap1 l).toNat)).2)
inductive Out where
 | tok (kind:Int) (text:List UInt8) (n:Int) (len:Nat)
 | bad (why:Int) (off:Nat)
 deriving DecidableEq
def run (l:List UInt8):Nat:=(l.takeWhile dig).length
def numLen (l:List UInt8):Nat:=if l.head?=some 48 then 1 else 1+run l.tail
def stands (l:List UInt8):Bool:=match l with|[]=>false|c :: _=>dig c || letter c
def number (l:List UInt8):Out:=
 if stands (l.drop (numLen l))=true then .bad 7 (numLen l) else if (parseS (l.take (numLen l))).2=0 then .tok 2 [] (parseS (l.take (numLen l))).1 (numLen l) else .bad (parseS (l.take (numLen l))).2 0
def esc (c:UInt8):Option UInt8:=if c=34 then some 34 else if c=92 then some 92 else if c=110 then some 10 else if c=116 then some 9 else none
def text (b:List UInt8) (i:Nat):List UInt8→Out
 | []=>.bad 7 0
 | c :: r=>if c=34 then .tok 3 b 0 (i+1) else if c=10 then .bad 7 i else if c=92 then (match r with|[]=>.bad 7 i|d :: r'=>match esc d with|none=>.bad 7 i|some e=>text (b++[e]) (i+2) r') else text (b++[c]) (i+1) r
def heads:List (List UInt8):=[[46,100,101,99,108],[46,116,121,112,101],[46,99,111,109,112],[46,105,110,105,116]]
def twos:List (List UInt8):=[[58,45],[60,58],[60,61],[62,61],[33,61]]
def ones:List UInt8:=[40,41,123,125,44,46,58,124,33,61,60,62,43,45,42,47,37,36]
def signLen (l:List UInt8):Nat:=
 if l.head?=some 46∧heads.contains (l.take (1+word l.tail))=true then 1+word l.tail
 else if twos.contains (l.take 2)=true then 2
 else match l with|[]=>0|c :: _=>if ones.contains c=true then 1 else 0
def sign (l:List UInt8):Out:=if signLen l=0 then .bad 7 0 else .tok 4 (l.take (signLen l)) 0 (signLen l)
def token (l:List UInt8):Out:=
 if 64<name l then .bad 2 0 else if 0<name l then .tok 1 (l.take (name l)) 0 (name l) else match l with|[]=>sign l|c :: r=>if dig c=true then number l else if c=34 then text [] 1 r else sign l
structure T where
 kind:Int
 text:List UInt8
 n:Int
 at_:Nat
 deriving DecidableEq
def toks:Nat→Nat→List UInt8→List T→List T×Int×Int
 | 0,_,_,acc=>(acc,0,0)
 | f+1,p,l,acc=>
   if (gaps l.length l).2=true then
    (match l.drop (gaps l.length l).1 with
     | []=>(acc,0,0)
     | c :: r=>match token (c :: r) with
       | .bad why off=>([],why,((p+(gaps l.length l).1+off:Nat):Int))
       | .tok kind tx n len=>toks f (p+(gaps l.length l).1+len) ((c :: r).drop len) (acc++[⟨kind,tx,n,p+(gaps l.length l).1⟩]))
   else ([],7,((p+(gaps l.length l).1:Nat):Int))
def lex (l:List UInt8):List T×Int×Int:=if 65536<l.length then ([],2,0) else toks (l.length+1) 0 l []
theorem wd_le (l:List UInt8):∀ k,wd k l≤l.length:=by
 induction l with
 | nil=>intro k;exact Zc _
 | cons c r ih => intro k;unfold wd;split
                  · have:=ih true;simp;omega
                  · simp
theorem word_le (l:List UInt8):word l≤l.length:=wd_le l false
theorem more_le:∀ (f:Nat) (l:List UInt8),more f l≤l.length:=by
 intro f;induction f with
 | zero=>intro l;simp[more]
 | succ f ih=>
   intro l;cases l with
   | nil=>simp[more]
   | cons c r=>
     unfold more;split
     · have h1:=word_le r;have h2:=ih (r.drop (word r));rw[List.length_drop] at h2;simp;omega
     · simp
theorem name_le (l:List UInt8):name l≤l.length:=by
 unfold name;split
 · omega
 · have h1:=word_le l;have h2:=more_le l.length (l.drop (word l));rw[List.length_drop] at h2;omega
theorem eol_le (l:List UInt8):eol l≤l.length:=by
 induction l with
 | nil=>simp[eol]
 | cons c r ih=>unfold eol;split <;> simp;omega
theorem close_le (l:List UInt8):∀ n,close l=some n→2≤n∧n≤l.length:=by
 induction l with
 | nil=>intro n h;simp[close] at h
 | cons c r ih=>
   intro n h;unfold close at h;split at h
   · rename_i hp;simp only[Option.some.injEq] at h;have:=List.IsPrefix.length_le (List.isPrefixOf_iff_prefix.1 hp);simp at this ⊢;omega
   · cases hc:close r with
     | none=>rw[hc] at h;simp at h
     | some m=>rw[hc] at h;simp at h;have:=ih m hc;simp;omega
theorem gap1_cons (c:UInt8) (r:List UInt8):gap1 (c :: r)=if blank c=true then 1 else if [47,47].isPrefixOf (c :: r)=true then (eol (c :: r):Int) else if [47,42].isPrefixOf (c :: r)=true then (match close (r.drop 1) with|none=>-1|some n=>((n+2:Nat):Int)) else 0:=rfl
theorem gap1_le (l:List UInt8) : -1≤gap1 l∧gap1 l≤l.length:=by
 cases l with
 | nil=>exact⟨by simp[gap1],by simp[gap1]⟩
 | cons c r=>
   rw[gap1_cons];by_cases h1:blank c=true
   · rw[if_pos h1,Zj];omega
   · rw[if_neg h1];by_cases h2:[47,47].isPrefixOf (c :: r)=true
     · rw[if_pos h2];have:=eol_le (c :: r);omega
     · rw[if_neg h2];by_cases h3:[47,42].isPrefixOf (c :: r)=true
       · rw[if_pos h3];cases hc:close (r.drop 1) with
         | none=>simp only[];omega
         | some n=>have h4:=close_le _ n hc;rw[List.length_drop] at h4;have h5:=List.IsPrefix.length_le (List.isPrefixOf_iff_prefix.1 h3);simp only[Zj,Zk] at h5 ⊢;omega
       · rw[if_neg h3];omega
theorem gaps_le:∀ (f:Nat) (l:List UInt8),(gaps f l).1≤l.length:=by
 intro f;induction f with
 | zero=>intro l;simp[gaps]
 | succ f ih=>
   intro l;have h1:=gap1_le l;unfold gaps;split
   · simp
   · split
     · simp
     · have h2:=ih (l.drop (gap1 l).toNat);rw[List.length_drop] at h2;simp only;omega
end LexPure
namespace RefPure
open Go Go.RowKit NumPure LexPure
def str (l:List UInt8):ByteArray:=⟨l.toArray⟩
structure FieldT where
 name:ByteArray
 type:ByteArray
 deriving DecidableEq,Inhabited
structure CtorT where
 name:ByteArray
 fields:List FieldT
 deriving DecidableEq,Inhabited
structure TDecl where
 name:ByteArray
 sub:ByteArray
 ctors:List CtorT
 at_:Int
 deriving DecidableEq,Inhabited
structure DeclT where
 name:ByteArray
 cols:List FieldT
 input:Bool
 output:Bool
 at_:Int
 deriving DecidableEq,Inhabited
structure InitT where
 name:ByteArray
 comp:ByteArray
 at_:Int
 deriving DecidableEq,Inhabited
structure Ex where
 kind:Int
 n:Int
 s:ByteArray
 kids:List Ex
 at_:Int
structure AtomT where
 rel:ByteArray
 args:List Ex
 at_:Int
structure LitT where
 kind:Int
 atom:AtomT
 op:ByteArray
 l:Ex
 r:Ex
 at_:Int
structure ClauseT where
 head:AtomT
 body:List LitT
 at_:Int
structure CompOf (α:Type) where
 name:ByteArray
 bases:List ByteArray
 body:α
 at_:Int
structure ProgT where
 types:List TDecl
 decls:List DeclT
 comps:List (CompOf ProgT)
 inits:List InitT
 clauses:List ClauseT
abbrev CompT:=CompOf ProgT
def ex0:Ex:=⟨0,0,str [],[],0⟩
def atom0:AtomT:=⟨str [],[],0⟩
def prog0:ProgT:=⟨[],[],[],[],[]⟩
structure St where
 at_:Nat
 deep:Int
 items:Int
 why:Int
 fat:Int
 deriving DecidableEq,Inhabited
def tok0:T:=⟨0,[],0,0⟩
section
variable (ts:List T)
def cur (st:St):T:=ts.getD st.at_ tok0
def nextT (st:St):T:=ts.getD (min (st.at_+1) (ts.length - 1)) tok0
def well (st:St):Bool:=decide (st.why=0)&&decide (st.fat=0)
def fails (why:Int) (st:St):St:=if well st=true then { st with why:=why,fat:=((cur ts st).at_:Int) } else st
def sign (s:List UInt8) (st:St):Bool:=well st&&decide ((cur ts st).kind=4)&&decide ((cur ts st).text=s)
def take (st:St):T×St:=(cur ts st,if well st=true∧st.at_+1<ts.length then { st with at_:=st.at_+1 } else st)
def may (s:List UInt8) (st:St):Bool×St:=if sign ts s st=true then (true,(take ts st).2) else (false,st)
def must (s:List UInt8) (st:St):St:=if (may ts s st).1=true then (may ts s st).2 else fails ts 10 (may ts s st).2
def name (st:St):ByteArray×St:=(str (take ts (if (cur ts st).kind=1 then st else fails ts 10 st)).1.text,(take ts (if (cur ts st).kind=1 then st else fails ts 10 st)).2)
def wordOk (t:T):Bool:=decide (t.kind=1)&&LexPure.Word t.text&&decide (t.text≠[95])
def word (st:St):ByteArray×St:=(str (take ts (if wordOk (cur ts st)=true then st else fails ts 10 st)).1.text,(take ts (if wordOk (cur ts st)=true then st else fails ts 10 st)).2)
def enter (st:St):St:={ (if 32≤st.deep then fails ts 4 st else st) with deep:=wrap64 ((if 32≤st.deep then fails ts 4 st else st).deep+1) }
def leave (st:St):St:={ st with deep:=wrap64 (st.deep - 1) }
def goes (first:Bool) (fin:List UInt8) (st:St):Bool×St:=
 if well st=true then (if first=true∧sign ts fin st=false then (true,st) else if first=true then (false,st) else may ts [44] st) else (false,st)
def goesOn (first:Bool) (between:List UInt8) (st:St):Bool×St:=
 if well st=true then (if first=true then (true,st) else may ts between st) else (false,st)
def many (n most:Nat) (st:St):St:=if most≤n then fails ts 3 st else st
def fieldsL (fin:List UInt8):Nat→Bool→List FieldT→St→Option (List FieldT×St)
 | 0,_,_,_=>none
 | k+1,first,l,st=>
   if (goes ts first fin st).1=true then
    (let st1:=many ts l.length 8 (goes ts first fin st).2
     let n:=word ts st1
     let ty:=name ts (must ts [58] n.2)
     fieldsL fin k false (l++[⟨n.1,ty.1⟩]) ty.2)
   else some (l,(goes ts first fin st).2)
def fields (k:Nat) (op fin:List UInt8) (st:St):Option (List FieldT×St):=
 (fieldsL ts fin k true [] (must ts op st)).bind fun r=>some (r.1,must ts fin r.2)
def ctorsL:Nat→Bool→List CtorT→St→Option (List CtorT×St)
 | 0,_,_,_=>none
 | k+1,first,l,st=>
   if (goesOn ts first [124] st).1=true then
    ((fields ts k [123] [125] (word ts (goesOn ts first [124] st).2).2).bind fun r=>ctorsL k false (l++[⟨(word ts (goesOn ts first [124] st).2).1,r.1⟩]) r.2)
   else some (l,(goesOn ts first [124] st).2)
def kind (k:Nat) (at_:Int) (st:St):Option (TDecl×St):=
 if (may ts [60,58] (word ts st).2).1=true then some (⟨(word ts st).1,(name ts (may ts [60,58] (word ts st).2).2).1,[],at_⟩,(name ts (may ts [60,58] (word ts st).2).2).2)
 else (ctorsL ts k true [] (must ts [61] (may ts [60,58] (word ts st).2).2)).bind fun r=>some (⟨(word ts st).1,str [],r.1,at_⟩,r.2)
def inp:List UInt8:=[105,110,112,117,116]
def outp:List UInt8:=[111,117,116,112,117,116]
def ioGoes (st:St):Bool:=well st&&decide ((cur ts st).kind=1)&&(decide ((cur ts st).text=inp) || decide ((cur ts st).text=outp))&&!(decide ((nextT ts st).kind=4)&&decide ((nextT ts st).text=[40]))
def declL:Nat→DeclT→St→Option (DeclT×St)
 | 0,_,_=>none
 | k+1,d,st=>
   if ioGoes ts st=true then declL k (if (take ts st).1.text=inp then { d with input:=true } else { d with output:=true }) (take ts st).2
   else some (d,st)
def decl (k:Nat) (at_:Int) (st:St):Option (DeclT×St):=
 (fields ts k [40] [41] (word ts st).2).bind fun r=>declL ts k ⟨(word ts st).1,r.1,false,false,at_⟩ r.2
def basesL:Nat→List ByteArray→St→Option (List ByteArray×St)
 | 0,_,_=>none
 | k+1,l,st=>if (may ts [44] st).1=true then basesL k (l++[(name ts (may ts [44] st).2).1]) (name ts (may ts [44] st).2).2 else some (l,(may ts [44] st).2)
def opOf (level:Nat) (st:St):List UInt8:=
 if level=1 then (if sign ts [37] st=true then [37] else if sign ts [47] st=true then [47] else if sign ts [42] st=true then [42] else [])
 else (if sign ts [45] st=true then [45] else if sign ts [43] st=true then [43] else [])
mutual
def expr:Nat→St→Option (Ex×St)
 | 0,_=>none
 | k+1,st=>(if well (enter ts st)=true then row k 0 (enter ts st) else some (ex0,enter ts st)).bind fun r=>some (r.1,leave r.2)
def row:Nat→Nat→St→Option (Ex×St)
 | 0,_,_=>none
 | k+1,level,st=>if level=2 then factor k st else (row k (level+1) st).bind fun r=>rowL k level r.1 r.2
def rowL:Nat→Nat→Ex→St→Option (Ex×St)
 | 0,_,_,_=>none
 | k+1,level,e,st=>
   if well st=true then
    (if opOf ts level st=[] then some (e,st)
     else (row k (level+1) (take ts st).2).bind fun r=>rowL k level ⟨5,0,str (opOf ts level st),[e,r.1],e.at_⟩ r.2)
   else some (e,st)
def factor:Nat→St→Option (Ex×St)
 | 0,_=>none
 | k+1,st=>(if well (enter ts st)=true then one k (enter ts st) else some (ex0,enter ts st)).bind fun r=>some (r.1,leave r.2)
def one:Nat→St→Option (Ex×St)
 | 0,_=>none
 | k+1,st=>
   if (cur ts st).kind=2 then some (⟨2,(take ts st).1.n,str [],[],(cur ts st).at_⟩,(take ts st).2)
   else if (cur ts st).kind=3 then some (⟨3,0,str (take ts st).1.text,[],(cur ts st).at_⟩,(take ts st).2)
   else if (cur ts st).kind=1 then
    (if (cur ts st).text=[95] then some (⟨4,0,str [],[],(cur ts st).at_⟩,(take ts st).2) else some (⟨1,0,(word ts st).1,[],(cur ts st).at_⟩,(word ts st).2))
   else if (may ts [45] st).1=true then
    (if (cur ts (may ts [45] st).2).kind=2 then some (⟨2,wrap64 (-(take ts (may ts [45] st).2).1.n),str [],[],(cur ts st).at_⟩,(take ts (may ts [45] st).2).2)
     else (factor k (may ts [45] st).2).bind fun r=>some (⟨5,0,str [45],[⟨2,0,str [],[],(cur ts st).at_⟩,r.1],(cur ts st).at_⟩,r.2))
   else if (may ts [40] st).1=true then (expr k (may ts [40] st).2).bind fun r=>some (r.1,must ts [41] r.2)
   else if (may ts [36] st).1=true then (exprs k (word ts (may ts [36] st).2).2).bind fun r=>some (⟨6,0,(word ts (may ts [36] st).2).1,r.1,(cur ts st).at_⟩,r.2)
   else some (⟨0,0,str [],[],(cur ts st).at_⟩,fails ts 10 st)
def exprs:Nat→St→Option (List Ex×St)
 | 0,_=>none
 | k+1,st=>(exprsL k true [] (must ts [40] st)).bind fun r=>some (r.1,must ts [41] r.2)
def exprsL:Nat→Bool→List Ex→St→Option (List Ex×St)
 | 0,_,_,_=>none
 | k+1,first,l,st=>
   if (goes ts first [41] st).1=true then (expr k (many ts l.length 8 (goes ts first [41] st).2)).bind fun r=>exprsL k false (l++[r.1]) r.2
   else some (l,(goes ts first [41] st).2)
end
def atom (k:Nat) (st:St):Option (AtomT×St):=(exprs ts k (name ts st).2).bind fun r=>some (⟨(name ts st).1,r.1,(cur ts st).at_⟩,r.2)
def cmpOf (st:St):List UInt8:=
 if sign ts [62,61] st=true then [62,61] else if sign ts [62] st=true then [62] else if sign ts [60,61] st=true then [60,61] else if sign ts [60] st=true then [60] else if sign ts [33,61] st=true then [33,61] else if sign ts [61] st=true then [61] else []
def lit (k:Nat) (st:St):Option (LitT×St):=
 if (may ts [33] st).1=true then (atom ts k (may ts [33] st).2).bind fun r=>some (⟨2,r.1,str [],ex0,ex0,(cur ts st).at_⟩,r.2)
 else if (cur ts st).kind=1∧(nextT ts st).kind=4∧(nextT ts st).text=[40] then (atom ts k st).bind fun r=>some (⟨1,r.1,str [],ex0,ex0,(cur ts st).at_⟩,r.2)
 else (expr ts k st).bind fun a=>(expr ts k (take ts (if cmpOf ts a.2=[] then fails ts 10 a.2 else a.2)).2).bind fun b=>some (⟨3,atom0,str (cmpOf ts a.2),a.1,b.1,(cur ts st).at_⟩,b.2)
def bodyL:Nat→Bool→List LitT→St→Option (List LitT×St)
 | 0,_,_,_=>none
 | k+1,first,l,st=>
   if (goesOn ts first [44] st).1=true then (lit ts k (many ts l.length 16 (goesOn ts first [44] st).2)).bind fun r=>bodyL k false (l++[r.1]) r.2
   else some (l,(goesOn ts first [44] st).2)
def clause (k:Nat) (st:St):Option (ClauseT×St):=
 (atom ts k st).bind fun a=>if (may ts [58,45] a.2).1=true then (bodyL ts k true [] (may ts [58,45] a.2).2).bind fun r=>some (⟨a.1,r.1,(cur ts st).at_⟩,must ts [46] r.2) else some (⟨a.1,[],(cur ts st).at_⟩,must ts [46] (may ts [58,45] a.2).2)
def initOf (at_:Int) (st:St):InitT×St:=(⟨(word ts st).1,(name ts (must ts [61] (word ts st).2)).1,at_⟩,(name ts (must ts [61] (word ts st).2)).2)
def addT (p:ProgT) (t:TDecl):ProgT:={ p with types:=p.types++[t] }
def addD (p:ProgT) (t:DeclT):ProgT:={ p with decls:=p.decls++[t] }
def addC (p:ProgT) (t:CompT):ProgT:={ p with comps:=p.comps++[t] }
def addI (p:ProgT) (t:InitT):ProgT:={ p with inits:=p.inits++[t] }
def addCl (p:ProgT) (t:ClauseT):ProgT:={ p with clauses:=p.clauses++[t] }
def item (st:St):St:=if 96<wrap64 (st.items+1) then fails ts 3 { st with items:=wrap64 (st.items+1) } else { st with items:=wrap64 (st.items+1) }
def kwType:List UInt8:=[46,116,121,112,101]
def kwDecl:List UInt8:=[46,100,101,99,108]
def kwComp:List UInt8:=[46,99,111,109,112]
def kwInit:List UInt8:=[46,105,110,105,116]
def progGoes (st:St):Bool:=well st&&decide ((cur ts st).kind≠0)&&!sign ts [125] st
mutual
def prog:Nat→ProgT→St→Option (ProgT×St)
 | 0,_,_=>none
 | k+1,p,st=>
   if progGoes ts st=true then
    (if (may ts kwType (item ts st)).1=true then (kind ts k (cur ts (item ts st)).at_ (may ts kwType (item ts st)).2).bind fun r=>prog k (addT p r.1) r.2
     else if (may ts kwDecl (item ts st)).1=true then (decl ts k (cur ts (item ts st)).at_ (may ts kwDecl (item ts st)).2).bind fun r=>prog k (addD p r.1) r.2
     else if sign ts kwComp (item ts st)=true then (comp k (cur ts (item ts st)).at_ (take ts (enter ts (item ts st))).2).bind fun r=>prog k (addC p r.1) (leave r.2)
     else if (may ts kwInit (item ts st)).1=true then prog k (addI p (initOf ts (cur ts (item ts st)).at_ (may ts kwInit (item ts st)).2).1) (initOf ts (cur ts (item ts st)).at_ (may ts kwInit (item ts st)).2).2
     else (clause ts k (item ts st)).bind fun r=>prog k (addCl p r.1) r.2)
   else some (p,st)
def comp:Nat→Int→St→Option (CompT×St)
 | 0,_,_=>none
 | k+1,at_,st=>
   (if (may ts [58] (word ts st).2).1=true then basesL ts k [(name ts (may ts [58] (word ts st).2).2).1] (name ts (may ts [58] (word ts st).2).2).2 else some ([],(may ts [58] (word ts st).2).2)).bind fun b=>
   (prog k prog0 (must ts [123] b.2)).bind fun r=>some (⟨(word ts st).1,b.1,r.1,at_⟩,must ts [125] r.2)
end
end
def parse (k:Nat) (l:List UInt8):Option (ProgT×Int×Int):=
 if (lex l).2.1=0∧(lex l).2.2=0 then
  (let ts:=(lex l).1++[⟨0,[],0,l.length⟩]
   (prog ts k prog0 ⟨0,0,0,0,0⟩).bind fun r=>
    let st:=if (cur ts r.2).kind=0 then r.2 else fails ts 10 r.2
    if well st=true then some (r.1,0,0) else some (prog0,st.why,st.fat))
 else some (prog0,(lex l).2.1,(lex l).2.2)
end RefPure
namespace RefKinds
open Go Go.RowKit RefPure YtddmceldglelkaaW.PrintWords
set_option linter.unusedVariables false
def kField:Kd FieldT:=Kd.iso (Kd.pair Kd.string Kd.string) (fun x:FieldT=>(x.name,x.type))
theorem kField_mkM (w:World) (base:Nat) (ok:Nat→Prop) (x:FieldT):kField.M w base ok x [.string x.name,.string x.type]:=by exact⟨[.string x.name],[.string x.type],rfl,rfl,rfl⟩
theorem kField_open {w:World} {x:FieldT} {cs:List Value} (h:kField.K w x cs):cs=[.string x.name,.string x.type]:=by obtain⟨_,_,rfl,rfl,rfl⟩:=h;rfl
def kCtor:Kd CtorT:=Kd.iso (Kd.pair Kd.string (Kd.slice 139 kField)) (fun x:CtorT=>(x.name,x.fields))
theorem kCtor_mkM (w:World) (base:Nat) (ok:Nat→Prop) (x:CtorT) {v_fields:Value} (g_fields:kField.R 139 w base ok v_fields x.fields):kCtor.M w base ok x [.string x.name,v_fields]:=by exact⟨[.string x.name],[v_fields],rfl,rfl,⟨v_fields,rfl,g_fields⟩⟩
theorem kCtor_open {w:World} {x:CtorT} {cs:List Value} (h:kCtor.K w x cs):∃ A_fields c_fields,cs=[.string x.name,.slice A_fields x.fields.length c_fields]∧x.fields.length≤c_fields∧kField.C w A_fields x.fields.length x.fields:=by obtain⟨_,_,rfl,rfl,⟨A_fields,c_fields,rfl,l_fields,g_fields⟩⟩:=h;exact⟨A_fields,c_fields,rfl,l_fields,g_fields⟩
def kTDecl:Kd TDecl:=Kd.iso (Kd.pair Kd.string (Kd.pair Kd.string (Kd.pair (Kd.slice 114 kCtor) (Kd.int .i64)))) (fun x:TDecl=>(x.name,x.sub,x.ctors,x.at_))
theorem kTDecl_mkM (w:World) (base:Nat) (ok:Nat→Prop) (x:TDecl) {v_ctors:Value} (g_ctors:kCtor.R 114 w base ok v_ctors x.ctors):kTDecl.M w base ok x [.string x.name,.string x.sub,v_ctors,.int .i64 x.at_]:=by exact⟨[.string x.name],[.string x.sub,v_ctors,.int .i64 x.at_],rfl,rfl,⟨[.string x.sub],[v_ctors,.int .i64 x.at_],rfl,rfl,⟨[v_ctors],[.int .i64 x.at_],rfl,⟨v_ctors,rfl,g_ctors⟩,rfl⟩⟩⟩
theorem kTDecl_open {w:World} {x:TDecl} {cs:List Value} (h:kTDecl.K w x cs):∃ A_ctors c_ctors,cs=[.string x.name,.string x.sub,.slice A_ctors x.ctors.length c_ctors,.int .i64 x.at_]∧x.ctors.length≤c_ctors∧kCtor.C w A_ctors x.ctors.length x.ctors:=by obtain⟨_,_,rfl,rfl,⟨_,_,rfl,rfl,⟨_,_,rfl,⟨A_ctors,c_ctors,rfl,l_ctors,g_ctors⟩,rfl⟩⟩⟩:=h;exact⟨A_ctors,c_ctors,rfl,l_ctors,g_ctors⟩
def kDecl:Kd DeclT:=Kd.iso (Kd.pair Kd.string (Kd.pair (Kd.slice 139 kField) (Kd.pair Kd.bool (Kd.pair Kd.bool (Kd.int .i64))))) (fun x:DeclT=>(x.name,x.cols,x.input,x.output,x.at_))
theorem kDecl_mkM (w:World) (base:Nat) (ok:Nat→Prop) (x:DeclT) {v_cols:Value} (g_cols:kField.R 139 w base ok v_cols x.cols):kDecl.M w base ok x [.string x.name,v_cols,.bool x.input,.bool x.output,.int .i64 x.at_]:=by exact⟨[.string x.name],[v_cols,.bool x.input,.bool x.output,.int .i64 x.at_],rfl,rfl,⟨[v_cols],[.bool x.input,.bool x.output,.int .i64 x.at_],rfl,⟨v_cols,rfl,g_cols⟩,⟨[.bool x.input],[.bool x.output,.int .i64 x.at_],rfl,rfl,⟨[.bool x.output],[.int .i64 x.at_],rfl,rfl,rfl⟩⟩⟩⟩
theorem kDecl_open {w:World} {x:DeclT} {cs:List Value} (h:kDecl.K w x cs):∃ A_cols c_cols,cs=[.string x.name,.slice A_cols x.cols.length c_cols,.bool x.input,.bool x.output,.int .i64 x.at_]∧x.cols.length≤c_cols∧kField.C w A_cols x.cols.length x.cols:=by obtain⟨_,_,rfl,rfl,⟨_,_,rfl,⟨A_cols,c_cols,rfl,l_cols,g_cols⟩,⟨_,_,rfl,rfl,⟨_,_,rfl,rfl,rfl⟩⟩⟩⟩:=h;exact⟨A_cols,c_cols,rfl,l_cols,g_cols⟩
theorem kDecl_mk (w:World) (x:DeclT) {A_cols:Option Addr} {c_cols:Nat} (l_cols:x.cols.length≤c_cols) (g_cols:kField.C w A_cols x.cols.length x.cols):kDecl.K w x [.string x.name,.slice A_cols x.cols.length c_cols,.bool x.input,.bool x.output,.int .i64 x.at_]:=by exact⟨[.string x.name],[.slice A_cols x.cols.length c_cols,.bool x.input,.bool x.output,.int .i64 x.at_],rfl,rfl,⟨[.slice A_cols x.cols.length c_cols],[.bool x.input,.bool x.output,.int .i64 x.at_],rfl,⟨A_cols,c_cols,rfl,l_cols,g_cols⟩,⟨[.bool x.input],[.bool x.output,.int .i64 x.at_],rfl,rfl,⟨[.bool x.output],[.int .i64 x.at_],rfl,rfl,rfl⟩⟩⟩⟩
def kInit:Kd InitT:=Kd.iso (Kd.pair Kd.string (Kd.pair Kd.string (Kd.int .i64))) (fun x:InitT=>(x.name,x.comp,x.at_))
theorem kInit_mkM (w:World) (base:Nat) (ok:Nat→Prop) (x:InitT):kInit.M w base ok x [.string x.name,.string x.comp,.int .i64 x.at_]:=by exact⟨[.string x.name],[.string x.comp,.int .i64 x.at_],rfl,rfl,⟨[.string x.comp],[.int .i64 x.at_],rfl,rfl,rfl⟩⟩
theorem kInit_open {w:World} {x:InitT} {cs:List Value} (h:kInit.K w x cs):cs=[.string x.name,.string x.comp,.int .i64 x.at_]:=by obtain⟨_,_,rfl,rfl,⟨_,_,rfl,rfl,rfl⟩⟩:=h;rfl
def FEx (d:Kd Ex):Kd Ex:=Kd.iso (Kd.pair (Kd.int .i64) (Kd.pair (Kd.int .i64) (Kd.pair Kd.string (Kd.pair (Kd.slice 56 d) (Kd.int .i64))))) (fun x:Ex=>(x.kind,x.n,x.s,x.kids,x.at_))
theorem monoEx:Kd.Mono FEx:=Kd.mono_iso _ (Kd.mono_pair (Kd.mono_const _) (Kd.mono_pair (Kd.mono_const _) (Kd.mono_pair (Kd.mono_const _) (Kd.mono_pair (Kd.mono_slice 56 Kd.mono_id) (Kd.mono_const _)))))
theorem subEx:Kd.Sub FEx [56]:=Kd.sub_iso _ (Kd.sub_pair (Kd.sub_const _ (by decide)) (Kd.sub_pair (Kd.sub_const _ (by decide)) (Kd.sub_pair (Kd.sub_const _ (by decide)) (Kd.sub_pair (Kd.sub_slice 56 (by decide) Kd.sub_id) (Kd.sub_const _ (by decide))))))
theorem szEx:∀ n,(Kd.upto FEx 5 [56] n).sz=5:=Kd.upto_sz (fun _=>rfl)
def kEx:Kd Ex:=Kd.fix FEx 5 [56] szEx (Kd.upto_E subEx)
theorem kEx_mkM (w:World) (base:Nat) (ok:Nat→Prop) (x:Ex) {v_kids:Value} (g_kids:kEx.R 56 w base ok v_kids x.kids):kEx.M w base ok x [.int .i64 x.kind,.int .i64 x.n,.string x.s,v_kids,.int .i64 x.at_]:=by obtain⟨n,q⟩:=Kd.fix_R_back monoEx g_kids;exact⟨n+1,⟨[.int .i64 x.kind],[.int .i64 x.n,.string x.s,v_kids,.int .i64 x.at_],rfl,rfl,⟨[.int .i64 x.n],[.string x.s,v_kids,.int .i64 x.at_],rfl,rfl,⟨[.string x.s],[v_kids,.int .i64 x.at_],rfl,rfl,⟨[v_kids],[.int .i64 x.at_],rfl,⟨v_kids,rfl,q⟩,rfl⟩⟩⟩⟩⟩
theorem kEx_open {w:World} {x:Ex} {cs:List Value} (h:kEx.K w x cs):∃ A_kids c_kids,cs=[.int .i64 x.kind,.int .i64 x.n,.string x.s,.slice A_kids x.kids.length c_kids,.int .i64 x.at_]∧x.kids.length≤c_kids∧kEx.C w A_kids x.kids.length x.kids:=by
 obtain⟨n,h⟩:=h;cases n with
 | zero=>exact h.elim
 | succ n=>obtain⟨_,_,rfl,rfl,⟨_,_,rfl,rfl,⟨_,_,rfl,rfl,⟨_,_,rfl,⟨A_kids,c_kids,rfl,l_kids,g_kids⟩,rfl⟩⟩⟩⟩:=h;exact⟨A_kids,c_kids,rfl,l_kids,(Kd.fix_C g_kids)⟩
theorem kEx_mk (w:World) (x:Ex) {A_kids:Option Addr} {c_kids:Nat} (l_kids:x.kids.length≤c_kids) (g_kids:kEx.C w A_kids x.kids.length x.kids):kEx.K w x [.int .i64 x.kind,.int .i64 x.n,.string x.s,.slice A_kids x.kids.length c_kids,.int .i64 x.at_]:=by obtain⟨n,q⟩:=Kd.fix_C_back monoEx g_kids;exact⟨n+1,⟨[.int .i64 x.kind],[.int .i64 x.n,.string x.s,.slice A_kids x.kids.length c_kids,.int .i64 x.at_],rfl,rfl,⟨[.int .i64 x.n],[.string x.s,.slice A_kids x.kids.length c_kids,.int .i64 x.at_],rfl,rfl,⟨[.string x.s],[.slice A_kids x.kids.length c_kids,.int .i64 x.at_],rfl,rfl,⟨[.slice A_kids x.kids.length c_kids],[.int .i64 x.at_],rfl,⟨A_kids,c_kids,rfl,l_kids,q⟩,rfl⟩⟩⟩⟩⟩
def kAtom:Kd AtomT:=Kd.iso (Kd.pair Kd.string (Kd.pair (Kd.slice 56 kEx) (Kd.int .i64))) (fun x:AtomT=>(x.rel,x.args,x.at_))
theorem kAtom_mkM (w:World) (base:Nat) (ok:Nat→Prop) (x:AtomT) {v_args:Value} (g_args:kEx.R 56 w base ok v_args x.args):kAtom.M w base ok x [.string x.rel,v_args,.int .i64 x.at_]:=by exact⟨[.string x.rel],[v_args,.int .i64 x.at_],rfl,rfl,⟨[v_args],[.int .i64 x.at_],rfl,⟨v_args,rfl,g_args⟩,rfl⟩⟩
theorem kAtom_open {w:World} {x:AtomT} {cs:List Value} (h:kAtom.K w x cs):∃ A_args c_args,cs=[.string x.rel,.slice A_args x.args.length c_args,.int .i64 x.at_]∧x.args.length≤c_args∧kEx.C w A_args x.args.length x.args:=by obtain⟨_,_,rfl,rfl,⟨_,_,rfl,⟨A_args,c_args,rfl,l_args,g_args⟩,rfl⟩⟩:=h;exact⟨A_args,c_args,rfl,l_args,g_args⟩
theorem kAtom_mk (w:World) (x:AtomT) {A_args:Option Addr} {c_args:Nat} (l_args:x.args.length≤c_args) (g_args:kEx.C w A_args x.args.length x.args):kAtom.K w x [.string x.rel,.slice A_args x.args.length c_args,.int .i64 x.at_]:=by exact⟨[.string x.rel],[.slice A_args x.args.length c_args,.int .i64 x.at_],rfl,rfl,⟨[.slice A_args x.args.length c_args],[.int .i64 x.at_],rfl,⟨A_args,c_args,rfl,l_args,g_args⟩,rfl⟩⟩
def kLit:Kd LitT:=Kd.iso (Kd.pair (Kd.int .i64) (Kd.pair kAtom (Kd.pair Kd.string (Kd.pair kEx (Kd.pair kEx (Kd.int .i64)))))) (fun x:LitT=>(x.kind,x.atom,x.op,x.l,x.r,x.at_))
theorem kLit_mkM (w:World) (base:Nat) (ok:Nat→Prop) (x:LitT) {v_atom_args v_l_kids v_r_kids:Value} (g_atom_args:kEx.R 56 w base ok v_atom_args x.atom.args) (g_l_kids:kEx.R 56 w base ok v_l_kids x.l.kids) (g_r_kids:kEx.R 56 w base ok v_r_kids x.r.kids):kLit.M w base ok x [.int .i64 x.kind,.string x.atom.rel,v_atom_args,.int .i64 x.atom.at_,.string x.op,.int .i64 x.l.kind,.int .i64 x.l.n,.string x.l.s,v_l_kids,.int .i64 x.l.at_,.int .i64 x.r.kind,.int .i64 x.r.n,.string x.r.s,v_r_kids,.int .i64 x.r.at_,.int .i64 x.at_]:=by exact⟨[.int .i64 x.kind],[.string x.atom.rel,v_atom_args,.int .i64 x.atom.at_,.string x.op,.int .i64 x.l.kind,.int .i64 x.l.n,.string x.l.s,v_l_kids,.int .i64 x.l.at_,.int .i64 x.r.kind,.int .i64 x.r.n,.string x.r.s,v_r_kids,.int .i64 x.r.at_,.int .i64 x.at_],rfl,rfl,⟨[.string x.atom.rel,v_atom_args,.int .i64 x.atom.at_],[.string x.op,.int .i64 x.l.kind,.int .i64 x.l.n,.string x.l.s,v_l_kids,.int .i64 x.l.at_,.int .i64 x.r.kind,.int .i64 x.r.n,.string x.r.s,v_r_kids,.int .i64 x.r.at_,.int .i64 x.at_],rfl,(kAtom_mkM w base ok x.atom g_atom_args),⟨[.string x.op],[.int .i64 x.l.kind,.int .i64 x.l.n,.string x.l.s,v_l_kids,.int .i64 x.l.at_,.int .i64 x.r.kind,.int .i64 x.r.n,.string x.r.s,v_r_kids,.int .i64 x.r.at_,.int .i64 x.at_],rfl,rfl,⟨[.int .i64 x.l.kind,.int .i64 x.l.n,.string x.l.s,v_l_kids,.int .i64 x.l.at_],[.int .i64 x.r.kind,.int .i64 x.r.n,.string x.r.s,v_r_kids,.int .i64 x.r.at_,.int .i64 x.at_],rfl,(kEx_mkM w base ok x.l g_l_kids),⟨[.int .i64 x.r.kind,.int .i64 x.r.n,.string x.r.s,v_r_kids,.int .i64 x.r.at_],[.int .i64 x.at_],rfl,(kEx_mkM w base ok x.r g_r_kids),rfl⟩⟩⟩⟩⟩
theorem kLit_open {w:World} {x:LitT} {cs:List Value} (h:kLit.K w x cs):∃ A_atom_args c_atom_args A_l_kids c_l_kids A_r_kids c_r_kids,cs=[.int .i64 x.kind,.string x.atom.rel,.slice A_atom_args x.atom.args.length c_atom_args,.int .i64 x.atom.at_,.string x.op,.int .i64 x.l.kind,.int .i64 x.l.n,.string x.l.s,.slice A_l_kids x.l.kids.length c_l_kids,.int .i64 x.l.at_,.int .i64 x.r.kind,.int .i64 x.r.n,.string x.r.s,.slice A_r_kids x.r.kids.length c_r_kids,.int .i64 x.r.at_,.int .i64 x.at_]∧x.atom.args.length≤c_atom_args∧kEx.C w A_atom_args x.atom.args.length x.atom.args∧x.l.kids.length≤c_l_kids∧kEx.C w A_l_kids x.l.kids.length x.l.kids∧x.r.kids.length≤c_r_kids∧kEx.C w A_r_kids x.r.kids.length x.r.kids:=by obtain⟨_,_,rfl,rfl,⟨_,_,rfl,h_atom,⟨_,_,rfl,rfl,⟨_,_,rfl,h_l,⟨_,_,rfl,h_r,rfl⟩⟩⟩⟩⟩:=h;obtain⟨A_atom_args,c_atom_args,rfl,l_atom_args,g_atom_args⟩:=kAtom_open h_atom;obtain⟨A_l_kids,c_l_kids,rfl,l_l_kids,g_l_kids⟩:=kEx_open h_l;obtain⟨A_r_kids,c_r_kids,rfl,l_r_kids,g_r_kids⟩:=kEx_open h_r;exact⟨A_atom_args,c_atom_args,A_l_kids,c_l_kids,A_r_kids,c_r_kids,rfl,l_atom_args,g_atom_args,l_l_kids,g_l_kids,l_r_kids,g_r_kids⟩
theorem kLit_mk (w:World) (x:LitT) {A_atom_args:Option Addr} {c_atom_args:Nat} {A_l_kids:Option Addr} {c_l_kids:Nat} {A_r_kids:Option Addr} {c_r_kids:Nat} (l_atom_args:x.atom.args.length≤c_atom_args) (g_atom_args:kEx.C w A_atom_args x.atom.args.length x.atom.args) (l_l_kids:x.l.kids.length≤c_l_kids) (g_l_kids:kEx.C w A_l_kids x.l.kids.length x.l.kids) (l_r_kids:x.r.kids.length≤c_r_kids) (g_r_kids:kEx.C w A_r_kids x.r.kids.length x.r.kids):kLit.K w x [.int .i64 x.kind,.string x.atom.rel,.slice A_atom_args x.atom.args.length c_atom_args,.int .i64 x.atom.at_,.string x.op,.int .i64 x.l.kind,.int .i64 x.l.n,.string x.l.s,.slice A_l_kids x.l.kids.length c_l_kids,.int .i64 x.l.at_,.int .i64 x.r.kind,.int .i64 x.r.n,.string x.r.s,.slice A_r_kids x.r.kids.length c_r_kids,.int .i64 x.r.at_,.int .i64 x.at_]:=by exact⟨[.int .i64 x.kind],[.string x.atom.rel,.slice A_atom_args x.atom.args.length c_atom_args,.int .i64 x.atom.at_,.string x.op,.int .i64 x.l.kind,.int .i64 x.l.n,.string x.l.s,.slice A_l_kids x.l.kids.length c_l_kids,.int .i64 x.l.at_,.int .i64 x.r.kind,.int .i64 x.r.n,.string x.r.s,.slice A_r_kids x.r.kids.length c_r_kids,.int .i64 x.r.at_,.int .i64 x.at_],rfl,rfl,⟨[.string x.atom.rel,.slice A_atom_args x.atom.args.length c_atom_args,.int .i64 x.atom.at_],[.string x.op,.int .i64 x.l.kind,.int .i64 x.l.n,.string x.l.s,.slice A_l_kids x.l.kids.length c_l_kids,.int .i64 x.l.at_,.int .i64 x.r.kind,.int .i64 x.r.n,.string x.r.s,.slice A_r_kids x.r.kids.length c_r_kids,.int .i64 x.r.at_,.int .i64 x.at_],rfl,(kAtom_mk w x.atom l_atom_args g_atom_args),⟨[.string x.op],[.int .i64 x.l.kind,.int .i64 x.l.n,.string x.l.s,.slice A_l_kids x.l.kids.length c_l_kids,.int .i64 x.l.at_,.int .i64 x.r.kind,.int .i64 x.r.n,.string x.r.s,.slice A_r_kids x.r.kids.length c_r_kids,.int .i64 x.r.at_,.int .i64 x.at_],rfl,rfl,⟨[.int .i64 x.l.kind,.int .i64 x.l.n,.string x.l.s,.slice A_l_kids x.l.kids.length c_l_kids,.int .i64 x.l.at_],[.int .i64 x.r.kind,.int .i64 x.r.n,.string x.r.s,.slice A_r_kids x.r.kids.length c_r_kids,.int .i64 x.r.at_,.int .i64 x.at_],rfl,(kEx_mk w x.l l_l_kids g_l_kids),⟨[.int .i64 x.r.kind,.int .i64 x.r.n,.string x.r.s,.slice A_r_kids x.r.kids.length c_r_kids,.int .i64 x.r.at_],[.int .i64 x.at_],rfl,(kEx_mk w x.r l_r_kids g_r_kids),rfl⟩⟩⟩⟩⟩
def kClause:Kd ClauseT:=Kd.iso (Kd.pair kAtom (Kd.pair (Kd.slice 58 kLit) (Kd.int .i64))) (fun x:ClauseT=>(x.head,x.body,x.at_))
theorem kClause_mkM (w:World) (base:Nat) (ok:Nat→Prop) (x:ClauseT) {v_head_args v_body:Value} (g_head_args:kEx.R 56 w base ok v_head_args x.head.args) (g_body:kLit.R 58 w base ok v_body x.body):kClause.M w base ok x [.string x.head.rel,v_head_args,.int .i64 x.head.at_,v_body,.int .i64 x.at_]:=by exact⟨[.string x.head.rel,v_head_args,.int .i64 x.head.at_],[v_body,.int .i64 x.at_],rfl,(kAtom_mkM w base ok x.head g_head_args),⟨[v_body],[.int .i64 x.at_],rfl,⟨v_body,rfl,g_body⟩,rfl⟩⟩
theorem kClause_open {w:World} {x:ClauseT} {cs:List Value} (h:kClause.K w x cs):∃ A_head_args c_head_args A_body c_body,cs=[.string x.head.rel,.slice A_head_args x.head.args.length c_head_args,.int .i64 x.head.at_,.slice A_body x.body.length c_body,.int .i64 x.at_]∧x.head.args.length≤c_head_args∧kEx.C w A_head_args x.head.args.length x.head.args∧x.body.length≤c_body∧kLit.C w A_body x.body.length x.body:=by obtain⟨_,_,rfl,h_head,⟨_,_,rfl,⟨A_body,c_body,rfl,l_body,g_body⟩,rfl⟩⟩:=h;obtain⟨A_head_args,c_head_args,rfl,l_head_args,g_head_args⟩:=kAtom_open h_head;exact⟨A_head_args,c_head_args,A_body,c_body,rfl,l_head_args,g_head_args,l_body,g_body⟩
theorem kClause_mk (w:World) (x:ClauseT) {A_head_args:Option Addr} {c_head_args:Nat} {A_body:Option Addr} {c_body:Nat} (l_head_args:x.head.args.length≤c_head_args) (g_head_args:kEx.C w A_head_args x.head.args.length x.head.args) (l_body:x.body.length≤c_body) (g_body:kLit.C w A_body x.body.length x.body):kClause.K w x [.string x.head.rel,.slice A_head_args x.head.args.length c_head_args,.int .i64 x.head.at_,.slice A_body x.body.length c_body,.int .i64 x.at_]:=by exact⟨[.string x.head.rel,.slice A_head_args x.head.args.length c_head_args,.int .i64 x.head.at_],[.slice A_body x.body.length c_body,.int .i64 x.at_],rfl,(kAtom_mk w x.head l_head_args g_head_args),⟨[.slice A_body x.body.length c_body],[.int .i64 x.at_],rfl,⟨A_body,c_body,rfl,l_body,g_body⟩,rfl⟩⟩
def FComp (d:Kd ProgT):Kd CompT:=Kd.iso (Kd.pair Kd.string (Kd.pair (Kd.slice 9 Kd.string) (Kd.pair d (Kd.int .i64)))) (fun x:CompT=>(x.name,x.bases,x.body,x.at_))
theorem monoComp:Kd.Mono FComp:=Kd.mono_iso _ (Kd.mono_pair (Kd.mono_const _) (Kd.mono_pair (Kd.mono_const _) (Kd.mono_pair Kd.mono_id (Kd.mono_const _))))
def FProg (d:Kd ProgT):Kd ProgT:=Kd.iso (Kd.pair (Kd.slice 73 kTDecl) (Kd.pair (Kd.slice 46 kDecl) (Kd.pair (Kd.slice 42 (FComp d)) (Kd.pair (Kd.slice 48 kInit) (Kd.slice 54 kClause))))) (fun x:ProgT=>(x.types,x.decls,x.comps,x.inits,x.clauses))
theorem monoProg:Kd.Mono FProg:=Kd.mono_iso _ (Kd.mono_pair (Kd.mono_const _) (Kd.mono_pair (Kd.mono_const _) (Kd.mono_pair (Kd.mono_slice 42 monoComp) (Kd.mono_pair (Kd.mono_const _) (Kd.mono_const _)))))
theorem subComp:Kd.Sub FComp [139,114,73,46,42,48,56,58,54,9]:=Kd.sub_iso _ (Kd.sub_pair (Kd.sub_const _ (by decide)) (Kd.sub_pair (Kd.sub_const _ (by decide)) (Kd.sub_pair Kd.sub_id (Kd.sub_const _ (by decide)))))
theorem subProg:Kd.Sub FProg [139,114,73,46,42,48,56,58,54,9]:=Kd.sub_iso _ (Kd.sub_pair (Kd.sub_const _ (by decide)) (Kd.sub_pair (Kd.sub_const _ (by decide)) (Kd.sub_pair (Kd.sub_slice 42 (by decide) subComp) (Kd.sub_pair (Kd.sub_const _ (by decide)) (Kd.sub_const _ (by decide))))))
theorem szProg:∀ n,(Kd.upto FProg 5 [139,114,73,46,42,48,56,58,54,9] n).sz=5:=Kd.upto_sz (fun _=>rfl)
def kProg:Kd ProgT:=Kd.fix FProg 5 [139,114,73,46,42,48,56,58,54,9] szProg (Kd.upto_E subProg)
def kComp:Kd CompT:=FComp kProg
theorem comp_C {n:Nat} {w:World} {A:Option Addr} {m:Nat} {xs:List CompT} (h:(FComp (Kd.upto FProg 5 [139,114,73,46,42,48,56,58,54,9] n)).C w A m xs):kComp.C w A m xs:=
 Kd.C_imp (monoComp.sz _ kProg (szProg n)) (fun _ _ _ hp=>monoComp.K _ kProg (szProg n) (fun _ _ _ hq=>⟨n,hq⟩) _ _ _ hp) h
theorem comp_M1 {w:World} {base:Nat} {ok:Nat→Prop} {x:CompT} {cs:List Value} (h:kComp.M w base ok x cs):∃ n,(FComp (Kd.upto FProg 5 [139,114,73,46,42,48,56,58,54,9] n)).M w base ok x cs:=by obtain⟨c0,c1,rfl,h0,⟨c2,c3,rfl,h2,⟨c4,c5,rfl,⟨n,h4⟩,h5⟩⟩⟩:=h;exact⟨n,c0,_,rfl,h0,⟨c2,_,rfl,h2,⟨c4,c5,rfl,h4,h5⟩⟩⟩
theorem comp_K1 {w:World} {x:CompT} {cs:List Value} (h:kComp.K w x cs):∃ n,(FComp (Kd.upto FProg 5 [139,114,73,46,42,48,56,58,54,9] n)).K w x cs:=by obtain⟨c0,c1,rfl,h0,⟨c2,c3,rfl,h2,⟨c4,c5,rfl,⟨n,h4⟩,h5⟩⟩⟩:=h;exact⟨n,c0,_,rfl,h0,⟨c2,_,rfl,h2,⟨c4,c5,rfl,h4,h5⟩⟩⟩
theorem szComp (n:Nat):(FComp (Kd.upto FProg 5 [139,114,73,46,42,48,56,58,54,9] n)).sz=8:=by show 1+(1+((Kd.upto FProg 5 [139,114,73,46,42,48,56,58,54,9] n).sz+1))=8;rw[szProg n]
theorem comp_M_le {n m:Nat} (hnm:n≤m) {w:World} {base:Nat} {ok:Nat→Prop} {x:CompT} {cs:List Value} (h:(FComp (Kd.upto FProg 5 [139,114,73,46,42,48,56,58,54,9] n)).M w base ok x cs):(FComp (Kd.upto FProg 5 [139,114,73,46,42,48,56,58,54,9] m)).M w base ok x cs:=
 monoComp.M _ _ (by rw[szProg n,szProg m]) (fun _ _ _ _ _ hq=>Kd.upto_M_le monoProg szProg hnm hq) _ _ _ _ _ h
theorem comp_K_le {n m:Nat} (hnm:n≤m) {w:World} {x:CompT} {cs:List Value} (h:(FComp (Kd.upto FProg 5 [139,114,73,46,42,48,56,58,54,9] n)).K w x cs):(FComp (Kd.upto FProg 5 [139,114,73,46,42,48,56,58,54,9] m)).K w x cs:=
 monoComp.K _ _ (by rw[szProg n,szProg m]) (fun _ _ _ hq=>Kd.upto_K_le monoProg szProg hnm hq) _ _ _ h
theorem comp_R_back {e:Nat} {w:World} {base:Nat} {ok:Nat→Prop} {v:Value} {xs:List CompT} (h:kComp.R e w base ok v xs):∃ n,(FComp (Kd.upto FProg 5 [139,114,73,46,42,48,56,58,54,9] n)).R e w base ok v xs:=by
 obtain⟨h0,inner,ho,hr⟩:=h;obtain⟨n,hn⟩:=Kd.reps_bounded (R:=fun n p c=>(FComp (Kd.upto FProg 5 [139,114,73,46,42,48,56,58,54,9] n)).M w base (fun k=>ok k∧some k≠v.ownBlock) p c) (fun n m p c hnm hp=>comp_M_le hnm hp) (hr.imp_ (fun _ _ hp=>comp_M1 hp));refine⟨n,h0,inner,?_,?_⟩
 · rw[szComp n];exact ho
 · rw[szComp n];exact hn
theorem comp_C_back {w:World} {A:Option Addr} {m:Nat} {xs:List CompT} (h:kComp.C w A m xs):∃ n,(FComp (Kd.upto FProg 5 [139,114,73,46,42,48,56,58,54,9] n)).C w A m xs:=by
 rcases Nat.eq_zero_or_pos m with hz|hpos
 · subst hz;exact⟨0,h.1,h.2.1,fun hp=>absurd hp (Nat.lt_irrefl 0)⟩
 · obtain⟨ad,e,hc⟩:=h.2.2 hpos
   obtain⟨n,hn⟩:=Kd.bounded (P:=fun n j=>∀ p,xs[j]?=some p→∃ c,c.length=8∧(FComp (Kd.upto FProg 5 [139,114,73,46,42,48,56,58,54,9] n)).K w p c∧∀ i u,c[i]?=some u→w.cell? (ad.add (j*8+i))=some u)
    (fun n n' j hnm hp p hj=>by obtain⟨c,h1,h2,h3⟩:=hp p hj;exact⟨c,h1,comp_K_le hnm h2,h3⟩) xs.length
    (fun j hj=>by
     obtain⟨c,h1,h2,h3⟩:=hc j _ (List.getElem?_eq_getElem hj);obtain⟨n,h4⟩:=comp_K1 h2;refine⟨n,fun p hp=>?_⟩;rw[List.getElem?_eq_getElem hj] at hp;injection hp with hp
     rw[← hp];exact⟨c,h1,h4,h3⟩)
   refine⟨n,h.1,h.2.1,fun _=>⟨ad,e,fun j p hj=>?_⟩⟩;rw[szComp n];exact hn j (Zq hj).1 p hj
theorem kProg_mkM (w:World) (base:Nat) (ok:Nat→Prop) (x:ProgT) {v_types v_decls v_comps v_inits v_clauses:Value} (g_types:kTDecl.R 73 w base ok v_types x.types) (g_decls:kDecl.R 46 w base ok v_decls x.decls) (g_comps:kComp.R 42 w base ok v_comps x.comps) (g_inits:kInit.R 48 w base ok v_inits x.inits) (g_clauses:kClause.R 54 w base ok v_clauses x.clauses):kProg.M w base ok x [v_types,v_decls,v_comps,v_inits,v_clauses]:=by obtain⟨n,q⟩:=comp_R_back g_comps;exact⟨n+1,⟨[v_types],[v_decls,v_comps,v_inits,v_clauses],rfl,⟨v_types,rfl,g_types⟩,⟨[v_decls],[v_comps,v_inits,v_clauses],rfl,⟨v_decls,rfl,g_decls⟩,⟨[v_comps],[v_inits,v_clauses],rfl,⟨v_comps,rfl,q⟩,⟨[v_inits],[v_clauses],rfl,⟨v_inits,rfl,g_inits⟩,⟨v_clauses,rfl,g_clauses⟩⟩⟩⟩⟩⟩
theorem kProg_open {w:World} {x:ProgT} {cs:List Value} (h:kProg.K w x cs):∃ A_types c_types A_decls c_decls A_comps c_comps A_inits c_inits A_clauses c_clauses,cs=[.slice A_types x.types.length c_types,.slice A_decls x.decls.length c_decls,.slice A_comps x.comps.length c_comps,.slice A_inits x.inits.length c_inits,.slice A_clauses x.clauses.length c_clauses]∧x.types.length≤c_types∧kTDecl.C w A_types x.types.length x.types∧x.decls.length≤c_decls∧kDecl.C w A_decls x.decls.length x.decls∧x.comps.length≤c_comps∧kComp.C w A_comps x.comps.length x.comps∧x.inits.length≤c_inits∧kInit.C w A_inits x.inits.length x.inits∧x.clauses.length≤c_clauses∧kClause.C w A_clauses x.clauses.length x.clauses:=by
 obtain⟨n,h⟩:=h;cases n with
 | zero=>exact h.elim
 | succ n=>obtain⟨_,_,rfl,⟨A_types,c_types,rfl,l_types,g_types⟩,⟨_,_,rfl,⟨A_decls,c_decls,rfl,l_decls,g_decls⟩,⟨_,_,rfl,⟨A_comps,c_comps,rfl,l_comps,g_comps⟩,⟨_,_,rfl,⟨A_inits,c_inits,rfl,l_inits,g_inits⟩,⟨A_clauses,c_clauses,rfl,l_clauses,g_clauses⟩⟩⟩⟩⟩:=h;exact⟨A_types,c_types,A_decls,c_decls,A_comps,c_comps,A_inits,c_inits,A_clauses,c_clauses,rfl,l_types,g_types,l_decls,g_decls,l_comps,(comp_C g_comps),l_inits,g_inits,l_clauses,g_clauses⟩
theorem kProg_mk (w:World) (x:ProgT) {A_types:Option Addr} {c_types:Nat} {A_decls:Option Addr} {c_decls:Nat} {A_comps:Option Addr} {c_comps:Nat} {A_inits:Option Addr} {c_inits:Nat} {A_clauses:Option Addr} {c_clauses:Nat} (l_types:x.types.length≤c_types) (g_types:kTDecl.C w A_types x.types.length x.types) (l_decls:x.decls.length≤c_decls) (g_decls:kDecl.C w A_decls x.decls.length x.decls) (l_comps:x.comps.length≤c_comps) (g_comps:kComp.C w A_comps x.comps.length x.comps) (l_inits:x.inits.length≤c_inits) (g_inits:kInit.C w A_inits x.inits.length x.inits) (l_clauses:x.clauses.length≤c_clauses) (g_clauses:kClause.C w A_clauses x.clauses.length x.clauses):kProg.K w x [.slice A_types x.types.length c_types,.slice A_decls x.decls.length c_decls,.slice A_comps x.comps.length c_comps,.slice A_inits x.inits.length c_inits,.slice A_clauses x.clauses.length c_clauses]:=by obtain⟨n,q⟩:=comp_C_back g_comps;exact⟨n+1,⟨[.slice A_types x.types.length c_types],[.slice A_decls x.decls.length c_decls,.slice A_comps x.comps.length c_comps,.slice A_inits x.inits.length c_inits,.slice A_clauses x.clauses.length c_clauses],rfl,⟨A_types,c_types,rfl,l_types,g_types⟩,⟨[.slice A_decls x.decls.length c_decls],[.slice A_comps x.comps.length c_comps,.slice A_inits x.inits.length c_inits,.slice A_clauses x.clauses.length c_clauses],rfl,⟨A_decls,c_decls,rfl,l_decls,g_decls⟩,⟨[.slice A_comps x.comps.length c_comps],[.slice A_inits x.inits.length c_inits,.slice A_clauses x.clauses.length c_clauses],rfl,⟨A_comps,c_comps,rfl,l_comps,q⟩,⟨[.slice A_inits x.inits.length c_inits],[.slice A_clauses x.clauses.length c_clauses],rfl,⟨A_inits,c_inits,rfl,l_inits,g_inits⟩,⟨A_clauses,c_clauses,rfl,l_clauses,g_clauses⟩⟩⟩⟩⟩⟩
theorem kComp_mkM (w:World) (base:Nat) (ok:Nat→Prop) (x:CompT) {v_bases v_body_types v_body_decls v_body_comps v_body_inits v_body_clauses:Value} (g_bases:Kd.string.R 9 w base ok v_bases x.bases) (g_body_types:kTDecl.R 73 w base ok v_body_types x.body.types) (g_body_decls:kDecl.R 46 w base ok v_body_decls x.body.decls) (g_body_comps:kComp.R 42 w base ok v_body_comps x.body.comps) (g_body_inits:kInit.R 48 w base ok v_body_inits x.body.inits) (g_body_clauses:kClause.R 54 w base ok v_body_clauses x.body.clauses):kComp.M w base ok x [.string x.name,v_bases,v_body_types,v_body_decls,v_body_comps,v_body_inits,v_body_clauses,.int .i64 x.at_]:=by exact⟨[.string x.name],[v_bases,v_body_types,v_body_decls,v_body_comps,v_body_inits,v_body_clauses,.int .i64 x.at_],rfl,rfl,⟨[v_bases],[v_body_types,v_body_decls,v_body_comps,v_body_inits,v_body_clauses,.int .i64 x.at_],rfl,⟨v_bases,rfl,g_bases⟩,⟨[v_body_types,v_body_decls,v_body_comps,v_body_inits,v_body_clauses],[.int .i64 x.at_],rfl,(kProg_mkM w base ok x.body g_body_types g_body_decls g_body_comps g_body_inits g_body_clauses),rfl⟩⟩⟩
theorem kComp_mk (w:World) (x:CompT) {A_bases:Option Addr} {c_bases:Nat} {A_body_types:Option Addr} {c_body_types:Nat} {A_body_decls:Option Addr} {c_body_decls:Nat} {A_body_comps:Option Addr} {c_body_comps:Nat} {A_body_inits:Option Addr} {c_body_inits:Nat} {A_body_clauses:Option Addr} {c_body_clauses:Nat} (l_bases:x.bases.length≤c_bases) (g_bases:Kd.string.C w A_bases x.bases.length x.bases) (l_body_types:x.body.types.length≤c_body_types) (g_body_types:kTDecl.C w A_body_types x.body.types.length x.body.types) (l_body_decls:x.body.decls.length≤c_body_decls) (g_body_decls:kDecl.C w A_body_decls x.body.decls.length x.body.decls) (l_body_comps:x.body.comps.length≤c_body_comps) (g_body_comps:kComp.C w A_body_comps x.body.comps.length x.body.comps) (l_body_inits:x.body.inits.length≤c_body_inits) (g_body_inits:kInit.C w A_body_inits x.body.inits.length x.body.inits) (l_body_clauses:x.body.clauses.length≤c_body_clauses) (g_body_clauses:kClause.C w A_body_clauses x.body.clauses.length x.body.clauses):kComp.K w x [.string x.name,.slice A_bases x.bases.length c_bases,.slice A_body_types x.body.types.length c_body_types,.slice A_body_decls x.body.decls.length c_body_decls,.slice A_body_comps x.body.comps.length c_body_comps,.slice A_body_inits x.body.inits.length c_body_inits,.slice A_body_clauses x.body.clauses.length c_body_clauses,.int .i64 x.at_]:=by exact⟨[.string x.name],[.slice A_bases x.bases.length c_bases,.slice A_body_types x.body.types.length c_body_types,.slice A_body_decls x.body.decls.length c_body_decls,.slice A_body_comps x.body.comps.length c_body_comps,.slice A_body_inits x.body.inits.length c_body_inits,.slice A_body_clauses x.body.clauses.length c_body_clauses,.int .i64 x.at_],rfl,rfl,⟨[.slice A_bases x.bases.length c_bases],[.slice A_body_types x.body.types.length c_body_types,.slice A_body_decls x.body.decls.length c_body_decls,.slice A_body_comps x.body.comps.length c_body_comps,.slice A_body_inits x.body.inits.length c_body_inits,.slice A_body_clauses x.body.clauses.length c_body_clauses,.int .i64 x.at_],rfl,⟨A_bases,c_bases,rfl,l_bases,g_bases⟩,⟨[.slice A_body_types x.body.types.length c_body_types,.slice A_body_decls x.body.decls.length c_body_decls,.slice A_body_comps x.body.comps.length c_body_comps,.slice A_body_inits x.body.inits.length c_body_inits,.slice A_body_clauses x.body.clauses.length c_body_clauses],[.int .i64 x.at_],rfl,(kProg_mk w x.body l_body_types g_body_types l_body_decls g_body_decls l_body_comps g_body_comps l_body_inits g_body_inits l_body_clauses g_body_clauses),rfl⟩⟩⟩
end RefKinds
namespace LexNumP
open Go Go.RowKit NumRead LexPure
theorem run_cons (c:UInt8) (r:List UInt8):run (c :: r)=if dig c=true then run r+1 else 0:=by unfold run;rw[List.takeWhile_cons];split <;> simp
theorem numLen_zero (r:List UInt8):numLen (48 :: r)=1:=rfl
theorem take_run:∀ (l:List UInt8),(l.take (run l)).all dig=true:=by
 intro l;induction l with
 | nil=>rfl
 | cons c r ih=>
   rw[run_cons];by_cases hc:dig c=true
   · rw[if_pos hc,List.take_succ_cons,List.all_cons,hc,ih];rfl
   · rw[if_neg hc];rfl
end LexNumP
namespace LexGap
open Go Go.RowKit LexPure
theorem gaps_rounds:∀ (f g:Nat) (l:List UInt8),l.length≤f→l.length≤g→gaps f l=gaps g l:=by
 intro f;induction f with
 | zero=>
   intro g l hf hg;obtain rfl:l=[]:=List.eq_nil_of_length_eq_zero (by omega);cases g with
   | zero=>rfl
   | succ g=>simp[gaps,gap1]
 | succ f ih=>
   intro g l hf hg;cases g with
   | zero=>obtain rfl:l=[]:=List.eq_nil_of_length_eq_zero (by omega);simp[gaps,gap1]
   | succ g=>
     have h1:=gap1_le l;simp only[gaps];by_cases h0:gap1 l=0
     · rw[if_pos h0,if_pos h0]
     · by_cases h2:gap1 l<0
       · rw[if_neg h0,if_neg h0,if_pos h2,if_pos h2]
       · have hl:(l.drop (gap1 l).toNat).length≤l.length - 1:=(by rw[List.length_drop];omega);rw[ih g (l.drop (gap1 l).toNat) (by omega) (by omega)]
def G (l:List UInt8):Nat×Bool:=gaps l.length l
theorem G_le (l:List UInt8):(G l).1≤l.length:=gaps_le _ l
theorem G_none {l:List UInt8} (h:gap1 l=0):G l=(0,true):=by
 unfold G;cases hl:l.length with
 | zero=>rfl
 | succ f=>simp only[gaps];rw[if_pos h]
theorem G_open {l:List UInt8} (h:gap1 l<0):G l=(0,false):=by
 unfold G;cases hl:l.length with
 | zero => obtain rfl:l=[]:=List.eq_nil_of_length_eq_zero hl
           simp[gap1] at h
 | succ f=>simp only[gaps];rw[if_neg (by omega),if_pos h]
theorem G_some {l:List UInt8} {n:Nat} (h:gap1 l=n) (hn:0<n):G l=(n+(G (l.drop n)).1,(G (l.drop n)).2):=by
 have h1:=gap1_le l;unfold G;cases hl:l.length with
 | zero=>omega
 | succ f=>have hd:(l.drop n).length≤f:=(by rw[List.length_drop];omega);simp only[gaps];rw[if_neg (by omega),if_neg (by omega),h,Int.toNat_natCast,gaps_rounds f (l.drop n).length (l.drop n) hd (Zc _)]
end LexGap
namespace LexToks
open Go Go.RowKit NumPure NumRead LexPure LexGap
theorem run_le (l:List UInt8):run l≤l.length:=List.Sublist.length_le (List.takeWhile_sublist dig)
theorem numLen_bound (c:UInt8) (r:List UInt8):1≤numLen (c :: r)∧numLen (c :: r)≤(c :: r).length:=by
 have:=run_le r;unfold numLen;split
 · simp
 · simp;omega
theorem text_le:∀ (n:Nat) (r:List UInt8),r.length≤n→∀ b i kd tx m len,text b i r=.tok kd tx m len→i+1≤len∧len≤i+r.length:=by
 intro n;induction n with
 | zero=>intro r hr b i kd tx m len h;obtain rfl:r=[]:=List.eq_nil_of_length_eq_zero (by omega);simp[text] at h
 | succ n ih=>
   intro r hr b i kd tx m len h;cases r with
   | nil=>simp[text] at h
   | cons c r=>
     have hc:text b i (c :: r)=if c=34 then .tok 3 b 0 (i+1) else if c=10 then .bad 7 i else if c=92 then (match r with|[]=>.bad 7 i|d :: r'=>match esc d with|none=>.bad 7 i|some e=>text (b++[e]) (i+2) r') else text (b++[c]) (i+1) r:=by
      cases r with
      | nil=>rfl
      | cons d r=>rfl
     rw[hc] at h;simp at hr;split at h
     · injection h with _ _ _ h4
       simp;omega
     · split at h
       · cases h
       · split at h
         · cases r with
           | nil=>simp at h
           | cons d r=>
             simp only[] at h;cases he:esc d with
             | none=>rw[he] at h;simp at h
             | some e=>rw[he] at h;simp at hr;have:=ih r (by omega) _ _ _ _ _ _ h;simp;omega
         · have:=ih r (by omega) _ _ _ _ _ _ h;simp;omega
theorem signLen_le (c:UInt8) (r:List UInt8):signLen (c :: r)≤(c :: r).length:=by
 have:=word_le r;unfold signLen;split
 · simp;omega
 · split
   · rename_i h;cases r with
     | nil=>simp[twos] at h
     | cons d r=>simp
   · simp only[];split <;> simp
theorem token_cons (c:UInt8) (r:List UInt8):token (c :: r)=if 64<name (c :: r) then .bad 2 0 else if 0<name (c :: r) then .tok 1 ((c :: r).take (name (c :: r))) 0 (name (c :: r)) else if dig c=true then number (c :: r) else if c=34 then text [] 1 r else sign (c :: r):=rfl
theorem token_le (c:UInt8) (r:List UInt8) (kd:Int) (tx:List UInt8) (m:Int) (len:Nat) (h:token (c :: r)=.tok kd tx m len):1≤len∧len≤(c :: r).length:=by
 rw[token_cons] at h;have h1:=name_le (c :: r);split at h
 · cases h
 · split at h
   · injection h with _ _ _ h4
     omega
   · split at h
     · have:=numLen_bound c r;unfold number at h;split at h
       · cases h
       · split at h
         · injection h with _ _ _ h4
           omega
         · cases h
     · split at h
       · have:=text_le _ r (Zc _) _ _ _ _ _ _ h;simp;omega
       · have:=signLen_le c r;unfold sign at h;split at h
         · cases h
         · injection h with _ _ _ h4
           omega
def aft (f p:Nat) (l:List UInt8) (acc:List T):List T×Int×Int:=
 match l with
 | []=>(acc,0,0)
 | c :: r=>match token (c :: r) with
   | .bad why off=>([],why,((p+off:Nat):Int))
   | .tok kind tx n len=>toks f (p+len) ((c :: r).drop len) (acc++[⟨kind,tx,n,p⟩])
theorem toks_ok {f p:Nat} {l:List UInt8} {acc:List T} (h:(G l).2=true):toks (f+1) p l acc=aft f (p+(G l).1) (l.drop (G l).1) acc:=by unfold G at *;simp only[toks];rw[if_pos h];rfl
theorem toks_bad {f p:Nat} {l:List UInt8} {acc:List T} (h:(G l).2=false):toks (f+1) p l acc=([],7,((p+(G l).1:Nat):Int)):=by unfold G at *;simp only[toks];rw[if_neg (by rw[h];decide)]
theorem aft_nil (f p:Nat) (acc:List T):aft f p [] acc=(acc,0,0):=rfl
theorem aft_tok {f p:Nat} {c:UInt8} {r:List UInt8} {acc:List T} {kd:Int} {tx:List UInt8} {n:Int} {len:Nat} (h:token (c :: r)=.tok kd tx n len):aft f p (c :: r) acc=toks f (p+len) ((c :: r).drop len) (acc++[⟨kd,tx,n,p⟩]):=by unfold aft;simp only[h]
theorem aft_bad {f p:Nat} {c:UInt8} {r:List UInt8} {acc:List T} {why:Int} {off:Nat} (h:token (c :: r)=.bad why off):aft f p (c :: r) acc=([],why,((p+off:Nat):Int)):=by unfold aft;simp only[h]
end LexToks
namespace PTokens
open Go.RowKit YtddmceldglelkaaW.PrintWords YtddmceldglelkaaW.PrintLast YtddmceldglelkaaW.PrintMore
attribute [local go_sem] max2_int min2_int max_two min_two max_three min_three max_four min_four
set_option linter.unusedVariables false
set_option linter.unusedSimpArgs false
theorem info5:(Try.prog.info? 5).map (fun i=>(i.zero,i.size,i.bytes))=some (some (.int .u8 0),1,1):=by kernel_rfl
theorem info63:(Try.prog.info? 63).map (fun i=>(i.zero,i.size,i.bytes))=some (some (.agg #[(.int .i64 0),(.string ⟨#[]⟩),(.int .i64 0),(.int .i64 0)]),4,40):=by kernel_rfl
structure S63 where
 f0:Int
 f1:ByteArray
 f2:Int
 f3:Int
def k63:Kd S63:=Kd.iso (Kd.pair (Kd.int .i64) (Kd.pair Kd.string (Kd.pair (Kd.int .i64) (Kd.int .i64)))) (fun x:S63=>(x.f0,x.f1,x.f2,x.f3))
theorem k63_open {w:World} {x:S63} {cs:List Value} (h:k63.K w x cs):cs=[.int .i64 x.f0,.string x.f1,.int .i64 x.f2,.int .i64 x.f3]:=by obtain⟨_,_,rfl,rfl,⟨_,_,rfl,rfl,⟨_,_,rfl,rfl,rfl⟩⟩⟩:=h;exact rfl
theorem k63_mkM (w:World) (base:Nat) (ok:Nat→Prop) (x:S63)  : k63.M w base ok x [.int .i64 x.f0,.string x.f1,.int .i64 x.f2,.int .i64 x.f3]:=⟨[.int .i64 x.f0],[.string x.f1,.int .i64 x.f2,.int .i64 x.f3],rfl,rfl,⟨[.string x.f1],[.int .i64 x.f2,.int .i64 x.f3],rfl,rfl,⟨[.int .i64 x.f2],[.int .i64 x.f3],rfl,rfl,rfl⟩⟩⟩
end PTokens
namespace PTokens
open Go.RowKit YtddmceldglelkaaW.PrintWords YtddmceldglelkaaW.PrintLast YtddmceldglelkaaW.PrintMore
attribute [local go_sem] max2_int min2_int max_two min_two max_three min_three max_four min_four
set_option linter.unusedVariables false
set_option linter.unusedSimpArgs false
theorem eqA31 (d:Nat) (w:World) (x0 y0:Int) (x1 y1:Int) :
    (Op.equalIn (d+2) 31 (.agg #[.int .i64 x0,.int .i64 x1]) (.agg #[.int .i64 y0,.int .i64 y1])).run Try.prog w=.ok (x0==y0&&(x1==y1)) w:=by
 refine eqA_of Try.underlying31 (by kernel_rfl) ?_;refine eqf_cons (by rfl) (by go_simp;rfl) (by go_simp;rfl) (by go_simp) ?_;exact eqf_last (by rfl) (by go_simp;rfl) (by go_simp;rfl) (by go_simp)
end PTokens
end Go.Proofs.Ytddmceldglelkaa
