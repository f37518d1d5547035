/- A claim's texts, in the order of what they need: RefAll, RefCells, RefTotal, RefLex. -/
import Derived.Test.YtddmceldglelkaaBCompBases3
import Derived.Test.YtddmceldglelkaaBCompBases8
import Derived.Test.YtddmceldglelkaaBCompBases14
set_option maxRecDepth 100000
set_option maxHeartbeats 8000000
set_option linter.unusedVariables false
set_option linter.unusedSimpArgs false
set_option linter.unusedSectionVars false
namespace Go.Proofs.Ytddmceldglelkaa
namespace RefAll
open Go Go.RowKit RefPure RefKinds RefMem RefExprs RefExpr RefOne RefNeg RefRow YtddmceldglelkaaW.PrintWords
open LexPure (T lex)
section
variable (ts:List T)
theorem row_step (k:Nat) (ih:∀ j,j≤k→PRow ts j) (ihF:PFactor ts k):PRow ts (k+1):=by
 intro w g v st r level hl h hF;rcases (by omega:level=0∨level=1∨level=2) with rfl|rfl|rfl
 · exact row_0 ts k ih w g v st r h hF
 · exact row_1 ts k ih w g v st r h hF
 · exact row_2 ts k w g v st r h hF (Za ihF)
theorem exprs_all (n:Nat):∀ k,k≤n→k≤549755813888→PExpr ts k∧PRow ts k∧PFactor ts k∧POne ts k∧PExprs ts k:=by
 induction n with
 | zero=>
   intro k hk _;have h0:k=0:=(by omega);subst h0;refine⟨?_,?_,?_,?_,?_⟩
   · intro w g v st r _ hF;exact absurd hF (by simp[expr])
   · intro w g v st r l _ _ hF;exact absurd hF (by simp[row])
   · intro w g v st r _ hF;exact absurd hF (by simp[factor])
   · intro w g v st r _ hF;exact absurd hF (by simp[one])
   · intro w g v st r _ hF;exact absurd hF (by simp[exprs])
 | succ n ih=>
   intro k hk hb;rcases Nat.lt_or_ge k (n+1) with hlt|hge
   · exact ih k (by omega) hb
   have he:k=n+1:=(by omega);subst he;have hn:=ih n (Zc _) (by omega);refine⟨expr_step ts n hn.2.1,row_step ts n (fun j hj=>(ih j hj (by omega)).2.1) hn.2.2.1,factor_step ts n hn.2.2.2.1,one_step ts n hn.1 hn.2.2.1 hn.2.2.2.2,exprs_step ts n (by omega) (fun j hj=>(ih j hj (by omega)).1)⟩
end
end RefAll
namespace RefCells
open Go Go.RowKit RefPure RefKinds RefMem RefTake RefSmall RefFields RefExprs RefExpr RefOne YtddmceldglelkaaW.PrintWords
open LexPure (T lex)
section
variable {w W:World} {X g:Nat}
abbrev s2 (W:World) (X:Nat) (a0 a1:Value):World:=((W.setCell ⟨X,0,none⟩ a0).setCell ⟨X,1,none⟩ a1)
theorem s2_blk {a0 a1 b0 b1:Value} {t:TypeId} (h:Blk W X t #[b0,b1]):Blk (s2 W X a0 a1) X t #[a0,a1]:=((h).set_ 0 a0).set_ 1 a1
theorem s2_cells {t:TypeId} {a0 a1:Value} (h:Blk W X t #[a0,a1]):W.cell? ⟨X,0,none⟩=some a0∧W.cell? ⟨X,1,none⟩=some a1:=⟨h.cell 0,h.cell 1⟩
theorem s2_frozen {t:TypeId} {cs:Array Value} (h:Blk W X t cs):W.frozen? ⟨X,0,none⟩=false∧W.frozen? ⟨X,1,none⟩=false:=⟨h.frozen 0,h.frozen 1⟩
abbrev s3 (W:World) (X:Nat) (a0 a1 a2:Value):World:=(((W.setCell ⟨X,0,none⟩ a0).setCell ⟨X,1,none⟩ a1).setCell ⟨X,2,none⟩ a2)
theorem s3_blk {a0 a1 a2 b0 b1 b2:Value} {t:TypeId} (h:Blk W X t #[b0,b1,b2]):Blk (s3 W X a0 a1 a2) X t #[a0,a1,a2]:=(((h).set_ 0 a0).set_ 1 a1).set_ 2 a2
theorem s3_RS {a0 a1 a2:Value} {v:Value} {ts:List T} {st:St} (h:RS W g v ts st) (hX:g<X∧∀ b,v.ownBlock=some b→b<X):RS (s3 W X a0 a1 a2) g v ts st:=RS.other (RS.other (RS.other (h) hX 0 _) hX 1 _) hX 2 _
theorem s3_gr {a0 a1 a2:Value} (h:w.grownBy W (some g)) (hX:w.heap.size≤X):w.grownBy (s3 W X a0 a1 a2) (some g):=Zx (Zx (Zx (h) hX 0 _) hX 1 _) hX 2 _
theorem s3_R {a0 a1 a2:Value} {α:Type} {k:Kd α} {t base:Nat} {ok:Nat→Prop} {vl:Value} {l:List α} (h:k.R t W base ok vl l) (hX:∀ b,ok b→b≠X):k.R t (s3 W X a0 a1 a2) base ok vl l:=Kd.R_far (Kd.R_far (Kd.R_far (h) (p:=⟨X,0,none⟩) hX _) (p:=⟨X,1,none⟩) hX _) (p:=⟨X,2,none⟩) hX _
theorem s3_cells {t:TypeId} {a0 a1 a2:Value} (h:Blk W X t #[a0,a1,a2]):W.cell? ⟨X,0,none⟩=some a0∧W.cell? ⟨X,1,none⟩=some a1∧W.cell? ⟨X,2,none⟩=some a2:=⟨h.cell 0,h.cell 1,h.cell 2⟩
theorem s3_frozen {t:TypeId} {cs:Array Value} (h:Blk W X t cs):W.frozen? ⟨X,0,none⟩=false∧W.frozen? ⟨X,1,none⟩=false∧W.frozen? ⟨X,2,none⟩=false:=⟨h.frozen 0,h.frozen 1,h.frozen 2⟩
abbrev s4 (W:World) (X:Nat) (a0 a1 a2 a3:Value):World:=((((W.setCell ⟨X,0,none⟩ a0).setCell ⟨X,1,none⟩ a1).setCell ⟨X,2,none⟩ a2).setCell ⟨X,3,none⟩ a3)
theorem s4_blk {a0 a1 a2 a3 b0 b1 b2 b3:Value} {t:TypeId} (h:Blk W X t #[b0,b1,b2,b3]):Blk (s4 W X a0 a1 a2 a3) X t #[a0,a1,a2,a3]:=((((h).set_ 0 a0).set_ 1 a1).set_ 2 a2).set_ 3 a3
theorem s4_RS {a0 a1 a2 a3:Value} {v:Value} {ts:List T} {st:St} (h:RS W g v ts st) (hX:g<X∧∀ b,v.ownBlock=some b→b<X):RS (s4 W X a0 a1 a2 a3) g v ts st:=RS.other (RS.other (RS.other (RS.other (h) hX 0 _) hX 1 _) hX 2 _) hX 3 _
theorem s4_gr {a0 a1 a2 a3:Value} (h:w.grownBy W (some g)) (hX:w.heap.size≤X):w.grownBy (s4 W X a0 a1 a2 a3) (some g):=Zx (Zx (Zx (Zx (h) hX 0 _) hX 1 _) hX 2 _) hX 3 _
theorem s4_R {a0 a1 a2 a3:Value} {α:Type} {k:Kd α} {t base:Nat} {ok:Nat→Prop} {vl:Value} {l:List α} (h:k.R t W base ok vl l) (hX:∀ b,ok b→b≠X):k.R t (s4 W X a0 a1 a2 a3) base ok vl l:=Kd.R_far (Kd.R_far (Kd.R_far (Kd.R_far (h) (p:=⟨X,0,none⟩) hX _) (p:=⟨X,1,none⟩) hX _) (p:=⟨X,2,none⟩) hX _) (p:=⟨X,3,none⟩) hX _
theorem s4_cells {t:TypeId} {a0 a1 a2 a3:Value} (h:Blk W X t #[a0,a1,a2,a3]):W.cell? ⟨X,0,none⟩=some a0∧W.cell? ⟨X,1,none⟩=some a1∧W.cell? ⟨X,2,none⟩=some a2∧W.cell? ⟨X,3,none⟩=some a3:=⟨h.cell 0,h.cell 1,h.cell 2,h.cell 3⟩
theorem s4_frozen {t:TypeId} {cs:Array Value} (h:Blk W X t cs):W.frozen? ⟨X,0,none⟩=false∧W.frozen? ⟨X,1,none⟩=false∧W.frozen? ⟨X,2,none⟩=false∧W.frozen? ⟨X,3,none⟩=false:=⟨h.frozen 0,h.frozen 1,h.frozen 2,h.frozen 3⟩
abbrev s8 (W:World) (X:Nat) (a0 a1 a2 a3 a4 a5 a6 a7:Value):World:=((((((((W.setCell ⟨X,0,none⟩ a0).setCell ⟨X,1,none⟩ a1).setCell ⟨X,2,none⟩ a2).setCell ⟨X,3,none⟩ a3).setCell ⟨X,4,none⟩ a4).setCell ⟨X,5,none⟩ a5).setCell ⟨X,6,none⟩ a6).setCell ⟨X,7,none⟩ a7)
theorem s8_blk {a0 a1 a2 a3 a4 a5 a6 a7 b0 b1 b2 b3 b4 b5 b6 b7:Value} {t:TypeId} (h:Blk W X t #[b0,b1,b2,b3,b4,b5,b6,b7]):Blk (s8 W X a0 a1 a2 a3 a4 a5 a6 a7) X t #[a0,a1,a2,a3,a4,a5,a6,a7]:=by have h0:Blk (W.setCell ⟨X,0,none⟩ a0) X t #[a0,b1,b2,b3,b4,b5,b6,b7]:=h.set_ 0 a0;have h1:Blk ((W.setCell ⟨X,0,none⟩ a0).setCell ⟨X,1,none⟩ a1) X t #[a0,a1,b2,b3,b4,b5,b6,b7]:=h0.set_ 1 a1;clear h0;have h2:Blk (((W.setCell ⟨X,0,none⟩ a0).setCell ⟨X,1,none⟩ a1).setCell ⟨X,2,none⟩ a2) X t #[a0,a1,a2,b3,b4,b5,b6,b7]:=h1.set_ 2 a2;clear h1;have h3:Blk ((((W.setCell ⟨X,0,none⟩ a0).setCell ⟨X,1,none⟩ a1).setCell ⟨X,2,none⟩ a2).setCell ⟨X,3,none⟩ a3) X t #[a0,a1,a2,a3,b4,b5,b6,b7]:=h2.set_ 3 a3;clear h2;have h4:Blk (((((W.setCell ⟨X,0,none⟩ a0).setCell ⟨X,1,none⟩ a1).setCell ⟨X,2,none⟩ a2).setCell ⟨X,3,none⟩ a3).setCell ⟨X,4,none⟩ a4) X t #[a0,a1,a2,a3,a4,b5,b6,b7]:=h3.set_ 4 a4;clear h3;have h5:Blk ((((((W.setCell ⟨X,0,none⟩ a0).setCell ⟨X,1,none⟩ a1).setCell ⟨X,2,none⟩ a2).setCell ⟨X,3,none⟩ a3).setCell ⟨X,4,none⟩ a4).setCell ⟨X,5,none⟩ a5) X t #[a0,a1,a2,a3,a4,a5,b6,b7]:=h4.set_ 5 a5;clear h4;have h6:Blk (((((((W.setCell ⟨X,0,none⟩ a0).setCell ⟨X,1,none⟩ a1).setCell ⟨X,2,none⟩ a2).setCell ⟨X,3,none⟩ a3).setCell ⟨X,4,none⟩ a4).setCell ⟨X,5,none⟩ a5).setCell ⟨X,6,none⟩ a6) X t #[a0,a1,a2,a3,a4,a5,a6,b7]:=h5.set_ 6 a6;clear h5;have h7:Blk ((((((((W.setCell ⟨X,0,none⟩ a0).setCell ⟨X,1,none⟩ a1).setCell ⟨X,2,none⟩ a2).setCell ⟨X,3,none⟩ a3).setCell ⟨X,4,none⟩ a4).setCell ⟨X,5,none⟩ a5).setCell ⟨X,6,none⟩ a6).setCell ⟨X,7,none⟩ a7) X t #[a0,a1,a2,a3,a4,a5,a6,a7]:=h6.set_ 7 a7;clear h6;exact h7
theorem s8_RS {a0 a1 a2 a3 a4 a5 a6 a7:Value} {v:Value} {ts:List T} {st:St} (h:RS W g v ts st) (hX:g<X∧∀ b,v.ownBlock=some b→b<X):RS (s8 W X a0 a1 a2 a3 a4 a5 a6 a7) g v ts st:=RS.other (RS.other (RS.other (RS.other (RS.other (RS.other (RS.other (RS.other (h) hX 0 _) hX 1 _) hX 2 _) hX 3 _) hX 4 _) hX 5 _) hX 6 _) hX 7 _
theorem s8_gr {a0 a1 a2 a3 a4 a5 a6 a7:Value} (h:w.grownBy W (some g)) (hX:w.heap.size≤X):w.grownBy (s8 W X a0 a1 a2 a3 a4 a5 a6 a7) (some g):=Zx (Zx (Zx (Zx (Zx (Zx (Zx (Zx (h) hX 0 _) hX 1 _) hX 2 _) hX 3 _) hX 4 _) hX 5 _) hX 6 _) hX 7 _
theorem s8_R {a0 a1 a2 a3 a4 a5 a6 a7:Value} {α:Type} {k:Kd α} {t base:Nat} {ok:Nat→Prop} {vl:Value} {l:List α} (h:k.R t W base ok vl l) (hX:∀ b,ok b→b≠X):k.R t (s8 W X a0 a1 a2 a3 a4 a5 a6 a7) base ok vl l:=Kd.R_far (Kd.R_far (Kd.R_far (Kd.R_far (Kd.R_far (Kd.R_far (Kd.R_far (Kd.R_far (h) (p:=⟨X,0,none⟩) hX _) (p:=⟨X,1,none⟩) hX _) (p:=⟨X,2,none⟩) hX _) (p:=⟨X,3,none⟩) hX _) (p:=⟨X,4,none⟩) hX _) (p:=⟨X,5,none⟩) hX _) (p:=⟨X,6,none⟩) hX _) (p:=⟨X,7,none⟩) hX _
theorem s8_cells {t:TypeId} {a0 a1 a2 a3 a4 a5 a6 a7:Value} (h:Blk W X t #[a0,a1,a2,a3,a4,a5,a6,a7]):W.cell? ⟨X,0,none⟩=some a0∧W.cell? ⟨X,1,none⟩=some a1∧W.cell? ⟨X,2,none⟩=some a2∧W.cell? ⟨X,3,none⟩=some a3∧W.cell? ⟨X,4,none⟩=some a4∧W.cell? ⟨X,5,none⟩=some a5∧W.cell? ⟨X,6,none⟩=some a6∧W.cell? ⟨X,7,none⟩=some a7:=⟨h.cell 0,h.cell 1,h.cell 2,h.cell 3,h.cell 4,h.cell 5,h.cell 6,h.cell 7⟩
theorem s8_frozen {t:TypeId} {cs:Array Value} (h:Blk W X t cs):W.frozen? ⟨X,0,none⟩=false∧W.frozen? ⟨X,1,none⟩=false∧W.frozen? ⟨X,2,none⟩=false∧W.frozen? ⟨X,3,none⟩=false∧W.frozen? ⟨X,4,none⟩=false∧W.frozen? ⟨X,5,none⟩=false∧W.frozen? ⟨X,6,none⟩=false∧W.frozen? ⟨X,7,none⟩=false:=⟨h.frozen 0,h.frozen 1,h.frozen 2,h.frozen 3,h.frozen 4,h.frozen 5,h.frozen 6,h.frozen 7⟩
abbrev s16 (W:World) (X:Nat) (a0 a1 a2 a3 a4 a5 a6 a7 a8 a9 a10 a11 a12 a13 a14 a15:Value):World:=((((((((((((((((W.setCell ⟨X,0,none⟩ a0).setCell ⟨X,1,none⟩ a1).setCell ⟨X,2,none⟩ a2).setCell ⟨X,3,none⟩ a3).setCell ⟨X,4,none⟩ a4).setCell ⟨X,5,none⟩ a5).setCell ⟨X,6,none⟩ a6).setCell ⟨X,7,none⟩ a7).setCell ⟨X,8,none⟩ a8).setCell ⟨X,9,none⟩ a9).setCell ⟨X,10,none⟩ a10).setCell ⟨X,11,none⟩ a11).setCell ⟨X,12,none⟩ a12).setCell ⟨X,13,none⟩ a13).setCell ⟨X,14,none⟩ a14).setCell ⟨X,15,none⟩ a15)
theorem s16_blk {a0 a1 a2 a3 a4 a5 a6 a7 a8 a9 a10 a11 a12 a13 a14 a15 b0 b1 b2 b3 b4 b5 b6 b7 b8 b9 b10 b11 b12 b13 b14 b15:Value} {t:TypeId} (h:Blk W X t #[b0,b1,b2,b3,b4,b5,b6,b7,b8,b9,b10,b11,b12,b13,b14,b15]):Blk (s16 W X a0 a1 a2 a3 a4 a5 a6 a7 a8 a9 a10 a11 a12 a13 a14 a15) X t #[a0,a1,a2,a3,a4,a5,a6,a7,a8,a9,a10,a11,a12,a13,a14,a15]:=by
 have h0:Blk (W.setCell ⟨X,0,none⟩ a0) X t #[a0,b1,b2,b3,b4,b5,b6,b7,b8,b9,b10,b11,b12,b13,b14,b15]:=h.set_ 0 a0;have h1:Blk ((W.setCell ⟨X,0,none⟩ a0).setCell ⟨X,1,none⟩ a1) X t #[a0,a1,b2,b3,b4,b5,b6,b7,b8,b9,b10,b11,b12,b13,b14,b15]:=h0.set_ 1 a1;clear h0;have h2:Blk (((W.setCell ⟨X,0,none⟩ a0).setCell ⟨X,1,none⟩ a1).setCell ⟨X,2,none⟩ a2) X t #[a0,a1,a2,b3,b4,b5,b6,b7,b8,b9,b10,b11,b12,b13,b14,b15]:=h1.set_ 2 a2;clear h1;have h3:Blk ((((W.setCell ⟨X,0,none⟩ a0).setCell ⟨X,1,none⟩ a1).setCell ⟨X,2,none⟩ a2).setCell ⟨X,3,none⟩ a3) X t #[a0,a1,a2,a3,b4,b5,b6,b7,b8,b9,b10,b11,b12,b13,b14,b15]:=h2.set_ 3 a3;clear h2;have h4:Blk (((((W.setCell ⟨X,0,none⟩ a0).setCell ⟨X,1,none⟩ a1).setCell ⟨X,2,none⟩ a2).setCell ⟨X,3,none⟩ a3).setCell ⟨X,4,none⟩ a4) X t #[a0,a1,a2,a3,a4,b5,b6,b7,b8,b9,b10,b11,b12,b13,b14,b15]:=h3.set_ 4 a4;clear h3;have h5:Blk ((((((W.setCell ⟨X,0,none⟩ a0).setCell ⟨X,1,none⟩ a1).setCell ⟨X,2,none⟩ a2).setCell ⟨X,3,none⟩ a3).setCell ⟨X,4,none⟩ a4).setCell ⟨X,5,none⟩ a5) X t #[a0,a1,a2,a3,a4,a5,b6,b7,b8,b9,b10,b11,b12,b13,b14,b15]:=h4.set_ 5 a5;clear h4;have h6:Blk (((((((W.setCell ⟨X,0,none⟩ a0).setCell ⟨X,1,none⟩ a1).setCell ⟨X,2,none⟩ a2).setCell ⟨X,3,none⟩ a3).setCell ⟨X,4,none⟩ a4).setCell ⟨X,5,none⟩ a5).setCell ⟨X,6,none⟩ a6) X t #[a0,a1,a2,a3,a4,a5,a6,b7,b8,b9,b10,b11,b12,b13,b14,b15]:=h5.set_ 6 a6;clear h5;have h7:Blk ((((((((W.setCell ⟨X,0,none⟩ a0).setCell ⟨X,1,none⟩ a1).setCell ⟨X,2,none⟩ a2).setCell ⟨X,3,none⟩ a3).setCell ⟨X,4,none⟩ a4).setCell ⟨X,5,none⟩ a5).setCell ⟨X,6,none⟩ a6).setCell ⟨X,7,none⟩ a7) X t #[a0,a1,a2,a3,a4,a5,a6,a7,b8,b9,b10,b11,b12,b13,b14,b15]:=h6.set_ 7 a7;clear h6;have h8:Blk (((((((((W.setCell ⟨X,0,none⟩ a0).setCell ⟨X,1,none⟩ a1).setCell ⟨X,2,none⟩ a2).setCell ⟨X,3,none⟩ a3).setCell ⟨X,4,none⟩ a4).setCell ⟨X,5,none⟩ a5).setCell ⟨X,6,none⟩ a6).setCell ⟨X,7,none⟩ a7).setCell ⟨X,8,none⟩ a8) X t #[a0,a1,a2,a3,a4,a5,a6,a7,a8,b9,b10,b11,b12,b13,b14,b15]:=h7.set_ 8 a8;clear h7;have h9:Blk ((((((((((W.setCell ⟨X,0,none⟩ a0).setCell ⟨X,1,none⟩ a1).setCell ⟨X,2,none⟩ a2).setCell ⟨X,3,none⟩ a3).setCell ⟨X,4,none⟩ a4).setCell ⟨X,5,none⟩ a5).setCell ⟨X,6,none⟩ a6).setCell ⟨X,7,none⟩ a7).setCell ⟨X,8,none⟩ a8).setCell ⟨X,9,none⟩ a9) X t #[a0,a1,a2,a3,a4,a5,a6,a7,a8,a9,b10,b11,b12,b13,b14,b15]:=h8.set_ 9 a9;clear h8;have h10:Blk (((((((((((W.setCell ⟨X,0,none⟩ a0).setCell ⟨X,1,none⟩ a1).setCell ⟨X,2,none⟩ a2).setCell ⟨X,3,none⟩ a3).setCell ⟨X,4,none⟩ a4).setCell ⟨X,5,none⟩ a5).setCell ⟨X,6,none⟩ a6).setCell ⟨X,7,none⟩ a7).setCell ⟨X,8,none⟩ a8).setCell ⟨X,9,none⟩ a9).setCell ⟨X,10,none⟩ a10) X t #[a0,a1,a2,a3,a4,a5,a6,a7,a8,a9,a10,b11,b12,b13,b14,b15]:=h9.set_ 10 a10;clear h9;have h11:Blk ((((((((((((W.setCell ⟨X,0,none⟩ a0).setCell ⟨X,1,none⟩ a1).setCell ⟨X,2,none⟩ a2).setCell ⟨X,3,none⟩ a3).setCell ⟨X,4,none⟩ a4).setCell ⟨X,5,none⟩ a5).setCell ⟨X,6,none⟩ a6).setCell ⟨X,7,none⟩ a7).setCell ⟨X,8,none⟩ a8).setCell ⟨X,9,none⟩ a9).setCell ⟨X,10,none⟩ a10).setCell ⟨X,11,none⟩ a11) X t #[a0,a1,a2,a3,a4,a5,a6,a7,a8,a9,a10,a11,b12,b13,b14,b15]:=h10.set_ 11 a11;clear h10;have h12:Blk (((((((((((((W.setCell ⟨X,0,none⟩ a0).setCell ⟨X,1,none⟩ a1).setCell ⟨X,2,none⟩ a2).setCell ⟨X,3,none⟩ a3).setCell ⟨X,4,none⟩ a4).setCell ⟨X,5,none⟩ a5).setCell ⟨X,6,none⟩ a6).setCell ⟨X,7,none⟩ a7).setCell ⟨X,8,none⟩ a8).setCell ⟨X,9,none⟩ a9).setCell ⟨X,10,none⟩ a10).setCell ⟨X,11,none⟩ a11).setCell ⟨X,12,none⟩ a12) X t #[a0,a1,a2,a3,a4,a5,a6,a7,a8,a9,a10,a11,a12,b13,b14,b15]:=h11.set_ 12 a12;clear h11;have h13:Blk ((((((((((((((W.setCell ⟨X,0,none⟩ a0).setCell ⟨X,1,none⟩ a1).setCell ⟨X,2,none⟩ a2).setCell ⟨X,3,none⟩ a3).setCell ⟨X,4,none⟩ a4).setCell ⟨X,5,none⟩ a5).setCell ⟨X,6,none⟩ a6).setCell ⟨X,7,none⟩ a7).setCell ⟨X,8,none⟩ a8).setCell ⟨X,9,none⟩ a9).setCell ⟨X,10,none⟩ a10).setCell ⟨X,11,none⟩ a11).setCell ⟨X,12,none⟩ a12).setCell ⟨X,13,none⟩ a13) X t #[a0,a1,a2,a3,a4,a5,a6,a7,a8,a9,a10,a11,a12,a13,b14,b15]:=h12.set_ 13 a13;clear h12;have h14:Blk (((((((((((((((W.setCell ⟨X,0,none⟩ a0).setCell ⟨X,1,none⟩ a1).setCell ⟨X,2,none⟩ a2).setCell ⟨X,3,none⟩ a3).setCell ⟨X,4,none⟩ a4).setCell ⟨X,5,none⟩ a5).setCell ⟨X,6,none⟩ a6).setCell ⟨X,7,none⟩ a7).setCell ⟨X,8,none⟩ a8).setCell ⟨X,9,none⟩ a9).setCell ⟨X,10,none⟩ a10).setCell ⟨X,11,none⟩ a11).setCell ⟨X,12,none⟩ a12).setCell ⟨X,13,none⟩ a13).setCell ⟨X,14,none⟩ a14) X t #[a0,a1,a2,a3,a4,a5,a6,a7,a8,a9,a10,a11,a12,a13,a14,b15]:=h13.set_ 14 a14
 clear h13;have h15:Blk ((((((((((((((((W.setCell ⟨X,0,none⟩ a0).setCell ⟨X,1,none⟩ a1).setCell ⟨X,2,none⟩ a2).setCell ⟨X,3,none⟩ a3).setCell ⟨X,4,none⟩ a4).setCell ⟨X,5,none⟩ a5).setCell ⟨X,6,none⟩ a6).setCell ⟨X,7,none⟩ a7).setCell ⟨X,8,none⟩ a8).setCell ⟨X,9,none⟩ a9).setCell ⟨X,10,none⟩ a10).setCell ⟨X,11,none⟩ a11).setCell ⟨X,12,none⟩ a12).setCell ⟨X,13,none⟩ a13).setCell ⟨X,14,none⟩ a14).setCell ⟨X,15,none⟩ a15) X t #[a0,a1,a2,a3,a4,a5,a6,a7,a8,a9,a10,a11,a12,a13,a14,a15]:=h14.set_ 15 a15;clear h14;exact h15
theorem s16_RS {a0 a1 a2 a3 a4 a5 a6 a7 a8 a9 a10 a11 a12 a13 a14 a15:Value} {v:Value} {ts:List T} {st:St} (h:RS W g v ts st) (hX:g<X∧∀ b,v.ownBlock=some b→b<X):RS (s16 W X a0 a1 a2 a3 a4 a5 a6 a7 a8 a9 a10 a11 a12 a13 a14 a15) g v ts st:=RS.other (RS.other (RS.other (RS.other (RS.other (RS.other (RS.other (RS.other (RS.other (RS.other (RS.other (RS.other (RS.other (RS.other (RS.other (RS.other (h) hX 0 _) hX 1 _) hX 2 _) hX 3 _) hX 4 _) hX 5 _) hX 6 _) hX 7 _) hX 8 _) hX 9 _) hX 10 _) hX 11 _) hX 12 _) hX 13 _) hX 14 _) hX 15 _
theorem s16_gr {a0 a1 a2 a3 a4 a5 a6 a7 a8 a9 a10 a11 a12 a13 a14 a15:Value} (h:w.grownBy W (some g)) (hX:w.heap.size≤X):w.grownBy (s16 W X a0 a1 a2 a3 a4 a5 a6 a7 a8 a9 a10 a11 a12 a13 a14 a15) (some g):=Zx (Zx (Zx (Zx (Zx (Zx (Zx (Zx (Zx (Zx (Zx (Zx (Zx (Zx (Zx (Zx (h) hX 0 _) hX 1 _) hX 2 _) hX 3 _) hX 4 _) hX 5 _) hX 6 _) hX 7 _) hX 8 _) hX 9 _) hX 10 _) hX 11 _) hX 12 _) hX 13 _) hX 14 _) hX 15 _
theorem s16_R {a0 a1 a2 a3 a4 a5 a6 a7 a8 a9 a10 a11 a12 a13 a14 a15:Value} {α:Type} {k:Kd α} {t base:Nat} {ok:Nat→Prop} {vl:Value} {l:List α} (h:k.R t W base ok vl l) (hX:∀ b,ok b→b≠X):k.R t (s16 W X a0 a1 a2 a3 a4 a5 a6 a7 a8 a9 a10 a11 a12 a13 a14 a15) base ok vl l:=Kd.R_far (Kd.R_far (Kd.R_far (Kd.R_far (Kd.R_far (Kd.R_far (Kd.R_far (Kd.R_far (Kd.R_far (Kd.R_far (Kd.R_far (Kd.R_far (Kd.R_far (Kd.R_far (Kd.R_far (Kd.R_far (h) (p:=⟨X,0,none⟩) hX _) (p:=⟨X,1,none⟩) hX _) (p:=⟨X,2,none⟩) hX _) (p:=⟨X,3,none⟩) hX _) (p:=⟨X,4,none⟩) hX _) (p:=⟨X,5,none⟩) hX _) (p:=⟨X,6,none⟩) hX _) (p:=⟨X,7,none⟩) hX _) (p:=⟨X,8,none⟩) hX _) (p:=⟨X,9,none⟩) hX _) (p:=⟨X,10,none⟩) hX _) (p:=⟨X,11,none⟩) hX _) (p:=⟨X,12,none⟩) hX _) (p:=⟨X,13,none⟩) hX _) (p:=⟨X,14,none⟩) hX _) (p:=⟨X,15,none⟩) hX _
theorem ZH {t:TypeId} {a0 a1 a2 a3 a4 a5 a6 a7 a8 a9 a10 a11 a12 a13 a14 a15:Value} (h:Blk W X t #[a0,a1,a2,a3,a4,a5,a6,a7,a8,a9,a10,a11,a12,a13,a14,a15]):W.cell? ⟨X,0,none⟩=some a0∧W.cell? ⟨X,1,none⟩=some a1∧W.cell? ⟨X,2,none⟩=some a2∧W.cell? ⟨X,3,none⟩=some a3∧W.cell? ⟨X,4,none⟩=some a4∧W.cell? ⟨X,5,none⟩=some a5∧W.cell? ⟨X,6,none⟩=some a6∧W.cell? ⟨X,7,none⟩=some a7∧W.cell? ⟨X,8,none⟩=some a8∧W.cell? ⟨X,9,none⟩=some a9∧W.cell? ⟨X,10,none⟩=some a10∧W.cell? ⟨X,11,none⟩=some a11∧W.cell? ⟨X,12,none⟩=some a12∧W.cell? ⟨X,13,none⟩=some a13∧W.cell? ⟨X,14,none⟩=some a14∧W.cell? ⟨X,15,none⟩=some a15:=⟨h.cell 0,h.cell 1,h.cell 2,h.cell 3,h.cell 4,h.cell 5,h.cell 6,h.cell 7,h.cell 8,h.cell 9,h.cell 10,h.cell 11,h.cell 12,h.cell 13,h.cell 14,h.cell 15⟩
theorem ZW {t:TypeId} {cs:Array Value} (h:Blk W X t cs):W.frozen? ⟨X,0,none⟩=false∧W.frozen? ⟨X,1,none⟩=false∧W.frozen? ⟨X,2,none⟩=false∧W.frozen? ⟨X,3,none⟩=false∧W.frozen? ⟨X,4,none⟩=false∧W.frozen? ⟨X,5,none⟩=false∧W.frozen? ⟨X,6,none⟩=false∧W.frozen? ⟨X,7,none⟩=false∧W.frozen? ⟨X,8,none⟩=false∧W.frozen? ⟨X,9,none⟩=false∧W.frozen? ⟨X,10,none⟩=false∧W.frozen? ⟨X,11,none⟩=false∧W.frozen? ⟨X,12,none⟩=false∧W.frozen? ⟨X,13,none⟩=false∧W.frozen? ⟨X,14,none⟩=false∧W.frozen? ⟨X,15,none⟩=false:=⟨h.frozen 0,h.frozen 1,h.frozen 2,h.frozen 3,h.frozen 4,h.frozen 5,h.frozen 6,h.frozen 7,h.frozen 8,h.frozen 9,h.frozen 10,h.frozen 11,h.frozen 12,h.frozen 13,h.frozen 14,h.frozen 15⟩
theorem s2_go {t:TypeId} {a0 a1:Value} (h:Hid (Blk w X t #[a0,a1])) (hb:w.grownBy W (some g)) (hn:g≠X):Hid (Blk W X t #[a0,a1])∧(W.cell? ⟨X,0,none⟩=some a0∧W.cell? ⟨X,1,none⟩=some a1)∧(W.frozen? ⟨X,0,none⟩=false∧W.frozen? ⟨X,1,none⟩=false)∧X<W.heap.size:=
 have q:=h.out.grown hb (fun e=>hn (Zb e).symm);⟨Za q,s2_cells q,s2_frozen q,q.lt⟩
theorem s3_go {t:TypeId} {a0 a1 a2:Value} (h:Hid (Blk w X t #[a0,a1,a2])) (hb:w.grownBy W (some g)) (hn:g≠X):Hid (Blk W X t #[a0,a1,a2])∧(W.cell? ⟨X,0,none⟩=some a0∧W.cell? ⟨X,1,none⟩=some a1∧W.cell? ⟨X,2,none⟩=some a2)∧(W.frozen? ⟨X,0,none⟩=false∧W.frozen? ⟨X,1,none⟩=false∧W.frozen? ⟨X,2,none⟩=false)∧X<W.heap.size:=
 have q:=h.out.grown hb (fun e=>hn (Zb e).symm);⟨Za q,s3_cells q,s3_frozen q,q.lt⟩
theorem s3_goA {t:TypeId} {a0 a1 a2:Value} (o:Obj) (h:Hid (Blk w X t #[a0,a1,a2])) (hb:w.grownBy W (some g)) (hn:g≠X):Hid (Blk (W.alloc o) X t #[a0,a1,a2])∧(W.cell? ⟨X,0,none⟩=some a0∧W.cell? ⟨X,1,none⟩=some a1∧W.cell? ⟨X,2,none⟩=some a2)∧(W.frozen? ⟨X,0,none⟩=false∧W.frozen? ⟨X,1,none⟩=false∧W.frozen? ⟨X,2,none⟩=false)∧X<W.heap.size:=
 have q:=h.out.grown hb (fun e=>hn (Zb e).symm);⟨Za (q.alloc o),s3_cells q,s3_frozen q,q.lt⟩
theorem s4_go {t:TypeId} {a0 a1 a2 a3:Value} (h:Hid (Blk w X t #[a0,a1,a2,a3])) (hb:w.grownBy W (some g)) (hn:g≠X):Hid (Blk W X t #[a0,a1,a2,a3])∧(W.cell? ⟨X,0,none⟩=some a0∧W.cell? ⟨X,1,none⟩=some a1∧W.cell? ⟨X,2,none⟩=some a2∧W.cell? ⟨X,3,none⟩=some a3)∧(W.frozen? ⟨X,0,none⟩=false∧W.frozen? ⟨X,1,none⟩=false∧W.frozen? ⟨X,2,none⟩=false∧W.frozen? ⟨X,3,none⟩=false)∧X<W.heap.size:=
 have q:=h.out.grown hb (fun e=>hn (Zb e).symm);⟨Za q,s4_cells q,s4_frozen q,q.lt⟩
theorem s4_goA {t:TypeId} {a0 a1 a2 a3:Value} (o:Obj) (h:Hid (Blk w X t #[a0,a1,a2,a3])) (hb:w.grownBy W (some g)) (hn:g≠X):Hid (Blk (W.alloc o) X t #[a0,a1,a2,a3])∧(W.cell? ⟨X,0,none⟩=some a0∧W.cell? ⟨X,1,none⟩=some a1∧W.cell? ⟨X,2,none⟩=some a2∧W.cell? ⟨X,3,none⟩=some a3)∧(W.frozen? ⟨X,0,none⟩=false∧W.frozen? ⟨X,1,none⟩=false∧W.frozen? ⟨X,2,none⟩=false∧W.frozen? ⟨X,3,none⟩=false)∧X<W.heap.size:=
 have q:=h.out.grown hb (fun e=>hn (Zb e).symm);⟨Za (q.alloc o),s4_cells q,s4_frozen q,q.lt⟩
theorem ZB {t:TypeId} {a0 a1 a2 a3 a4:Value} (h:Hid (Blk w X t #[a0,a1,a2,a3,a4])) (hb:w.grownBy W (some g)) (hn:g≠X):Hid (Blk W X t #[a0,a1,a2,a3,a4])∧(W.cell? ⟨X,0,none⟩=some a0∧W.cell? ⟨X,1,none⟩=some a1∧W.cell? ⟨X,2,none⟩=some a2∧W.cell? ⟨X,3,none⟩=some a3∧W.cell? ⟨X,4,none⟩=some a4)∧(W.frozen? ⟨X,0,none⟩=false∧W.frozen? ⟨X,1,none⟩=false∧W.frozen? ⟨X,2,none⟩=false∧W.frozen? ⟨X,3,none⟩=false∧W.frozen? ⟨X,4,none⟩=false)∧X<W.heap.size:=
 have q:=h.out.grown hb (fun e=>hn (Zb e).symm);⟨Za q,Zt q,Zz q,q.lt⟩
theorem s5_goA {t:TypeId} {a0 a1 a2 a3 a4:Value} (o:Obj) (h:Hid (Blk w X t #[a0,a1,a2,a3,a4])) (hb:w.grownBy W (some g)) (hn:g≠X):Hid (Blk (W.alloc o) X t #[a0,a1,a2,a3,a4])∧(W.cell? ⟨X,0,none⟩=some a0∧W.cell? ⟨X,1,none⟩=some a1∧W.cell? ⟨X,2,none⟩=some a2∧W.cell? ⟨X,3,none⟩=some a3∧W.cell? ⟨X,4,none⟩=some a4)∧(W.frozen? ⟨X,0,none⟩=false∧W.frozen? ⟨X,1,none⟩=false∧W.frozen? ⟨X,2,none⟩=false∧W.frozen? ⟨X,3,none⟩=false∧W.frozen? ⟨X,4,none⟩=false)∧X<W.heap.size:=
 have q:=h.out.grown hb (fun e=>hn (Zb e).symm);⟨Za (q.alloc o),Zt q,Zz q,q.lt⟩
theorem s8_go {t:TypeId} {a0 a1 a2 a3 a4 a5 a6 a7:Value} (h:Hid (Blk w X t #[a0,a1,a2,a3,a4,a5,a6,a7])) (hb:w.grownBy W (some g)) (hn:g≠X):Hid (Blk W X t #[a0,a1,a2,a3,a4,a5,a6,a7])∧(W.cell? ⟨X,0,none⟩=some a0∧W.cell? ⟨X,1,none⟩=some a1∧W.cell? ⟨X,2,none⟩=some a2∧W.cell? ⟨X,3,none⟩=some a3∧W.cell? ⟨X,4,none⟩=some a4∧W.cell? ⟨X,5,none⟩=some a5∧W.cell? ⟨X,6,none⟩=some a6∧W.cell? ⟨X,7,none⟩=some a7)∧(W.frozen? ⟨X,0,none⟩=false∧W.frozen? ⟨X,1,none⟩=false∧W.frozen? ⟨X,2,none⟩=false∧W.frozen? ⟨X,3,none⟩=false∧W.frozen? ⟨X,4,none⟩=false∧W.frozen? ⟨X,5,none⟩=false∧W.frozen? ⟨X,6,none⟩=false∧W.frozen? ⟨X,7,none⟩=false)∧X<W.heap.size:=
 have q:=h.out.grown hb (fun e=>hn (Zb e).symm);⟨Za q,s8_cells q,s8_frozen q,q.lt⟩
theorem s8_goA {t:TypeId} {a0 a1 a2 a3 a4 a5 a6 a7:Value} (o:Obj) (h:Hid (Blk w X t #[a0,a1,a2,a3,a4,a5,a6,a7])) (hb:w.grownBy W (some g)) (hn:g≠X):Hid (Blk (W.alloc o) X t #[a0,a1,a2,a3,a4,a5,a6,a7])∧(W.cell? ⟨X,0,none⟩=some a0∧W.cell? ⟨X,1,none⟩=some a1∧W.cell? ⟨X,2,none⟩=some a2∧W.cell? ⟨X,3,none⟩=some a3∧W.cell? ⟨X,4,none⟩=some a4∧W.cell? ⟨X,5,none⟩=some a5∧W.cell? ⟨X,6,none⟩=some a6∧W.cell? ⟨X,7,none⟩=some a7)∧(W.frozen? ⟨X,0,none⟩=false∧W.frozen? ⟨X,1,none⟩=false∧W.frozen? ⟨X,2,none⟩=false∧W.frozen? ⟨X,3,none⟩=false∧W.frozen? ⟨X,4,none⟩=false∧W.frozen? ⟨X,5,none⟩=false∧W.frozen? ⟨X,6,none⟩=false∧W.frozen? ⟨X,7,none⟩=false)∧X<W.heap.size:=
 have q:=h.out.grown hb (fun e=>hn (Zb e).symm);⟨Za (q.alloc o),s8_cells q,s8_frozen q,q.lt⟩
theorem ZF {t:TypeId} {a0 a1 a2 a3 a4 a5 a6 a7 a8 a9 a10 a11 a12 a13 a14 a15:Value} (h:Hid (Blk w X t #[a0,a1,a2,a3,a4,a5,a6,a7,a8,a9,a10,a11,a12,a13,a14,a15])) (hb:w.grownBy W (some g)) (hn:g≠X):Hid (Blk W X t #[a0,a1,a2,a3,a4,a5,a6,a7,a8,a9,a10,a11,a12,a13,a14,a15])∧(W.cell? ⟨X,0,none⟩=some a0∧W.cell? ⟨X,1,none⟩=some a1∧W.cell? ⟨X,2,none⟩=some a2∧W.cell? ⟨X,3,none⟩=some a3∧W.cell? ⟨X,4,none⟩=some a4∧W.cell? ⟨X,5,none⟩=some a5∧W.cell? ⟨X,6,none⟩=some a6∧W.cell? ⟨X,7,none⟩=some a7∧W.cell? ⟨X,8,none⟩=some a8∧W.cell? ⟨X,9,none⟩=some a9∧W.cell? ⟨X,10,none⟩=some a10∧W.cell? ⟨X,11,none⟩=some a11∧W.cell? ⟨X,12,none⟩=some a12∧W.cell? ⟨X,13,none⟩=some a13∧W.cell? ⟨X,14,none⟩=some a14∧W.cell? ⟨X,15,none⟩=some a15)∧(W.frozen? ⟨X,0,none⟩=false∧W.frozen? ⟨X,1,none⟩=false∧W.frozen? ⟨X,2,none⟩=false∧W.frozen? ⟨X,3,none⟩=false∧W.frozen? ⟨X,4,none⟩=false∧W.frozen? ⟨X,5,none⟩=false∧W.frozen? ⟨X,6,none⟩=false∧W.frozen? ⟨X,7,none⟩=false∧W.frozen? ⟨X,8,none⟩=false∧W.frozen? ⟨X,9,none⟩=false∧W.frozen? ⟨X,10,none⟩=false∧W.frozen? ⟨X,11,none⟩=false∧W.frozen? ⟨X,12,none⟩=false∧W.frozen? ⟨X,13,none⟩=false∧W.frozen? ⟨X,14,none⟩=false∧W.frozen? ⟨X,15,none⟩=false)∧X<W.heap.size:=
 have q:=h.out.grown hb (fun e=>hn (Zb e).symm);⟨Za q,ZH q,ZW q,q.lt⟩
theorem s16_goA {t:TypeId} {a0 a1 a2 a3 a4 a5 a6 a7 a8 a9 a10 a11 a12 a13 a14 a15:Value} (o:Obj) (h:Hid (Blk w X t #[a0,a1,a2,a3,a4,a5,a6,a7,a8,a9,a10,a11,a12,a13,a14,a15])) (hb:w.grownBy W (some g)) (hn:g≠X):Hid (Blk (W.alloc o) X t #[a0,a1,a2,a3,a4,a5,a6,a7,a8,a9,a10,a11,a12,a13,a14,a15])∧(W.cell? ⟨X,0,none⟩=some a0∧W.cell? ⟨X,1,none⟩=some a1∧W.cell? ⟨X,2,none⟩=some a2∧W.cell? ⟨X,3,none⟩=some a3∧W.cell? ⟨X,4,none⟩=some a4∧W.cell? ⟨X,5,none⟩=some a5∧W.cell? ⟨X,6,none⟩=some a6∧W.cell? ⟨X,7,none⟩=some a7∧W.cell? ⟨X,8,none⟩=some a8∧W.cell? ⟨X,9,none⟩=some a9∧W.cell? ⟨X,10,none⟩=some a10∧W.cell? ⟨X,11,none⟩=some a11∧W.cell? ⟨X,12,none⟩=some a12∧W.cell? ⟨X,13,none⟩=some a13∧W.cell? ⟨X,14,none⟩=some a14∧W.cell? ⟨X,15,none⟩=some a15)∧(W.frozen? ⟨X,0,none⟩=false∧W.frozen? ⟨X,1,none⟩=false∧W.frozen? ⟨X,2,none⟩=false∧W.frozen? ⟨X,3,none⟩=false∧W.frozen? ⟨X,4,none⟩=false∧W.frozen? ⟨X,5,none⟩=false∧W.frozen? ⟨X,6,none⟩=false∧W.frozen? ⟨X,7,none⟩=false∧W.frozen? ⟨X,8,none⟩=false∧W.frozen? ⟨X,9,none⟩=false∧W.frozen? ⟨X,10,none⟩=false∧W.frozen? ⟨X,11,none⟩=false∧W.frozen? ⟨X,12,none⟩=false∧W.frozen? ⟨X,13,none⟩=false∧W.frozen? ⟨X,14,none⟩=false∧W.frozen? ⟨X,15,none⟩=false)∧X<W.heap.size:=
 have q:=h.out.grown hb (fun e=>hn (Zb e).symm);⟨Za (q.alloc o),ZH q,ZW q,q.lt⟩
theorem ZE {w0:World} {v:Value} {ts:List T} {st:St} (hr:RS W g v ts st) (G:w0.grownBy w (some g)) (hb:w.grownBy W (some g)):Hid (RS W g v ts st)∧Hid (w0.grownBy W (some g))∧g<W.heap.size:=⟨Za hr,Za (Zs G hb),hr.blk.lt⟩
theorem st_goA {w0:World} {v:Value} {ts:List T} {st:St} (o:Obj) (hr:RS W g v ts st) (G:w0.grownBy w (some g)) (hb:w.grownBy W (some g)):Hid (RS (W.alloc o) g v ts st)∧Hid (w0.grownBy (W.alloc o) (some g))∧g<W.heap.size:=⟨Za (hr.alloc o),Za (ZD (Zs G hb) o),hr.blk.lt⟩
end
end RefCells
namespace RefTotal
open Go Go.RowKit RefPure LexPure
section
variable (ts:List T)
def Le (a b:St):Prop:=a.at_≤b.at_∧b.at_<ts.length∧(well b=true→well a=true)
def Lt (a b:St):Prop:=a.at_≤b.at_∧b.at_<ts.length∧(well b=true→well a=true∧a.at_<b.at_)
def M (m:Nat) (a:St):Prop:=a.at_<ts.length∧(well a=true→ts.length≤a.at_+m)
variable {ts}
theorem Le.refl {a:St} (h:a.at_<ts.length):Le ts a a:=⟨Zc _,h,id⟩
theorem Le.trans {a b c:St} (h:Le ts a b) (k:Le ts b c):Le ts a c:=⟨Ze h.1 k.1,k.2.1,fun w=>h.2.2 (k.2.2 w)⟩
theorem Lt.le {a b:St} (h:Lt ts a b):Le ts a b:=⟨h.1,h.2.1,fun w=>(h.2.2 w).1⟩
theorem Lt.then {a b c:St} (h:Lt ts a b) (k:Le ts b c):Lt ts a c:=⟨Ze h.1 k.1,k.2.1,fun w=>⟨(h.2.2 (k.2.2 w)).1,Nat.lt_of_lt_of_le (h.2.2 (k.2.2 w)).2 k.1⟩⟩
theorem Le.then {a b c:St} (h:Le ts a b) (k:Lt ts b c):Lt ts a c:=⟨Ze h.1 k.1,k.2.1,fun w=>⟨h.2.2 (k.2.2 w).1,Nat.lt_of_le_of_lt h.1 (k.2.2 w).2⟩⟩
theorem Le.lt {a b:St} (h:Le ts a b) (k:well b=false):Lt ts a b:=⟨h.1,h.2.1,fun w=>by rw[k] at w;cases w⟩
theorem M.le {m:Nat} {a b:St} (h:M ts m a) (k:Le ts a b):M ts m b:=⟨k.2.1,fun w=>by have:=h.2 (k.2.2 w);have:=k.1;omega⟩
theorem M.lt {m:Nat} {a b:St} (h:M ts (m+1) a) (k:Lt ts a b):M ts m b:=⟨k.2.1,fun w=>by have:=h.2 (k.2.2 w).1;have:=(k.2.2 w).2;omega⟩
theorem M.zero {a:St} (h:M ts 0 a):well a=false:=by
 cases hw:well a with
 | false=>rfl
 | true=>have:=h.2 hw;have:=h.1;omega
theorem at_fails (w:Int) (a:St):(fails ts w a).at_=a.at_:=by unfold fails;split <;> rfl
theorem bad_fails {w:Int} (hw:w≠0) (a:St):well (fails ts w a)=false:=by
 unfold fails;split
 · simp[well,hw]
 · rename_i h;simpa using h
theorem le_fails {w:Int} (hw:w≠0) {a:St} (h:a.at_<ts.length):Le ts a (fails ts w a):=⟨Nat.le_of_eq (at_fails w a).symm,by rw[at_fails];exact h,fun x=>by rw[bad_fails hw] at x;cases x⟩
theorem le_take {a:St} (h:a.at_<ts.length):Le ts a (take ts a).2:=by
 unfold take;split
 · rename_i k;exact⟨Nat.le_succ _,k.2,fun _=>k.1⟩
 · exact Le.refl h
theorem lt_take (hl:∀ a:St,a.at_+1=ts.length→(cur ts a).kind=0) {a:St} (h:a.at_<ts.length) (hk:(cur ts a).kind≠0):Lt ts a (take ts a).2:=by
 unfold take;split
 · rename_i k;exact⟨Nat.le_succ _,k.2,fun _=>⟨k.1,Zh _⟩⟩
 · rename_i k;refine (Le.refl h).lt ?_;cases hw:well a with
   | false=>rfl
   | true=>exact absurd (hl a (by have:¬a.at_+1<ts.length:=fun q=>k ⟨hw,q⟩;omega)) hk
theorem sign_kind {s:List UInt8} {a:St} (h:sign ts s a=true):(cur ts a).kind≠0:=by unfold RefPure.sign at h;simp only[Bool.and_eq_true,decide_eq_true_eq] at h;omega
theorem sign_well {s:List UInt8} {a:St} (h:sign ts s a=true):well a=true:=by unfold RefPure.sign at h;simp only[Bool.and_eq_true,decide_eq_true_eq] at h;exact h.1.1
theorem may_well {s:List UInt8} {a:St} (h:(may ts s a).1=true):well a=true:=by
 unfold may at h;split at h
 · rename_i k;exact sign_well k
 · cases h
theorem le_may {s:List UInt8} {a:St} (h:a.at_<ts.length):Le ts a (may ts s a).2:=by
 unfold may;split
 · exact le_take h
 · exact Le.refl h
theorem lt_may (hl:∀ a:St,a.at_+1=ts.length→(cur ts a).kind=0) {s:List UInt8} {a:St} (h:a.at_<ts.length) (hm:(may ts s a).1=true):Lt ts a (may ts s a).2:=by
 unfold may at hm ⊢;split
 · rename_i k;exact lt_take hl h (sign_kind k)
 · rename_i k;rw[if_neg k] at hm;cases hm
theorem le_must {s:List UInt8} {a:St} (h:a.at_<ts.length):Le ts a (must ts s a):=by
 unfold must;split
 · exact le_may h
 · exact (le_may h).trans (le_fails (by decide) (le_may h).2.1)
theorem lt_bad {w:Int} (hw:w≠0) {a:St} (h:a.at_<ts.length):Lt ts a (take ts (fails ts w a)).2:=by
 have h1:=le_fails hw h;refine (h1.trans (le_take h1.2.1)).lt ?_;cases q:well (take ts (fails ts w a)).2 with
 | false=>rfl
 | true=>have:=(le_take h1.2.1).2.2 q;rw[bad_fails hw] at this;cases this
theorem lt_name (hl:∀ a:St,a.at_+1=ts.length→(cur ts a).kind=0) {a:St} (h:a.at_<ts.length):Lt ts a (name ts a).2:=by
 unfold RefPure.name;by_cases hk:(cur ts a).kind=1
 · simp only[if_pos hk];exact lt_take hl h (by omega)
 · simp only[if_neg hk];exact lt_bad (by decide) h
theorem lt_word (hl:∀ a:St,a.at_+1=ts.length→(cur ts a).kind=0) {a:St} (h:a.at_<ts.length):Lt ts a (word ts a).2:=by
 unfold RefPure.word;by_cases hk:wordOk (cur ts a)=true
 · have hk1:(cur ts a).kind=1:=(by unfold wordOk at hk;simp only[Bool.and_eq_true,decide_eq_true_eq] at hk;exact hk.1.1);simp only[if_pos hk];exact lt_take hl h (by omega)
 · simp only[if_neg hk];exact lt_bad (by decide) h
theorem le_deep {a b:St} {d:Int} (h:Le ts a b):Le ts a { b with deep:=d }:=h
theorem le_enter {a:St} (h:a.at_<ts.length):Le ts a (enter ts a):=by
 unfold enter;by_cases hd:32≤a.deep
 · simp only[if_pos hd];exact le_deep (le_fails (by decide) h)
 · simp only[if_neg hd];exact le_deep (Le.refl h)
theorem le_leave {a:St} (h:a.at_<ts.length):Le ts a (leave a):=le_deep (Le.refl h)
theorem le_many {n most:Nat} {a:St} (h:a.at_<ts.length):Le ts a (many ts n most a):=by
 unfold many;split
 · exact le_fails (by decide) h
 · exact Le.refl h
theorem le_goes {first:Bool} {fin:List UInt8} {a:St} (h:a.at_<ts.length):Le ts a (goes ts first fin a).2:=by
 unfold goes;split
 · split
   · exact Le.refl h
   · split
     · exact Le.refl h
     · exact le_may h
 · exact Le.refl h
theorem goes_well {first:Bool} {fin:List UInt8} {a:St} (h:(goes ts first fin a).1=true):well a=true:=by
 unfold goes at h;split at h
 · rename_i k;exact k
 · cases h
theorem le_goesOn {first:Bool} {s:List UInt8} {a:St} (h:a.at_<ts.length):Le ts a (goesOn ts first s a).2:=by
 unfold goesOn;split
 · split
   · exact Le.refl h
   · exact le_may h
 · exact Le.refl h
theorem goesOn_well {first:Bool} {s:List UInt8} {a:St} (h:(goesOn ts first s a).1=true):well a=true:=by
 unfold goesOn at h;split at h
 · rename_i k;exact k
 · cases h
def Tot {α:Type} (R:St→St→Prop) (a:St) (x:Option (α×St)):Prop:=∃ r,x=some r∧R a r.2
section
variable (hl:∀ a:St,a.at_+1=ts.length→(cur ts a).kind=0)
include hl
theorem fieldsL_tot (fin:List UInt8):∀ (m:Nat) (first:Bool) (l:List FieldT) (a:St) (k:Nat),M ts m a→m+1≤k→Tot (Le ts) a (fieldsL ts fin k first l a):=by
 intro m;induction m with
 | zero=>
   intro first l a k h hk
   obtain⟨k,rfl⟩:∃ j,k=j+1:=⟨k - 1,by omega⟩;rw[fieldsL];by_cases hg:(goes ts first fin a).1=true
   · have:=goes_well hg;rw[h.zero] at this;cases this
   · rw[if_neg hg];exact⟨_,rfl,le_goes h.1⟩
 | succ m ih=>
   intro first l a k h hk
   obtain⟨k,rfl⟩:∃ j,k=j+1:=⟨k - 1,by omega⟩;rw[fieldsL];by_cases hg:(goes ts first fin a).1=true
   · rw[if_pos hg];have h1:=le_goes (first:=first) (fin:=fin) h.1;have h2:=h1.trans (le_many (n:=l.length) (most:=8) h1.2.1);have h3:=h2.then (lt_word hl h2.2.1);have h4:=h3.then (le_must (s:=[58]) h3.2.1);have h5:=h4.then (lt_name hl h4.2.1).le;obtain⟨r,hr,hle⟩:=ih false (l++[⟨(word ts (many ts l.length 8 (goes ts first fin a).2)).1,(name ts (must ts [58] (word ts (many ts l.length 8 (goes ts first fin a).2)).2)).1⟩]) _ k (h.lt h5) (by omega);exact⟨r,hr,h5.le.trans hle⟩
   · rw[if_neg hg];exact⟨_,rfl,le_goes h.1⟩
theorem fields_tot (op fin:List UInt8) (m:Nat) (a:St) (k:Nat) (h:M ts m a) (hk:m+1≤k):Tot (Le ts) a (fields ts k op fin a):=by have h1:=le_must (s:=op) h.1;obtain⟨r,hr,hle⟩:=fieldsL_tot hl fin m true [] _ k (h.le h1) hk;unfold fields;rw[hr];exact⟨_,rfl,(h1.trans hle).trans (le_must hle.2.1)⟩
theorem ctorsL_tot:∀ (m:Nat) (first:Bool) (l:List CtorT) (a:St) (k:Nat),M ts m a→m+1≤k→Tot (Le ts) a (ctorsL ts k first l a):=by
 intro m;induction m with
 | zero=>
   intro first l a k h hk
   obtain⟨k,rfl⟩:∃ j,k=j+1:=⟨k - 1,by omega⟩;rw[ctorsL];by_cases hg:(goesOn ts first [124] a).1=true
   · have:=goesOn_well hg;rw[h.zero] at this;cases this
   · rw[if_neg hg];exact⟨_,rfl,le_goesOn h.1⟩
 | succ m ih=>
   intro first l a k h hk
   obtain⟨k,rfl⟩:∃ j,k=j+1:=⟨k - 1,by omega⟩;rw[ctorsL];by_cases hg:(goesOn ts first [124] a).1=true
   · rw[if_pos hg];have h1:=le_goesOn (first:=first) (s:=[124]) h.1;have h2:=h1.then (lt_word hl h1.2.1);obtain⟨r,hr,hle⟩:=fields_tot hl [123] [125] m _ k (h.lt h2) (by omega);rw[hr];have h3:=h2.then hle;obtain⟨r2,hr2,hle2⟩:=ih false (l++[⟨(word ts (goesOn ts first [124] a).2).1,r.1⟩]) _ k (h.lt h3) (by omega);exact⟨r2,hr2,h3.le.trans hle2⟩
   · rw[if_neg hg];exact⟨_,rfl,le_goesOn h.1⟩
theorem kind_tot (m:Nat) (at_:Int) (a:St) (k:Nat) (h:M ts m a) (hk:m+1≤k):Tot (Le ts) a (kind ts k at_ a):=by
 have h1:=(lt_word hl h.1).le;have h2:=h1.trans (le_may (s:=[60,58]) h1.2.1);unfold kind;split
 · exact⟨_,rfl,h2.trans (lt_name hl h2.2.1).le⟩
 · have h3:=h2.trans (le_must (s:=[61]) h2.2.1);obtain⟨r,hr,hle⟩:=ctorsL_tot hl m true [] _ k (h.le h3) hk;rw[hr];exact⟨_,rfl,h3.trans hle⟩
theorem declL_tot:∀ (m:Nat) (d:DeclT) (a:St) (k:Nat),M ts m a→m+1≤k→Tot (Le ts) a (declL ts k d a):=by
 intro m;induction m with
 | zero=>intro d a k h hk;obtain⟨k,rfl⟩:∃ j,k=j+1:=⟨k - 1,by omega⟩;rw[declL,if_neg (by unfold ioGoes;rw[h.zero];simp)];exact⟨_,rfl,Le.refl h.1⟩
 | succ m ih=>
   intro d a k h hk;obtain⟨k,rfl⟩:∃ j,k=j+1:=⟨k - 1,by omega⟩;rw[declL];by_cases hg:ioGoes ts a=true
   · rw[if_pos hg];have hk1:(cur ts a).kind≠0:=(by unfold ioGoes at hg;simp only[Bool.and_eq_true,decide_eq_true_eq] at hg;omega);have h1:=lt_take hl h.1 hk1;obtain⟨r,hr,hle⟩:=ih (if (take ts a).1.text=inp then { d with input:=true } else { d with output:=true }) _ k (h.lt h1) (by omega);exact⟨r,hr,h1.le.trans hle⟩
   · rw[if_neg hg];exact⟨_,rfl,Le.refl h.1⟩
theorem decl_tot (m:Nat) (at_:Int) (a:St) (k:Nat) (h:M ts m a) (hk:m+1≤k):Tot (Le ts) a (decl ts k at_ a):=by have h1:=(lt_word hl h.1).le;obtain⟨r,hr,hle⟩:=fields_tot hl [40] [41] m _ k (h.le h1) hk;have h2:=h1.trans hle;obtain⟨r2,hr2,hle2⟩:=declL_tot hl m ⟨(word ts a).1,r.1,false,false,at_⟩ _ k (h.le h2) hk;unfold decl;rw[hr];exact⟨r2,hr2,h2.trans hle2⟩
theorem basesL_tot:∀ (m:Nat) (l:List ByteArray) (a:St) (k:Nat),M ts m a→m+1≤k→Tot (Le ts) a (basesL ts k l a):=by
 intro m;induction m with
 | zero=>
   intro l a k h hk;obtain⟨k,rfl⟩:∃ j,k=j+1:=⟨k - 1,by omega⟩;rw[basesL];by_cases hg:(may ts [44] a).1=true
   · have:=may_well hg;rw[h.zero] at this;cases this
   · rw[if_neg hg];exact⟨_,rfl,le_may h.1⟩
 | succ m ih=>
   intro l a k h hk;obtain⟨k,rfl⟩:∃ j,k=j+1:=⟨k - 1,by omega⟩;rw[basesL];by_cases hg:(may ts [44] a).1=true
   · rw[if_pos hg];have h1:=lt_may hl h.1 hg;have h2:=h1.then (lt_name hl h1.2.1).le;obtain⟨r,hr,hle⟩:=ih (l++[(name ts (may ts [44] a).2).1]) _ k (h.lt h2) (by omega);exact⟨r,hr,h2.le.trans hle⟩
   · rw[if_neg hg];exact⟨_,rfl,le_may h.1⟩
omit hl in
theorem opOf_kind {level:Nat} {a:St} (h:opOf ts level a≠[]):(cur ts a).kind≠0:=by
 unfold opOf at h;split at h
 · split at h
   · rename_i q;exact sign_kind q
   · split at h
     · rename_i q;exact sign_kind q
     · split at h
       · rename_i q;exact sign_kind q
       · exact absurd rfl h
 · split at h
   · rename_i q;exact sign_kind q
   · split at h
     · rename_i q;exact sign_kind q
     · exact absurd rfl h
structure ETot (ts:List T) (m:Nat):Prop where
 one:∀ a k,M ts m a→10*m+1≤k→Tot (Lt ts) a (one ts k a)
 factor:∀ a k,M ts m a→10*m+2≤k→Tot (Lt ts) a (factor ts k a)
 row:∀ level a k,level≤2→M ts m a→10*m+5 - level≤k→Tot (Lt ts) a (row ts k level a)
 expr:∀ a k,M ts m a→10*m+6≤k→Tot (Lt ts) a (expr ts k a)
 exprs:∀ a k,M ts m a→10*m+8≤k→Tot (Le ts) a (exprs ts k a)
theorem one_tot (m:Nat) (ih:∀ j,j<m→ETot ts j) (a:St) (k:Nat) (h:M ts m a) (hk:10*m+1≤k):Tot (Lt ts) a (one ts k a):=by
 obtain⟨k,rfl⟩:∃ j,k=j+1:=⟨k - 1,by omega⟩;rw[one];by_cases h2:(cur ts a).kind=2
 · rw[if_pos h2];exact⟨_,rfl,lt_take hl h.1 (by omega)⟩
 rw[if_neg h2];by_cases h3:(cur ts a).kind=3
 · rw[if_pos h3];exact⟨_,rfl,lt_take hl h.1 (by omega)⟩
 rw[if_neg h3];by_cases h1:(cur ts a).kind=1
 · rw[if_pos h1];split
   · exact⟨_,rfl,lt_take hl h.1 (by omega)⟩
   · exact⟨_,rfl,lt_word hl h.1⟩
 rw[if_neg h1];have less:∀ s:List UInt8,(may ts s a).1=true→∃ j,m=j+1∧M ts j (may ts s a).2:=by
  intro s hs;cases m with
  | zero=>have:=may_well hs;rw[h.zero] at this;cases this
  | succ j=>exact⟨j,rfl,h.lt (lt_may hl h.1 hs)⟩
 by_cases m1:(may ts [45] a).1=true
 · rw[if_pos m1];have g:=lt_may hl h.1 m1;split
   · exact⟨_,rfl,g.then (le_take g.2.1)⟩
   · obtain⟨j,rfl,hj⟩:=less _ m1;obtain⟨r,hr,hle⟩:=(ih j (by omega)).factor _ k hj (by omega);rw[hr];exact⟨_,rfl,g.then hle.le⟩
 rw[if_neg m1];by_cases m2:(may ts [40] a).1=true
 · rw[if_pos m2];have g:=lt_may hl h.1 m2;obtain⟨j,rfl,hj⟩:=less _ m2;obtain⟨r,hr,hle⟩:=(ih j (by omega)).expr _ k hj (by omega);rw[hr];exact⟨_,rfl,g.then (hle.le.trans (le_must hle.2.1))⟩
 rw[if_neg m2];by_cases m3:(may ts [36] a).1=true
 · rw[if_pos m3];have g:=lt_may hl h.1 m3;obtain⟨j,rfl,hj⟩:=less _ m3;have hw:=lt_word hl g.2.1;obtain⟨r,hr,hle⟩:=(ih j (by omega)).exprs _ k (hj.le hw.le) (by omega);rw[hr];exact⟨_,rfl,g.then (hw.le.trans hle)⟩
 rw[if_neg m3];exact⟨_,rfl,(le_fails (by decide) h.1).lt (bad_fails (by decide) a)⟩
theorem factor_tot (m:Nat) (ih:∀ a k,M ts m a→10*m+1≤k→Tot (Lt ts) a (one ts k a)) (a:St) (k:Nat) (h:M ts m a) (hk:10*m+2≤k):Tot (Lt ts) a (factor ts k a):=by
 obtain⟨k,rfl⟩:∃ j,k=j+1:=⟨k - 1,by omega⟩;rw[factor];have h1:=le_enter h.1;by_cases hw:well (enter ts a)=true
 · rw[if_pos hw];obtain⟨r,hr,hle⟩:=ih _ k (h.le h1) (by omega);rw[hr];exact⟨_,rfl,(h1.then hle).then (le_leave hle.2.1)⟩
 · rw[if_neg hw];have hw2:well (leave (enter ts a))=false:=(Bool.eq_false_iff.mpr hw:well (enter ts a)=false);exact⟨_,rfl,(h1.trans (le_leave h1.2.1)).lt hw2⟩
theorem rowL_tot (level:Nat) (hlv:level<2):∀ (m:Nat),(∀ j,j<m→∀ a k,M ts j a→10*j+5≤k→Tot (Lt ts) a (row ts k (level+1) a))→∀ (e:Ex) (a:St) (k:Nat),M ts m a→10*m+1≤k→Tot (Le ts) a (rowL ts k level e a):=by
 intro m;induction m with
 | zero=>intro _ e a k h hk;obtain⟨k,rfl⟩:∃ j,k=j+1:=⟨k - 1,by omega⟩;rw[rowL,if_neg (by simp[h.zero])];exact⟨_,rfl,Le.refl h.1⟩
 | succ m ih=>
   intro hr e a k h hk;obtain⟨k,rfl⟩:∃ j,k=j+1:=⟨k - 1,by omega⟩;rw[rowL];by_cases hw:well a=true
   · rw[if_pos hw];by_cases ho:opOf ts level a=[]
     · rw[if_pos ho];exact⟨_,rfl,Le.refl h.1⟩
     · rw[if_neg ho];have g:=lt_take hl h.1 (opOf_kind ho);obtain⟨r,hr1,hle⟩:=hr m (by omega) _ k (h.lt g) (by omega);rw[hr1];obtain⟨r2,hr2,hle2⟩:=ih (fun j hj=>hr j (by omega)) ⟨5,0,str (opOf ts level a),[e,r.1],e.at_⟩ _ k ((h.lt g).le hle.le) (by omega);exact⟨r2,hr2,(g.then hle.le).le.trans hle2⟩
   · rw[if_neg hw];exact⟨_,rfl,Le.refl h.1⟩
theorem exprsL_tot:∀ (m:Nat),(∀ j,j≤m→∀ a k,M ts j a→10*j+6≤k→Tot (Lt ts) a (expr ts k a))→∀ (first:Bool) (l:List Ex) (a:St) (k:Nat),M ts m a→10*m+7≤k→Tot (Le ts) a (exprsL ts k first l a):=by
 intro m;induction m with
 | zero=>
   intro _ first l a k h hk
   obtain⟨k,rfl⟩:∃ j,k=j+1:=⟨k - 1,by omega⟩;rw[exprsL];by_cases hg:(goes ts first [41] a).1=true
   · have:=goes_well hg;rw[h.zero] at this;cases this
   · rw[if_neg hg];exact⟨_,rfl,le_goes h.1⟩
 | succ m ih=>
   intro he first l a k h hk
   obtain⟨k,rfl⟩:∃ j,k=j+1:=⟨k - 1,by omega⟩;rw[exprsL];by_cases hg:(goes ts first [41] a).1=true
   · rw[if_pos hg];have h1:=le_goes (first:=first) (fin:=[41]) h.1;have h2:=h1.trans (le_many (n:=l.length) (most:=8) h1.2.1);obtain⟨r,hr,hle⟩:=he (m+1) (Zc _) _ k (h.le h2) (by omega);rw[hr];have h3:=h2.then hle;obtain⟨r2,hr2,hle2⟩:=ih (fun j hj=>he j (by omega)) false (l++[r.1]) _ k (h.lt h3) (by omega);exact⟨r2,hr2,h3.le.trans hle2⟩
   · rw[if_neg hg];exact⟨_,rfl,le_goes h.1⟩
theorem expr_all:∀ m,ETot ts m:=by
 intro m;induction m using Nat.strongRecOn with
 | ind m ih=>
 have h1:=one_tot hl m ih;have h2:=factor_tot hl m h1;have r2:∀ a k,M ts m a→10*m+3≤k→Tot (Lt ts) a (row ts k 2 a):=(by intro a k h hk;obtain⟨k,rfl⟩:∃ j,k=j+1:=⟨k - 1,by omega⟩;rw[row,if_pos rfl];exact h2 a k h (by omega));have rl:∀ level,level<2→(∀ a k,M ts m a→10*m+5 - (level+1)≤k→Tot (Lt ts) a (row ts k (level+1) a))→∀ a k,M ts m a→10*m+5 - level≤k→Tot (Lt ts) a (row ts k level a):=(by intro level hlv hr a k h hk;obtain⟨k,rfl⟩:∃ j,k=j+1:=⟨k - 1,by omega⟩;rw[row,if_neg (by omega)];obtain⟨r,hr1,hle⟩:=hr a k h (by omega);rw[hr1];obtain⟨q,hq,hle2⟩:=rowL_tot hl level hlv m (fun j hj b n hb hn=>(ih j hj).row (level+1) b n (by omega) hb (by omega)) r.1 r.2 k (h.le hle.le) (by omega);exact⟨q,hq,hle.then hle2⟩);have r1:=rl 1 (by omega) (fun a k h hk=>r2 a k h (by omega));have r0:=rl 0 (by omega) (fun a k h hk=>r1 a k h (by omega));have he:∀ a k,M ts m a→10*m+6≤k→Tot (Lt ts) a (expr ts k a):=by
  intro a k h hk;obtain⟨k,rfl⟩:∃ j,k=j+1:=⟨k - 1,by omega⟩;rw[expr];have h1:=le_enter h.1;by_cases hw:well (enter ts a)=true
  · rw[if_pos hw];obtain⟨r,hr,hle⟩:=r0 _ k (h.le h1) (by omega);rw[hr];exact⟨_,rfl,(h1.then hle).then (le_leave hle.2.1)⟩
  · rw[if_neg hw];have hw2:well (leave (enter ts a))=false:=(Bool.eq_false_iff.mpr hw:well (enter ts a)=false);exact⟨_,rfl,(h1.trans (le_leave h1.2.1)).lt hw2⟩
 refine⟨h1,h2,?_,he,?_⟩
 · intro level a k hlv h hk;rcases (by omega:level=0∨level=1∨level=2) with rfl|rfl|rfl
   · exact r0 a k h (by omega)
   · exact r1 a k h (by omega)
   · exact r2 a k h (by omega)
 · intro a k h hk;obtain⟨k,rfl⟩:∃ j,k=j+1:=⟨k - 1,by omega⟩;have h3:=le_must (s:=[40]) h.1;obtain⟨r,hr,hle⟩:=exprsL_tot hl m (fun j hj=>by
    rcases Nat.lt_or_ge j m with q|q
    · exact (ih j q).expr
    · have:j=m:=(by omega);subst this;exact he) true [] _ k (h.le h3) (by omega)
   rw[exprs,hr];exact⟨_,rfl,(h3.trans hle).trans (le_must hle.2.1)⟩
theorem atom_tot (m:Nat) (a:St) (k:Nat) (h:M ts m a) (hk:10*m+8≤k):Tot (Lt ts) a (atom ts k a):=by have h1:=lt_name hl h.1;obtain⟨r,hr,hle⟩:=(expr_all hl m).exprs _ k (h.le h1.le) hk;unfold atom;rw[hr];exact⟨_,rfl,h1.then hle⟩
theorem lit_tot (m:Nat) (a:St) (k:Nat) (h:M ts m a) (hk:10*m+8≤k):Tot (Lt ts) a (lit ts k a):=by
 unfold lit;split
 · have h1:=le_may (s:=[33]) h.1;obtain⟨r,hr,hle⟩:=atom_tot hl m _ k (h.le h1) hk;rw[hr];exact⟨_,rfl,h1.then hle⟩
 · split
   · obtain⟨r,hr,hle⟩:=atom_tot hl m _ k h hk;rw[hr];exact⟨_,rfl,hle⟩
   · obtain⟨r,hr,hle⟩:=(expr_all hl m).expr _ k h (by omega);rw[hr];have h1:Le ts r.2 (if cmpOf ts r.2=[] then fails ts 10 r.2 else r.2):=by
      split
      · exact le_fails (by decide) hle.2.1
      · exact Le.refl hle.2.1
     have h2:=hle.then (h1.trans (le_take h1.2.1));obtain⟨q,hq,hle2⟩:=(expr_all hl m).expr _ k (h.le h2.le) (by omega);show Tot _ _ (((expr ts k (take ts (if cmpOf ts r.2=[] then fails ts 10 r.2 else r.2)).2).bind _));rw[hq];exact⟨_,rfl,h2.then hle2.le⟩
theorem bodyL_tot:∀ (m:Nat) (first:Bool) (l:List LitT) (a:St) (k:Nat),M ts m a→10*m+9≤k→Tot (Le ts) a (bodyL ts k first l a):=by
 intro m;induction m with
 | zero=>
   intro first l a k h hk
   obtain⟨k,rfl⟩:∃ j,k=j+1:=⟨k - 1,by omega⟩;rw[bodyL];by_cases hg:(goesOn ts first [44] a).1=true
   · have:=goesOn_well hg;rw[h.zero] at this;cases this
   · rw[if_neg hg];exact⟨_,rfl,le_goesOn h.1⟩
 | succ m ih=>
   intro first l a k h hk
   obtain⟨k,rfl⟩:∃ j,k=j+1:=⟨k - 1,by omega⟩;rw[bodyL];by_cases hg:(goesOn ts first [44] a).1=true
   · rw[if_pos hg];have h1:=le_goesOn (first:=first) (s:=[44]) h.1;have h2:=h1.trans (le_many (n:=l.length) (most:=16) h1.2.1);obtain⟨r,hr,hle⟩:=lit_tot hl (m+1) _ k (h.le h2) (by omega);rw[hr];have h3:=h2.then hle;obtain⟨r2,hr2,hle2⟩:=ih false (l++[r.1]) _ k (h.lt h3) (by omega);exact⟨r2,hr2,h3.le.trans hle2⟩
   · rw[if_neg hg];exact⟨_,rfl,le_goesOn h.1⟩
theorem clause_tot (m:Nat) (a:St) (k:Nat) (h:M ts m a) (hk:10*m+9≤k):Tot (Lt ts) a (clause ts k a):=by
 obtain⟨r,hr,hle⟩:=atom_tot hl m a k h (by omega);unfold clause;rw[hr];have h1:=hle.then (le_may (s:=[58,45]) hle.2.1);simp only[Option.bind_some];split
 · obtain⟨q,hq,hle2⟩:=bodyL_tot hl m true [] _ k (h.le h1.le) hk;rw[hq];exact⟨_,rfl,(h1.then hle2).then (le_must hle2.2.1)⟩
 · exact⟨_,rfl,h1.then (le_must h1.2.1)⟩
omit hl in
theorem le_item {a:St} (h:a.at_<ts.length):Le ts a (item ts a):=by
 have hi:Le ts a { a with items:=wrap64 (a.items+1) }:=Le.refl h;unfold item;split
 · exact hi.trans (le_fails (by decide) h)
 · exact hi
theorem prog_tot:∀ (m:Nat) (p:ProgT) (a:St) (k:Nat),M ts m a→10*m+11≤k→Tot (Le ts) a (prog ts k p a):=by
 intro m;induction m with
 | zero=>intro p a k h hk;obtain⟨k,rfl⟩:∃ j,k=j+1:=⟨k - 1,by omega⟩;rw[prog,if_neg (by unfold progGoes;rw[h.zero];simp)];exact⟨_,rfl,Le.refl h.1⟩
 | succ m ih=>
   intro p a k h hk;obtain⟨k,rfl⟩:∃ j,k=j+1:=⟨k - 1,by omega⟩;rw[prog];have hi:=le_item h.1;by_cases hg:progGoes ts a=true
   · rw[if_pos hg];by_cases g1:(may ts kwType (item ts a)).1=true
     · rw[if_pos g1];have h1:=hi.then (lt_may hl hi.2.1 g1);obtain⟨r,hr,hle⟩:=kind_tot hl m (cur ts (item ts a)).at_ _ k (h.lt h1) (by omega);rw[hr];obtain⟨q,hq,hle2⟩:=ih (addT p r.1) r.2 k ((h.lt h1).le hle) (by omega);exact⟨q,hq,(h1.then hle).le.trans hle2⟩
     rw[if_neg g1];by_cases g2:(may ts kwDecl (item ts a)).1=true
     · rw[if_pos g2];have h1:=hi.then (lt_may hl hi.2.1 g2);obtain⟨r,hr,hle⟩:=decl_tot hl m (cur ts (item ts a)).at_ _ k (h.lt h1) (by omega);rw[hr];obtain⟨q,hq,hle2⟩:=ih (addD p r.1) r.2 k ((h.lt h1).le hle) (by omega);exact⟨q,hq,(h1.then hle).le.trans hle2⟩
     rw[if_neg g2];by_cases g3:sign ts kwComp (item ts a)=true
     · rw[if_pos g3];have he:=le_enter hi.2.1;have hkd:(cur ts (enter ts (item ts a))).kind≠0:=(by have:(cur ts (enter ts (item ts a)))=cur ts (item ts a):=(by unfold cur enter;split <;> simp[at_fails]);rw[this];exact sign_kind g3);have h1:=(hi.trans he).then (lt_take hl he.2.1 hkd)
       have hM:=h.lt h1;have hw:=(lt_word hl h1.2.1).le;have hm1:=hw.trans (le_may (s:=[58]) hw.2.1);have hcomp:Tot (Le ts) (take ts (enter ts (item ts a))).2 (comp ts k (cur ts (item ts a)).at_ (take ts (enter ts (item ts a))).2):=by
        obtain⟨k,rfl⟩:∃ j,k=j+1:=⟨k - 1,by omega⟩;rw[comp];have hb:Tot (Le ts) (take ts (enter ts (item ts a))).2 (if (may ts [58] (word ts (take ts (enter ts (item ts a))).2).2).1=true then basesL ts k [(name ts (may ts [58] (word ts (take ts (enter ts (item ts a))).2).2).2).1] (name ts (may ts [58] (word ts (take ts (enter ts (item ts a))).2).2).2).2 else some ([],(may ts [58] (word ts (take ts (enter ts (item ts a))).2).2).2)):=by
         split
         · have hn:=hm1.trans (lt_name hl hm1.2.1).le;obtain⟨q,hq,hle⟩:=basesL_tot hl m [(name ts (may ts [58] (word ts (take ts (enter ts (item ts a))).2).2).2).1] _ k (hM.le hn) (by omega);exact⟨q,hq,hn.trans hle⟩
         · exact⟨_,rfl,hm1⟩
        obtain⟨b,hb1,hb2⟩:=hb;rw[hb1];have hx:=hb2.trans (le_must (s:=[123]) hb2.2.1);obtain⟨q,hq,hle⟩:=ih prog0 _ k (hM.le hx) (by omega);simp only[Option.bind_some];rw[hq];exact⟨_,rfl,(hx.trans hle).trans (le_must hle.2.1)⟩
       obtain⟨r,hr,hle⟩:=hcomp;rw[hr];have h3:=hle.trans (le_leave hle.2.1);obtain⟨q,hq,hle2⟩:=ih (addC p r.1) (leave r.2) k (hM.le h3) (by omega);exact⟨q,hq,(h1.then h3).le.trans hle2⟩
     rw[if_neg g3];by_cases g4:(may ts kwInit (item ts a)).1=true
     · rw[if_pos g4];have h1:=hi.then (lt_may hl hi.2.1 g4);have hw:=(lt_word hl h1.2.1).le;have hm:=hw.trans (le_must (s:=[61]) hw.2.1);have hn:=hm.trans (lt_name hl hm.2.1).le;have hio:Le ts (may ts kwInit (item ts a)).2 (initOf ts (cur ts (item ts a)).at_ (may ts kwInit (item ts a)).2).2:=hn;obtain⟨q,hq,hle2⟩:=ih (addI p (initOf ts (cur ts (item ts a)).at_ (may ts kwInit (item ts a)).2).1) _ k ((h.lt h1).le hio) (by omega);exact⟨q,hq,(h1.then hio).le.trans hle2⟩
     rw[if_neg g4];obtain⟨r,hr,hle⟩:=clause_tot hl (m+1) _ k (h.le hi) (by omega);rw[hr];have h1:=hi.then hle;obtain⟨q,hq,hle2⟩:=ih (addCl p r.1) r.2 k (h.lt h1) (by omega);exact⟨q,hq,h1.le.trans hle2⟩
   · rw[if_neg hg];exact⟨_,rfl,Le.refl h.1⟩
end
end
def last (n:Nat):T:=⟨0,[],0,n⟩
theorem cur_last (l:List T) (n:Nat) (a:St) (h:a.at_+1=(l++[last n]).length):(cur (l++[last n]) a).kind=0:=by have:a.at_=l.length:=(by rw[Zi] at h;simpa using h);unfold cur;rw[this,List.getD_eq_getElem?_getD,List.getElem?_append_right (Zc _)];simp[last]
theorem parse_tot (l:List UInt8) (k:Nat) (hk:10*((lex l).1.length+1)+11≤k):∃ r,parse k l=some r:=by
 unfold parse;split
 · obtain⟨r,hr,_⟩:=prog_tot (ts:=(lex l).1++[last l.length]) (cur_last _ _) ((lex l).1.length+1) prog0 ⟨0,0,0,0,0⟩ k ⟨by simp,fun _=>by simp⟩ hk;show ∃ r,((prog ((lex l).1++[last l.length]) k prog0 ⟨0,0,0,0,0⟩).bind _)=some r;rw[hr];simp only[Option.bind_some];split <;> split <;> exact⟨_,rfl⟩
 · exact⟨_,rfl⟩
end RefTotal
namespace RefLex
open Go Go.RowKit NumPure NumRead LexPure LexGap LexToks LexRise
theorem rise_len_from:∀ (l:List T) (lo n:Nat),l.Pairwise (fun a b=>a.at_<b.at_)→(∀ t∈l,lo≤t.at_∧t.at_<n)→l.length≤n - lo:=by
 intro l;induction l with
 | nil=>intro lo n _ _;simp
 | cons a l ih=>intro lo n hp hb;rw[List.pairwise_cons] at hp;have h1:=hb a (by simp);have h2:=ih (a.at_+1) n hp.2 (fun t ht=>⟨hp.1 t ht,(hb t (by simp[ht])).2⟩);simp only[Zj];omega
theorem rise_len {l:List T} {n:Nat} (h:Rise l n):l.length≤n:=rise_len_from l 0 n h.1 (fun t ht=>⟨Nat.zero_le _,h.2 t ht⟩)
theorem lex_len (l:List UInt8):(lex l).1.length≤65536:=by
 rcases Nat.lt_or_ge 65536 l.length with h|h
 · unfold lex;rw[if_pos h];simp
 · rcases lex_law l with ⟨_,_,hr⟩|⟨_,he,_⟩
   · exact Ze (rise_len hr) h
   · rw[he];simp
theorem text_tx:∀ (n:Nat) (r:List UInt8),r.length≤n→∀ b i kd tx m len,text b i r=.tok kd tx m len→tx.length≤b.length+r.length:=by
 intro n;induction n with
 | zero=>intro r hr b i kd tx m len h;obtain rfl:r=[]:=List.eq_nil_of_length_eq_zero (by omega);simp[text] at h
 | succ n ih=>
   intro r hr b i kd tx m len h;cases r with
   | nil=>simp[text] at h
   | cons c r=>
     have hc:text b i (c :: r)=if c=34 then .tok 3 b 0 (i+1) else if c=10 then .bad 7 i else if c=92 then (match r with|[]=>.bad 7 i|d :: r'=>match esc d with|none=>.bad 7 i|some e=>text (b++[e]) (i+2) r') else text (b++[c]) (i+1) r:=by
      cases r with
      | nil=>rfl
      | cons d r=>rfl
     rw[hc] at h;simp at hr;split at h
     · injection h with _ h2 _ _
       subst h2;simp
     · split at h
       · cases h
       · split at h
         · cases r with
           | nil=>simp at h
           | cons d r=>
             simp only[] at h;cases he:esc d with
             | none=>rw[he] at h;simp at h
             | some e=>rw[he] at h;simp at hr;have:=ih r (by omega) _ _ _ _ _ _ h;simp at this ⊢;omega
         · have:=ih r (by omega) _ _ _ _ _ _ h;simp at this ⊢;omega
theorem token_tx (c:UInt8) (r:List UInt8) (kd:Int) (tx:List UInt8) (m:Int) (len:Nat) (h:token (c :: r)=.tok kd tx m len):tx.length≤(c :: r).length:=by
 rw[token_cons] at h;split at h
 · cases h
 · split at h
   · injection h with _ h2 _ _
     subst h2;rw[List.length_take];exact Nat.min_le_right _ _
   · split at h
     · unfold number at h;split at h
       · cases h
       · split at h
         · injection h with _ h2 _ _
           subst h2;simp
         · cases h
     · split at h
       · have:=text_tx r.length r (Zc _) [] 1 kd tx m len h;simp at this ⊢;omega
       · unfold sign at h;split at h
         · cases h
         · injection h with _ h2 _ _
           subst h2;rw[List.length_take];exact Nat.min_le_right _ _
theorem toks_tx (B:Nat):∀ (f p:Nat) (l:List UInt8) (acc:List T),l.length≤B→(∀ t∈acc,t.text.length≤B)→∀ t∈(toks f p l acc).1,t.text.length≤B:=by
 intro f;induction f with
 | zero=>intro p l acc _ ha t ht;exact ha t ht
 | succ f ih=>
   intro p l acc hl ha t ht;rw[toks] at ht;split at ht
   · split at ht
     · exact ha t ht
     · rename_i c r hd;have hcr:(c :: r).length≤B:=(by rw[← hd,List.length_drop];omega);split at ht
       · simp at ht
       · rename_i kind tx n len htk;refine ih _ _ _ ?_ ?_ t ht
         · rw[List.length_drop];omega
         · intro u hu;rw[List.mem_append] at hu;rcases hu with hu|hu
           · exact ha u hu
           · rw[List.mem_singleton] at hu;subst hu;exact Ze (token_tx c r kind tx n len htk) hcr
   · simp at ht
theorem lex_txt (l:List UInt8):∀ t∈(lex l).1,t.text.length≤65536:=by
 intro t ht;unfold lex at ht;split at ht
 · simp at ht
 · exact toks_tx 65536 _ _ _ _ (by omega) (by simp) t ht
end RefLex
end Go.Proofs.Ytddmceldglelkaa
