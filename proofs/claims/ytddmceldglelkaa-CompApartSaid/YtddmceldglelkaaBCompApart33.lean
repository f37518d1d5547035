/- A claim's texts, in the order of what they need: CmpLaw, CmpErr, CmpApart, CmpApartW. -/
import Derived.Test.YtddmceldglelkaaBCompApart24
import Derived.Test.YtddmceldglelkaaBCompApart26
import Derived.Test.YtddmceldglelkaaBCompApart32
import Derived.Laws.RangeAny
import Derived.Lib.RuneCount
set_option maxRecDepth 100000
set_option maxHeartbeats 8000000
set_option linter.unusedVariables false
set_option linter.unusedSimpArgs false
set_option linter.unusedSectionVars false
namespace Go.Proofs.Ytddmceldglelkaa.CmpLaw
open Go Go.RowKit CmpFind CmpFlat CmpAlive RefSameR RefPure RefKinds RefMem RefSameP CmpPure CmpMem CmpKinds RefExpr RefFields RefCells YtddmceldglelkaaW.PrintWords
theorem parse_calls (s:ByteArray) (hs:s.size≤140737488351232):∃ k r,parse k s.data.toList=some r∧CmpSize.Small r.1∧∀ w,Calls Try.prog 7 #[.string s] w (RefParse.ParsePost w r):=by
 obtain⟨k,r,hr,hk,hsm⟩:=CmpSize.parse_some s.data.toList
 exact⟨k,r,hr,hsm,fun w=>RefParse.parse_any s hs w k (by omega) r hr⟩
theorem rows_pw {w:World} {n0:Nat} {vT vD vC vI vL:Value} {p:ProgT} (h:RefProgS.Rows w n0 vT vD vC vI vL p):PW w vT vD vC vI vL p:=⟨Vw.of_R h.t,Vw.of_R h.d,Vw.of_R h.c,Vw.of_R h.i,Vw.of_R h.l⟩
theorem pw_pv {w:World} {vT vD vC vI vL:Value} {p:ProgT} (h:PW w vT vD vC vI vL p):PV w w vT vD vC vI vL p:=⟨vw_fixed h.t,vw_fixed h.d,vw_fixed h.c,vw_fixed h.i,vw_fixed h.l⟩
theorem vw_map {α:Type} {d d':Kd α} {w:World} {v:Value} {xs:List α} (h:Vw d w v xs) (hz:d'.sz=d.sz) (hK:∀ x cs,d.K w x cs→d'.K w x cs):Vw d' w v xs:=by
 obtain⟨A,c,rfl,hl,h1,h2,h3⟩:=h
 refine⟨A,c,rfl,hl,h1,h2,fun hn=>?_⟩
 obtain⟨ad,hA,hr⟩:=h3 hn
 refine⟨ad,hA,fun j x hj=>?_⟩
 obtain⟨cs,hcl,hk,hcell⟩:=hr j x hj
 rw[hz]
 exact⟨cs,hcl,hK x cs hk,hcell⟩
theorem vw_unfix {α:Type} {d:Kd α} {w0 w:World} {v:Value} {xs:List α} (h:Vw (Kd.fixed d w0) w v xs) (hb:Below w0.heap.size w0 w):Vw d w v xs:=vw_map h rfl (fun _ _ hk=>d.K_below hb hk)
theorem vw_mL {w0 w:World} {v:Value} {xs:List ClauseT} (h:Vw (mL w0) w v xs) (hb:Below w0.heap.size w0 w):Vw kClause w v xs:=vw_map h rfl (fun x cs hk=>by
 obtain⟨va,vb,rfl,hva,hvb⟩:=mL_open hk
 obtain⟨A,c,rfl,h1,h2⟩:=hva.below hb
 obtain⟨B,d,rfl,h3,h4⟩:=vw_unfix hvb hb
 exact kClause_mk w x h1 h2 h3 h4)
theorem vw_nil {α:Type} (d:Kd α) (w:World):Vw d w (.slice none 0 0) []:=⟨none,0,rfl,Nat.le_refl _,⟨rfl,Nat.zero_le _,fun h=>absurd h (Nat.lt_irrefl _)⟩⟩
theorem box_1 {w1 w2:World} {cs:Array Value} {t:TypeId} {o:Obj} (hb:Below ((w1.alloc (.cells cs t)).alloc o).heap.size ((w1.alloc (.cells cs t)).alloc o) w2):Blk w2 w1.heap.size t cs:=Blk.below ((Blk.new w1 t cs).alloc o) hb ((Blk.new w1 t cs).alloc o).lt
def FlatView (w:World) (r:Except (Int×Int) ProgT) (e:Ending) (w':World):Prop:=
 Below w.heap.size w w'∧
 match r with
 | .error z=>e=.returned (.tuple #[.agg #[.slice none 0 0,.slice none 0 0,.slice none 0 0,.slice none 0 0,.slice none 0 0],.agg #[.int .i64 z.1,.int .i64 z.2]])
 | .ok q=>∃ uT uD uL,e=.returned (.tuple #[.agg #[uT,uD,.slice none 0 0,.slice none 0 0,uL],.agg #[.int .i64 0,.int .i64 0]])∧PW w' uT uD (.slice none 0 0) (.slice none 0 0) uL q∧q.comps=[]∧q.inits=[]
theorem flat_view {w w':World} {r:Except (Int×Int) ProgT} {e:Ending} (h:FlatPost w r e w'):FlatView w r e w':=by
 obtain⟨hb,h⟩:=h
 refine⟨hb,?_⟩
 cases r with
 | error z=>exact h
 | ok q=>
   obtain⟨uT,uD,uL,he,h1,h2,h3,h4,h5⟩:=h
   refine⟨uT,uD,uL,he,⟨vw_unfix (Vw.of_R h1) hb,vw_unfix (Vw.of_R h2) hb,?_,?_,vw_mL (Vw.of_R h3) hb⟩,h4,h5⟩
   · rw[h4];exact vw_nil _ _
   · rw[h5];exact vw_nil _ _
theorem flat_calls (w:World) (vT vD vC vI vL:Value) (p:ProgT) (hv:PW w vT vD vC vI vL p) (hs:CmpSize.Small p) (r:Except (Int×Int) ProgT) (hr:flatS p=some r) :
    Calls Try.prog 8 #[.agg #[vT,vD,vC,vI,vL]] w (FlatView w r):=(flatten_any w vT vD vC vI vL p (pw_pv hv) hs r hr).mono (fun _ _ h=>flat_view h)
def FView (w:World) (q:ProgT) (e:Ending) (w':World):Prop:=
 Below w.heap.size w w'∧∃ A1 c1 A2 c2 A5 c5,e=.returned (.tuple #[.agg #[.slice A1 q.types.length c1,.slice A2 q.decls.length c2,.slice none 0 0,.slice none 0 0,.slice A5 q.clauses.length c5],.agg #[.int .i64 0,.int .i64 0]])∧PW w' (.slice A1 q.types.length c1) (.slice A2 q.decls.length c2) (.slice none 0 0) (.slice none 0 0) (.slice A5 q.clauses.length c5) q
theorem f_view {w w':World} {q:ProgT} {e:Ending} (h:FlatView w (.ok q) e w'):FView w q e w':=by
 obtain⟨hb,uT,uD,uL,he,hp,_,_⟩:=h
 obtain⟨A1,c1,rfl⟩:=hp.t.slice
 obtain⟨A2,c2,rfl⟩:=hp.d.slice
 obtain⟨A5,c5,rfl⟩:=hp.l.slice
 exact⟨hb,A1,c1,A2,c2,A5,c5,he,hp⟩
def flatWant:ProgT:=⟨[],[⟨str [100,46,114],[⟨vx,str [110,117,109,98,101,114]⟩],false,false,10⟩],[],[],[⟨⟨str [100,46,114],[⟨1,0,vx,[],31⟩],29⟩,[⟨1,⟨str [101],[⟨1,0,vx,[],39⟩],37⟩,str [],ex0,ex0,37⟩],29⟩]⟩
theorem flat_want:flatS want=some (.ok flatWant):=by kernel_rfl
def txtB:ByteArray:=⟨#[46,99,111,109,112,32,67,32,123,32,46,100,101,99,108,32,114,40,120,58,32,110,117,109,98,101,114,41,32,114,40,120,41,32,58,45,32,101,40,120,41,46,32,125,32,46,105,110,105,116,32,100,32,61,32,67]⟩
theorem small_want:CmpSize.Small want:=CmpSize.parse_small 400 (by decide) txt (want,0,0) parse_ok
theorem parse_txt (w:World):Calls Try.prog 7 #[.string txtB] w (RefParse.ParsePost w (want,0,0)):=RefParse.parse_any txtB (by decide) w 400 (by decide) _ parse_ok
def ParseView (w:World) (p:ProgT) (why fat:Int) (e:Ending) (w':World):Prop:=
 ∃ A1 c1 A2 c2 A3 c3 A4 c4 A5 c5,e=.returned (.tuple #[.agg #[.slice A1 p.types.length c1,.slice A2 p.decls.length c2,.slice A3 p.comps.length c3,.slice A4 p.inits.length c4,.slice A5 p.clauses.length c5],.agg #[.int .i64 why,.int .i64 fat]])∧PW w' (.slice A1 p.types.length c1) (.slice A2 p.decls.length c2) (.slice A3 p.comps.length c3) (.slice A4 p.inits.length c4) (.slice A5 p.clauses.length c5) p∧Below w.heap.size w w'
theorem parse_view {w w':World} {r:ProgT×Int×Int} {e:Ending} (h:RefParse.ParsePost w r e w'):ParseView w r.1 r.2.1 r.2.2 e w':=by
 obtain⟨vT,vD,vC,vI,vL,he,hr,hb⟩:=h
 have hp:=rows_pw hr
 obtain⟨A1,c1,A2,c2,A3,c3,A4,c4,A5,c5,rfl,rfl,rfl,rfl,rfl⟩:=hp.values
 exact⟨A1,c1,A2,c2,A3,c3,A4,c4,A5,c5,he,hp,hb⟩
theorem decl_at0 {w:World} {A:Option Addr} {n c:Nat} {x:DeclT} (h:Vw kDecl w (.slice A n c) [x]):∃ ad,A=some ad∧w.cell? ad=some (.string x.name):=by
 obtain⟨ad,cs,hA,hK,hcell0⟩:=h.at_ 0 x rfl
 have hcell:∀ j u,cs[j]?=some u→w.cell? (ad.add (0*5+j))=some u:=hcell0
 obtain⟨A2,c2,rfl,_⟩:=kDecl_open hK
 exact⟨ad,hA,by simpa [Addr.add] using hcell 0 _ rfl⟩
theorem clause_at0 {w:World} {A:Option Addr} {n c:Nat} {x:ClauseT} (h:Vw kClause w (.slice A n c) [x]):∃ ad,A=some ad∧w.cell? ad=some (.string x.head.rel):=by
 obtain⟨ad,cs,hA,hK,hcell0⟩:=h.at_ 0 x rfl
 have hcell:∀ j u,cs[j]?=some u→w.cell? (ad.add (0*5+j))=some u:=hcell0
 obtain⟨va,vb,rfl,_⟩:=kL_open hK
 exact⟨ad,hA,by simpa [Addr.add] using hcell 0 _ rfl⟩
def AView (w:World) (e:Ending) (w':World):Prop:=
 Below w.heap.size w w'∧∃ A1 c1 a2 c2 a5 c5,e=.returned (.tuple #[.agg #[.slice A1 0 c1,.slice (some a2) 1 c2,.slice none 0 0,.slice none 0 0,.slice (some a5) 1 c5],.agg #[.int .i64 0,.int .i64 0]])∧w'.cell? a2=some (.string ⟨#[100,46,114]⟩)∧w'.cell? a5=some (.string ⟨#[100,46,114]⟩)
theorem alive_view {w w':World} {e:Ending} (h:FlatView w (.ok flatWant) e w'):AView w e w':=by
 obtain⟨hb,uT,uD,uL,he,hp,_,_⟩:=h
 obtain⟨A1,c1,rfl⟩:=hp.t.slice
 obtain⟨A2,c2,rfl⟩:=hp.d.slice
 obtain⟨A5,c5,rfl⟩:=hp.l.slice
 obtain⟨a2,rfl,h2⟩:=decl_at0 (x:=⟨str [100,46,114],[⟨vx,str [110,117,109,98,101,114]⟩],false,false,10⟩) hp.d
 obtain⟨a5,rfl,h5⟩:=clause_at0 (x:=⟨⟨str [100,46,114],[⟨1,0,vx,[],31⟩],29⟩,[⟨1,⟨str [101],[⟨1,0,vx,[],39⟩],37⟩,str [],ex0,ex0,37⟩],29⟩) hp.l
 exact⟨hb,A1,c1,a2,c2,a5,c5,he,h2,h5⟩
theorem isflat_any (w:World) (A1 A2 A5:Option Addr) (n1 n2 n5 c1 c2 c5:Nat):Calls Try.prog 28 #[.agg #[.slice A1 n1 c1,.slice A2 n2 c2,.slice none 0 0,.slice none 0 0,.slice A5 n5 c5]] w fun e w'=>e=.returned (.bool true)∧Below w.heap.size w w':=by
 go_enter Try.func28,Try.ntmps28
 go_wp2
 go_ret
 exact⟨rfl,below1 _ _⟩
theorem alive_any (w:World):Calls Try.prog 10 #[] w fun e w'=>e=.returned (.bool true)∧Below w.heap.size w w':=by
 have HP:=Lib.hid (fun W=>(parse_txt W).mono (fun _ _ h=>parse_view h))
 simp only[txtB] at HP
 have e1:((⟨#[100,46,114]⟩:ByteArray).toList==(⟨#[100,46,114]⟩:ByteArray).toList)=true:=by simp
 have HF:=Lib.hid (fun W vT vD vC vI vL h=>(flat_calls W vT vD vC vI vL want h small_want _ flat_want).mono (fun _ _ h=>alive_view h))
 go_enter Try.func10,Try.ntmps10
 go_wp2_with (first
  | (go_at_call 7;(with_reducible refine (HP.out _).mono ?_);rintro e w1 ⟨A1,c1,A2,c2,A3,c3,A4,c4,A5,c5,rfl,hp,hb⟩;have HPW:=Lib.hid hp;have HB1:=Lib.hid hb;clear hp hb)
  | (go_at_call 8;(with_reducible refine (HF.out _ _ _ _ _ _ (HPW.out.below (below2 _ _ _))).mono ?_);rintro e w2 ⟨hb,B1,d1,a2,d2,a5,d5,rfl,hn1,hn2⟩;have HB2:=Lib.hid (HB1.out.trans ((below_in (below2 _ _ _) hb).mono HB1.out.size));have HF2:=Lib.hid ((blk_new1 w1 (.cells #[.slice A1 want.types.length c1,.slice A2 want.decls.length c2,.slice A3 want.comps.length c3,.slice A4 want.inits.length c4,.slice A5 want.clauses.length c5] 28) 31 #[.int .i64 0,.int .i64 0]).below hb (blk_new1 w1 (.cells #[.slice A1 want.types.length c1,.slice A2 want.decls.length c2,.slice A3 want.comps.length c3,.slice A4 want.inits.length c4,.slice A5 want.clauses.length c5] 28) 31 #[.int .i64 0,.int .i64 0]).lt);have hla2:=cell_in hn1;have hla5:=cell_in hn2;have g0:=HF2.out.cell 0;have g1:=HF2.out.cell 1;have lx3:=HF2.out.lt;have lx4:w1.heap.size<w2.heap.size:=Nat.lt_of_succ_lt lx3;simp only[List.getElem?_toArray,List.getElem?_cons_zero,List.getElem?_cons_succ] at g0 g1;clear hb)
  | (go_at_call 28;(with_reducible refine (isflat_any _ _ _ _ _ _ _ _ _ _).mono ?_);rintro e w3 ⟨rfl,hb⟩;have HB3:=Lib.hid hb;clear hb))
 go_ret
 exact⟨rfl,HB2.out.trans ((below_in (below2 _ _ _) HB3.out).mono HB2.out.size)⟩
end Go.Proofs.Ytddmceldglelkaa.CmpLaw
namespace Go.Proofs.Ytddmceldglelkaa.CmpErr
open Go Go.RowKit RefPure CmpPure
theorem allS_err {α:Type} (f:α→Except (Int×Int) α) (hf:∀ x z,f x=.error z→z.1≠0):∀ (l:List α) z,allS f l=.error z→z.1≠0:=by
 intro l
 induction l with
 | nil=>intro z h;cases h
 | cons a l ih=>
   intro z h
   rw[allS] at h
   cases e:f a with
   | error y=>rw[e] at h;injection h with h;exact h▸hf a y e
   | ok b=>
     rw[e] at h
     simp only at h
     cases e2:allS f l with
     | error y=>rw[e2] at h;injection h with h;exact h▸ih y e2
     | ok m=>rw[e2] at h;cases h
theorem declS_err (pre:ByteArray) (own:List ByteArray) (d:DeclT) (z:Int×Int) (h:declS pre own d=.error z):z.1≠0:=by
 unfold declS at h
 split at h
 · injection h with h;rw[← h];simp
 · cases h
theorem atomS_err (pre:ByteArray) (own:List ByteArray) (d:AtomT) (z:Int×Int) (h:atomS pre own d=.error z):z.1≠0:=by
 unfold atomS at h
 split at h
 · injection h with h;rw[← h];simp
 · cases h
theorem litS_err (pre:ByteArray) (own:List ByteArray) (d:LitT) (z:Int×Int) (h:litS pre own d=.error z):z.1≠0:=by
 unfold litS at h
 split at h
 · cases e:atomS pre own d.atom with
   | error y=>rw[e] at h;injection h with h;exact h▸atomS_err _ _ _ _ e
   | ok a=>rw[e] at h;cases h
 · cases h
theorem clauseS_err (pre:ByteArray) (own:List ByteArray) (d:ClauseT) (z:Int×Int) (h:clauseS pre own d=.error z):z.1≠0:=by
 unfold clauseS at h
 cases e:atomS pre own d.head with
 | error y=>rw[e] at h;injection h with h;exact h▸atomS_err _ _ _ _ e
 | ok a=>
   rw[e] at h
   simp only at h
   cases e2:allS (litS pre own) d.body with
   | error y=>rw[e2] at h;injection h with h;exact h▸allS_err _ (litS_err pre own) _ _ e2
   | ok b=>rw[e2] at h;cases h
theorem twice_err:∀ (l:List CompT) (met:List ByteArray) z,twice l met=some z→z.1≠0:=by
 intro l
 induction l with
 | nil=>intro met z h;cases h
 | cons c l ih=>
   intro met z h
   rw[twice] at h
   split at h
   · injection h with h;rw[← h];simp
   · exact ih _ _ h
theorem inner_err:∀ (l:List CompT) z,inner l=some z→z.1≠0:=by
 intro l
 induction l with
 | nil=>intro z h;cases h
 | cons c l ih=>
   intro z h
   rw[inner] at h
   split at h
   · injection h with h;rw[← h];simp
   · split at h
     · injection h with h;rw[← h];simp
     · exact ih _ h
theorem initsS_err (whole:ByteArray→Option (Int×ProgT)) (inst:ProgT→ByteArray→Int→List ByteArray→Out→Option (Except (Int×Int) Out)) (hi:∀ b p a w o z,inst b p a w o=some (.error z)→z.1≠0) (pre:ByteArray) (way:List ByteArray):∀ (l:List InitT) (met:List ByteArray) (o:Out) z,initsS whole inst pre way l met o=some (.error z)→z.1≠0:=by
 intro l
 induction l with
 | nil=>intro met o z h;injection h with h;cases h
 | cons x l ih=>
   intro met o z h
   unfold initsS at h
   split at h
   · injection h with h;injection h with h;rw[← h];simp
   · cases e:whole x.comp with
     | none=>rw[e] at h;cases h
     | some r=>
       obtain⟨y,b⟩:=r
       rw[e] at h
       simp only at h
       split at h
       · next hy=>injection h with h;injection h with h;rw[← h];exact hy
       · split at h
         · injection h with h;injection h with h;rw[← h];simp
         · cases e2:inst b (dot pre x.name) x.at_ (way++[x.comp]) o with
           | none=>rw[e2] at h;cases h
           | some r=>
             rw[e2] at h
             cases r with
             | error y=>injection h with h;injection h with h;exact h▸hi _ _ _ _ _ _ e2
             | ok o1=>exact ih _ _ _ h
theorem instS_err (whole:ByteArray→Option (Int×ProgT)):∀ (k:Nat) (b:ProgT) (p:ByteArray) (a:Int) (w:List ByteArray) (o:Out) z,instS whole k b p a w o=some (.error z)→z.1≠0:=by
 intro k
 induction k with
 | zero=>intro b p a w o z h;cases h
 | succ k ih=>
   intro b p a w o z h
   unfold instS at h
   split at h
   · injection h with h;injection h with h;rw[← h];simp
   · cases e:allS (declS p (ownS b)) b.decls with
     | error y=>rw[e] at h;injection h with h;injection h with h;exact h▸allS_err _ (declS_err _ _) _ _ e
     | ok ds=>
       rw[e] at h
       simp only at h
       cases e2:allS (clauseS p (ownS b)) b.clauses with
       | error y=>rw[e2] at h;injection h with h;injection h with h;exact h▸allS_err _ (clauseS_err _ _) _ _ e2
       | ok ls=>
         rw[e2] at h
         simp only at h
         split at h
         · injection h with h;injection h with h;rw[← h];simp
         · exact initsS_err _ _ (fun b p a w o z=>ih b p a w o z) _ _ _ _ _ _ h
theorem flat_err (p:ProgT) (z:Int×Int) (h:flatS p=some (.error z)):z.1≠0:=by
 unfold flatS at h
 cases e:rulesS p.comps with
 | some y=>
   rw[e] at h
   injection h with h
   injection h with h
   subst h
   unfold rulesS at e
   cases e2:twice p.comps [] with
   | some y=>rw[e2] at e;injection e with e;exact e▸twice_err _ _ _ e2
   | none=>rw[e2] at e;exact inner_err _ _ e
 | none=>
   rw[e] at h
   obtain⟨r,h1,h2⟩:=Option.map_eq_some_iff.1 h
   cases r with
   | error y=>injection h2 with h2;subst h2;exact initsS_err _ _ (fun b p a w o z=>instS_err _ _ b p a w o z) _ _ _ _ _ _ h1
   | ok o=>cases h2
end Go.Proofs.Ytddmceldglelkaa.CmpErr
namespace Go.Proofs.Ytddmceldglelkaa.CmpApart
open Go Go.RowKit RefPure CmpPure
def Whole1 (n:ByteArray):Prop:=wordS n=n
theorem wordL_id:∀ l:List UInt8,(∀ b∈l,b≠46)→wordL l=l:=by
 intro l
 induction l with
 | nil=>intro _;rfl
 | cons b l ih=>intro h;rw[wordL,if_neg (h b (List.mem_cons_self ..)),ih (fun c hc=>h c (List.mem_cons_of_mem _ hc))]
theorem wordS_id (n:ByteArray) (h:∀ b∈n.data.toList,b≠46):wordS n=n:=by
 unfold wordS str
 rw[wordL_id _ h]
theorem basesS_in (D:DeclT→Prop) (f:ByteArray→Nat→Option (Nat×Int×ProgT)) (hf:∀ b n m q,f b n=some (m,0,q)→∀ d∈q.decls,D d):∀ (l:List ByteArray) (n:Nat) (out:ProgT) (m:Nat) (q:ProgT),(∀ d∈out.decls,D d)→basesS f l n out=some (m,0,q)→∀ d∈q.decls,D d:=by
 intro l
 induction l with
 | nil=>intro n out m q ho h;injection h with h;simp only[Prod.mk.injEq] at h;obtain⟨_,_,rfl⟩:=h;exact ho
 | cons b l ih=>
   intro n out m q ho h
   unfold basesS at h
   cases e:f b n with
   | none=>rw[e] at h;cases h
   | some r=>
     obtain⟨m',z,q'⟩:=r
     rw[e] at h
     simp only at h
     split at h
     · injection h with h;simp only[Prod.mk.injEq] at h;omega
     · next hz=>
       have hz0:z=0:=Decidable.not_not.1 hz
       subst hz0
       split at h
       · injection h with h;simp only[Prod.mk.injEq] at h;omega
       · refine ih _ _ _ _ (fun d hd=>?_) h
         rcases List.mem_append.1 hd with hd|hd
         · exact ho d hd
         · exact hf _ _ _ _ e d hd
theorem wholeS_in (cs:List CompT) (D:DeclT→Prop) (hD:∀ c∈cs,∀ d∈c.body.decls,D d):∀ (k:Nat) (on:List ByteArray) (nm:ByteArray) (n m:Nat) (q:ProgT),wholeS cs k on nm n=some (m,0,q)→∀ d∈q.decls,D d:=by
 intro k
 induction k with
 | zero=>intro on nm n m q h;cases h
 | succ k ih=>
   intro on nm n m q h
   unfold wholeS at h
   cases e:findC cs nm with
   | none=>rw[e] at h;simp at h
   | some c=>
     rw[e] at h
     simp only at h
     split at h
     · simp at h
     · split at h
       · simp at h
       · cases eb:basesS (wholeS cs k (nm :: on)) c.bases (n+1) prog0 with
         | none=>rw[eb] at h;cases h
         | some r=>
           obtain⟨m',z,q'⟩:=r
           rw[eb] at h
           simp only at h
           split at h
           · injection h with h;simp only[Prod.mk.injEq] at h;omega
           · next hz=>
             have hz0:z=0:=Decidable.not_not.1 hz
             subst hz0
             split at h
             · simp at h
             · injection h with h
               simp only[Prod.mk.injEq] at h
               obtain⟨_,_,rfl⟩:=h
               intro d hd
               rcases List.mem_append.1 hd with hd|hd
               · exact basesS_in D _ (fun b n m q=>ih _ b n m q) _ _ _ _ _ (fun d hd=>absurd hd List.not_mem_nil) eb d hd
               · exact hD c (findC_mem e).1 d hd
theorem wholeOf_in (cs:List CompT) (D:DeclT→Prop) (hD:∀ c∈cs,∀ d∈c.body.decls,D d) (nm:ByteArray) (q:ProgT) (h:wholeOf cs nm=some (0,q)):∀ d∈q.decls,D d:=by
 unfold wholeOf at h
 obtain⟨⟨m,e,q'⟩,h1,h2⟩:=Option.map_eq_some_iff.1 h
 simp only[Prod.mk.injEq] at h2
 obtain⟨rfl,rfl⟩:=h2
 exact wholeS_in cs D hD _ _ _ _ _ _ h1
theorem allS_mem {α:Type} (f:α→Except (Int×Int) α):∀ (l m:List α),allS f l=.ok m→∀ y∈m,∃ x∈l,f x=.ok y:=by
 intro l
 induction l with
 | nil=>intro m h y hy;injection h with h;subst h;exact absurd hy List.not_mem_nil
 | cons a l ih=>
   intro m h y hy
   rw[allS] at h
   cases e:f a with
   | error z=>rw[e] at h;cases h
   | ok b=>
     rw[e] at h
     simp only at h
     cases e2:allS f l with
     | error z=>rw[e2] at h;cases h
     | ok n=>
       rw[e2] at h
       injection h with h
       subst h
       rcases List.mem_cons.1 hy with rfl|hy
       · exact⟨a,List.mem_cons_self ..,e⟩
       · obtain⟨x,hx,hf⟩:=ih n e2 y hy
         exact⟨x,List.mem_cons_of_mem _ hx,hf⟩
theorem declS_name {pre:ByteArray} {b:ProgT} {ds:List DeclT} (hD:∀ d∈b.decls,Whole1 d.name) (h:allS (declS pre (ownS b)) b.decls=.ok ds):∀ d∈ds,∃ t,d.name=pre++t:=by
 intro d hd
 obtain⟨x,hx,hf⟩:=allS_mem _ _ _ h d hd
 unfold declS nameS at hf
 have hw:hasS (ownS b) (wordS x.name)=true:=by
  rw[hasS_iff,hD x hx]
  exact List.mem_append_right _ (List.mem_reverse.2 (List.mem_map.2 ⟨x,hx,rfl⟩))
 rw[if_pos hw] at hf
 by_cases hs:64<pre.size+x.name.size
 · rw[if_pos hs] at hf;cases hf
 · rw[if_neg hs] at hf
   injection hf with hf
   exact⟨x.name,by rw[← hf]⟩
def Behind (l:List InitT) (pre:ByteArray) (o o':Out):Prop:=∃ ex,o'.decls=o.decls++ex∧∀ d∈ex,∃ x∈l,∃ t,d.name=dot pre x.name++t
def Under (pre:ByteArray) (o o':Out):Prop:=∃ ex,o'.decls=o.decls++ex∧∀ d∈ex,∃ t,d.name=pre++t
theorem bapp_assoc (a b c:ByteArray):a++b++c=a++(b++c):=ByteArray.append_assoc
theorem initsS_behind (cs:List CompT) (hD:∀ c∈cs,∀ d∈c.body.decls,Whole1 d.name) (inst:ProgT→ByteArray→Int→List ByteArray→Out→Option (Except (Int×Int) Out)) (pre:ByteArray) (way:List ByteArray)
    (hi:∀ b p a wy o o',(∀ d∈b.decls,Whole1 d.name)→inst b p a wy o=some (.ok o')→Under p o o'):∀ (l:List InitT) (met:List ByteArray) (o o':Out),initsS (wholeOf cs) inst pre way l met o=some (.ok o')→Behind l pre o o':=by
 intro l
 induction l with
 | nil=>intro met o o' h;injection h with h;injection h with h;subst h;exact⟨[],by simp,fun d hd=>absurd hd List.not_mem_nil⟩
 | cons x l ih=>
   intro met o o' h
   unfold initsS at h
   split at h
   · injection h with h;cases h
   · cases e:wholeOf cs x.comp with
     | none=>rw[e] at h;cases h
     | some r=>
       obtain⟨z,b⟩:=r
       rw[e] at h
       simp only at h
       split at h
       · injection h with h;cases h
       · next hz=>
         have hz0:z=0:=Decidable.not_not.1 hz
         subst hz0
         split at h
         · injection h with h;cases h
         · cases e2:inst b (dot pre x.name) x.at_ (way++[x.comp]) o with
           | none=>rw[e2] at h;cases h
           | some r=>
             rw[e2] at h
             cases r with
             | error z=>injection h with h;cases h
             | ok o1=>
               obtain⟨ex1,h1,h2⟩:=hi _ _ _ _ _ _ (wholeOf_in cs _ hD _ _ e) e2
               obtain⟨ex2,h3,h4⟩:=ih _ _ _ h
               refine⟨ex1++ex2,by rw[h3,h1,List.append_assoc],fun d hd=>?_⟩
               rcases List.mem_append.1 hd with hd|hd
               · obtain⟨t,ht⟩:=h2 d hd
                 exact⟨x,List.mem_cons_self ..,t,ht⟩
               · obtain⟨y,hy,t,ht⟩:=h4 d hd
                 exact⟨y,List.mem_cons_of_mem _ hy,t,ht⟩
theorem instS_under (cs:List CompT) (hD:∀ c∈cs,∀ d∈c.body.decls,Whole1 d.name):∀ (k:Nat) (b:ProgT) (pre:ByteArray) (at_:Int) (way:List ByteArray) (o o':Out),(∀ d∈b.decls,Whole1 d.name)→instS (wholeOf cs) k b pre at_ way o=some (.ok o')→Under pre o o':=by
 intro k
 induction k with
 | zero=>intro b pre at_ way o o' hb h;cases h
 | succ k ih=>
   intro b pre at_ way o o' hb h
   unfold instS at h
   split at h
   · injection h with h;cases h
   · cases e:allS (declS pre (ownS b)) b.decls with
     | error z=>rw[e] at h;injection h with h;cases h
     | ok ds=>
       rw[e] at h
       simp only at h
       cases e2:allS (clauseS pre (ownS b)) b.clauses with
       | error z=>rw[e2] at h;injection h with h;cases h
       | ok ls=>
         rw[e2] at h
         simp only at h
         split at h
         · injection h with h;cases h
         · obtain⟨ex,h1,h2⟩:=initsS_behind cs hD _ pre way (fun b p a wy o o' hb h=>ih b p a wy o o' hb h) _ _ _ _ h
           refine⟨ds++ex,by rw[h1];simp,fun d hd=>?_⟩
           rcases List.mem_append.1 hd with hd|hd
           · exact declS_name hb e d hd
           · obtain⟨x,_,t,ht⟩:=h2 d hd
             exact⟨x.name++(str [46]++t),by rw[ht,dot,bapp_assoc,bapp_assoc]⟩
theorem flatS_behind (p q:ProgT) (hD:∀ c∈p.comps,∀ d∈c.body.decls,Whole1 d.name) (h:flatS p=some (.ok q)):∃ ex,q.decls=p.decls++ex∧∀ d∈ex,∃ x∈p.inits,∃ t,d.name=x.name++(str [46]++t):=by
 unfold flatS at h
 cases hr:rulesS p.comps with
 | some z=>rw[hr] at h;injection h with h;cases h
 | none=>
   rw[hr] at h
   obtain⟨r,h1,h2⟩:=Option.map_eq_some_iff.1 h
   cases r with
   | error z=>cases h2
   | ok o=>
     injection h2 with h2
     subst h2
     obtain⟨ex,h3,h4⟩:=initsS_behind p.comps hD _ _ _ (fun b p' a wy o o' hb h=>instS_under p.comps hD _ b p' a wy o o' hb h) _ _ _ _ h1
     refine⟨ex,h3,fun d hd=>?_⟩
     obtain⟨x,hx,t,ht⟩:=h4 d hd
     refine⟨x,hx,t,?_⟩
     rw[ht,dot,show str []++x.name=x.name from ByteArray.empty_append,bapp_assoc]
end Go.Proofs.Ytddmceldglelkaa.CmpApart
namespace Go.Proofs.Ytddmceldglelkaa.CmpApartW
open Go Go.RowKit CmpLaw CmpErr CmpApart CmpInits CmpFind CmpFlat RefSameR RefPure RefKinds RefMem RefSameP CmpPure CmpMem CmpKinds RefExpr RefFields RefCells YtddmceldglelkaaW.PrintWords
theorem apart_err (s:ByteArray) (W:World) (p:ProgT) (why fat:Int) (HP:Hid (∀ W,Calls Try.prog 7 #[.string s] W (ParseView W p why fat))) (z:Int×Int) (hz:z.1≠0) (HF:Hid (∀ V vT vD vC vI vL,PW V vT vD vC vI vL p→Calls Try.prog 8 #[.agg #[vT,vD,vC,vI,vL]] V (FlatView V (.error z)))):Calls Try.prog 5 #[.string s] W fun e w'=>e=.returned (.bool true)∧Below W.heap.size W w':=by
 have hzb:(z.1==0)=false:=beq_eq_false_iff_ne.mpr hz
 clear hz
 go_enter Try.func5,Try.ntmps5
 go_wp2_with (first
  | (go_at_call 7;(with_reducible refine (HP.out _).mono ?_);rintro e w1 ⟨A1,c1,A2,c2,A3,c3,A4,c4,A5,c5,rfl,hp,hb⟩;have HPW:=Lib.hid hp;have HB1:=Lib.hid hb;clear hp hb)
  | (go_at_call 8;(with_reducible refine (HF.out _ _ _ _ _ _ (HPW.out.below (below2 _ _ _))).mono ?_);rintro e w2 ⟨hb,rfl⟩;have hx:=box_1 hb;have x0:=five_cells hx;have lx:=hx.lt;have HB2:=Lib.hid (HB1.out.trans ((below_in (below2 _ _ _) hb).mono HB1.out.size));clear hb hx)
  | (go_at_call 10;(with_reducible refine (alive_any _).mono ?_);rintro e w4 ⟨rfl,hb⟩;have HB4:=Lib.hid (HB2.out.trans ((below_in (below2 _ _ _) hb).mono HB2.out.size));clear hb))
 go_ret
 exact⟨rfl,HB4.out⟩
def LL (p:ProgT) (i:Nat):List DeclT:=p.decls++(p.comps.take i).flatMap (fun c=>c.body.decls)
theorem LL_succ {p:ProgT} {i:Nat} {x:CompT} (hx:p.comps[i]?=some x):LL p (i+1)=LL p i++x.body.decls:=by
 obtain⟨hi,rfl⟩:=List.getElem?_eq_some_iff.1 hx
 unfold LL
 rw[List.take_succ_eq_append_getElem hi,List.flatMap_append,List.append_assoc]
 simp
theorem LL_len {p:ProgT} (hs:CmpSize.Small p):∀ i,(LL p i).length≤(i+1)*1048576:=by
 intro i
 have h0:p.decls.length≤1048576:=by have:=hs.body.many;unfold manyP at this;omega
 induction i with
 | zero=>
     have e:LL p 0=p.decls:=by unfold LL;simp
     rw[e,Nat.zero_add,Nat.one_mul]
     exact h0
 | succ i ih=>
   cases hx:p.comps[i]? with
   | none=>
     have:p.comps.length≤i:=List.getElem?_eq_none_iff.1 hx
     unfold LL at ih ⊢
     rw[List.take_of_length_le (by omega)] at ih ⊢
     exact Nat.le_trans ih (Nat.mul_le_mul_right _ (Nat.le_succ _))
   | some x=>
     rw[LL_succ hx,List.length_append]
     have:=(hs.comps x (List.mem_of_getElem? hx)).body.many
     unfold manyP at this
     omega
theorem decode_skips (s:ByteArray) (pos:Nat):∀ k,1≤k→k<(Utf8.decode s pos).2→(s.get! (pos+k)).toNat / 64=2:=by
 intro k h1 h2
 simp only[Utf8.decode] at h2
 split at h2
 · omega
 · split at h2
   · next hc=>
     simp only[Bool.and_eq_true,decide_eq_true_eq,beq_iff_eq] at hc
     split at h2
     · obtain rfl:k=1:=by simp only at h2;omega
       exact hc.2.2
     · simp only at h2;omega
   · split at h2
     · next hc=>
       simp only[Bool.and_eq_true,decide_eq_true_eq,beq_iff_eq] at hc
       split at h2
       · simp only at h2
         obtain rfl|rfl:k=1∨k=2:=by omega
         · exact hc.1.2.2
         · exact hc.2.2
       · simp only at h2;omega
     · split at h2
       · next hc=>
         simp only[Bool.and_eq_true,decide_eq_true_eq,beq_iff_eq] at hc
         split at h2
         · simp only at h2
           obtain rfl|rfl|rfl:k=1∨k=2∨k=3:=by omega
           · exact hc.1.1.2.2
           · exact hc.1.2.2
           · exact hc.2.2
         · simp only at h2;omega
       · simp only at h2;omega
theorem LL_mem {p:ProgT} {c:CompT} {d:DeclT} (hc:c∈p.comps) (hd:d∈c.body.decls):d∈LL p p.comps.length:=by
 unfold LL
 rw[List.take_length]
 exact List.mem_append_right _ (List.mem_flatMap.2 ⟨c,hc,hd⟩)
def Under1 (d x:ByteArray):Prop:=∃ t,d=x++(str [46]++t)
theorem under_size {d x:ByteArray} (h:Under1 d x):x.size<d.size:=by
 obtain⟨t,rfl⟩:=h
 rw[ByteArray.size_append,ByteArray.size_append]
 have:(str [46]).size=1:=rfl
 omega
theorem under_ext {d x:ByteArray} (h:Under1 d x):(d.extract 0 (x.size+1)).toList=(x++str [46]).toList:=by
 obtain⟨t,rfl⟩:=h
 rw[Lib.toList_data,Lib.toList_data,Lib.extract_data,← ByteArray.append_assoc,List.drop_zero]
 have e:(x++str [46]++t).data.toList=(x++str [46]).data.toList++t.data.toList:=by simp
 rw[e,List.take_append_of_le_length (by rw[← Lib.size_eq,ByteArray.size_append];have:(str [46]).size=1:=rfl;omega)]
 exact List.take_of_length_le (by rw[← Lib.size_eq,ByteArray.size_append];have:(str [46]).size=1:=rfl;omega)
theorem take_ex {α:Type} {P:α→Prop} {Q:Prop} {l:List α} {j:Nat} {d:α} (h:(∃ x∈l.take j,P x)→Q) (hd:l[j]?=some d) (hP:¬P d):(∃ x∈l.take (j+1),P x)→Q:=by
 obtain⟨hj,rfl⟩:=List.getElem?_eq_some_iff.1 hd
 rw[List.take_succ_eq_append_getElem hj]
 rintro ⟨x,hx,hp⟩
 rcases List.mem_append.1 hx with hx|hx
 · exact h ⟨x,hx,hp⟩
 · rw[List.mem_singleton.1 hx] at hp;exact absurd hp hP
theorem take_all {α:Type} {P:α→Prop} {l:List α} {j:Nat} {d:α} (h:∀ x∈l.take j,P x) (hd:l[j]?=some d) (hP:P d):∀ x∈l.take (j+1),P x:=by
 obtain⟨hj,rfl⟩:=List.getElem?_eq_some_iff.1 hd
 rw[List.take_succ_eq_append_getElem hj]
 intro x hx
 rcases List.mem_append.1 hx with hx|hx
 · exact h x hx
 · rw[List.mem_singleton.1 hx];exact hP
def NoDot (s:ByteArray) (pos:Nat):Prop:=∀ j,j<pos→s.get! j≠46
theorem NoDot.step {s:ByteArray} {pos:Nat} (h:NoDot s pos) (hp:s.get! pos≠46):NoDot s (pos+(Utf8.decode s pos).2):=by
 intro j hj
 rcases Nat.lt_trichotomy j pos with hl|rfl|hl
 · exact h j hl
 · exact hp
 · intro e
   have:=decode_skips s pos (j - pos) (by omega) (by omega)
   rw[show pos+(j - pos)=j by omega,e] at this
   exact absurd this (by decide)
theorem NoDot.all {s:ByteArray} {pos:Nat} (h:NoDot s pos) (hp:¬pos<s.size):∀ b∈s.data.toList,b≠46:=by
 intro b hb e
 obtain⟨j,hj,hjb⟩:=List.mem_iff_getElem.1 hb
 have hz:j<s.size:=by rw[Lib.size_eq];exact hj
 refine h j (by omega) ?_
 have:=get_at s j hz
 rw[Nat.add_zero] at this
 rw[this,← e,← hjb]
 simp
 rfl
theorem apart_ok (s:ByteArray) (W:World) (p q:ProgT) (why fat:Int) (HSM:Hid (CmpSize.Small p)) (HFQ:Hid (flatS p=some (.ok q))) (HP:Hid (∀ W,Calls Try.prog 7 #[.string s] W (ParseView W p why fat))) (HF:Hid (∀ V vT vD vC vI vL,PW V vT vD vC vI vL p→Calls Try.prog 8 #[.agg #[vT,vD,vC,vI,vL]] V (FView V q))):Calls Try.prog 5 #[.string s] W fun e w'=>e=.returned (.bool true)∧Below W.heap.size W w':=by
 go_enter Try.func5,Try.ntmps5
 go_wp2_with (first
  | (go_at_call 7;(with_reducible refine (HP.out _).mono ?_);rintro e w1 ⟨A1,c1,A2,c2,A3,c3,A4,c4,A5,c5,rfl,hp,hb⟩;have HPW:=Lib.hid hp;have HB1:=Lib.hid hb;clear hp hb)
  | (go_at_call 8;(with_reducible refine (HF.out _ _ _ _ _ _ (HPW.out.below (below2 _ _ _))).mono ?_);rintro e w2 ⟨hb,B1,d1,B2,d2,B5,d5,rfl,hq⟩;have hx:=box_1 hb;have x0:=five_cells hx;have lx:=hx.lt;have HB2:=Lib.hid (HB1.out.trans ((below_in (below2 _ _ _) hb).mono HB1.out.size));have HP2:=Lib.hid (HPW.out.below (below_in (below2 w1 _ _) hb));have HX2:=Lib.hid hx;have HQ2:=Lib.hid hq;clear hb hx hq)
  | (go_at_call 10;(with_reducible refine (alive_any _).mono ?_);rintro e w4 ⟨rfl,hb⟩;have HB4:=Lib.hid (HB2.out.trans ((below_in (below2 _ _ _) hb).mono HB2.out.size));have hqb:=box_1 hb;have hpb:=Blk.below ((HX2.out.alloc _).alloc _) hb ((HX2.out.alloc _).alloc _).lt;have HP4:=Lib.hid (HP2.out.below (below_in (below2 w2 _ _) hb));have HQ4:=Lib.hid (HQ2.out.below (below_in (below2 w2 _ _) hb));clear HP2 HQ2 HX2 HPW x0 lx;have p0:=five_cells hpb;have lp:=hpb.lt;have q0:=five_cells hqb;have lq:=hqb.lt;have HPB:=Lib.hid hpb;have HQB:=Lib.hid hqb;clear hb hqb hpb))
 have HS1:=Lib.hid (Below.refl w4.heap.size w4)
 obtain⟨n,hn⟩:∃ n,p.comps.length=n:=⟨_,rfl⟩
 have HN:=Lib.hid hn
 have HSZ:Hid (n≤1048576):=Lib.hid (by have:=HSM.out.body.many;unfold manyP at this;omega)
 have HVC:Hid (Vw (Kd.fixed kComp w4) w4 (.slice A3 n c3) p.comps):=Lib.hid (by rw[← hn];exact vw_fixed HP4.out.c)
 have HVD:Hid (Vw (Kd.fixed kDecl w4) w4 (.slice A2 p.decls.length c2) (LL p 0)):=Lib.hid (by have:=vw_fixed HP4.out.d;unfold LL;simpa using this)
 simp only[hn] at p0
 rw[hn]
 clear hn
 go_loopg [7,41] (n+1) (fun gk v7 v41 wr=>∃ i:Nat,v41=.int .i64 (i:Int)∧Hid (i≤n∧n - i<gk∧Vw (Kd.fixed kDecl w4) wr v7 (LL p i)∧Below w4.heap.size w4 wr))
 case atStart=>exact⟨0,rfl,Lib.hid ⟨Nat.zero_le _,by omega,HVD.out,HS1.out⟩⟩
 case round=>
  obtain⟨i,rfl,HI⟩:=hrel
  obtain⟨A7,c7,rfl⟩:=HI.out.2.2.1.slice
  obtain⟨m,hm⟩:∃ m,(LL p i).length=m:=⟨_,rfl⟩
  have HML:=Lib.hid hm
  have HMB:Hid (m≤(i+1)*1048576):=Lib.hid (hm▸LL_len HSM.out i)
  have HV7:=HI.out.2.2.1
  simp only[hm] at HV7 ⊢
  clear hm
  by_cases hi:i<n
  · have hib:decide (i<n)=true:=decide_eq_true hi
    obtain⟨x,hx⟩:∃ t,p.comps[i]?=some t:=⟨p.comps[i]'(by rw[HN.out];exact hi),by simp⟩
    obtain⟨ad,rfl,vB,yT,yD,yC,yI,yL,hcv,k0,k1,k2,k3,k4,k5,k6,k7⟩:=comp_cells (HVC.out.below HI.out.2.2.2) i x hx
    obtain⟨a1,b1,rfl⟩:=hcv.bases.slice
    obtain⟨a2,b2,a3,b3,a4,b4,a5,b5,a6,b6,rfl,rfl,rfl,rfl,rfl⟩:=hcv.body.values
    have HCV:=Lib.hid hcv
    have HV:=Lib.hid HV7
    have hi0:(0:Int)≤(i:Int):=by omega
    have hi1:(i:Int)<(n:Int):=by omega
    have HXL:=Lib.hid (LL_succ hx)
    have HXM:Hid (x.body.decls.length≤1048576):=Lib.hid (by have:=(HSM.out.comps x (List.mem_of_getElem? hx)).body.many;unfold manyP at this;omega)
    clear hx hcv HV7
    go_wp2
    have HBX:Hid (Blk ((wr.alloc (.cells #[.string x.name,.slice a1 x.bases.length b1,.slice a2 x.body.types.length b2,.slice a3 x.body.decls.length b3,.slice a4 x.body.comps.length b4,.slice a5 x.body.inits.length b5,.slice a6 x.body.clauses.length b6,.int .i64 x.at_] 42)).drew) wr.heap.size 42 #[.string x.name,.slice a1 x.bases.length b1,.slice a2 x.body.types.length b2,.slice a3 x.body.decls.length b3,.slice a4 x.body.comps.length b4,.slice a5 x.body.inits.length b5,.slice a6 x.body.clauses.length b6,.int .i64 x.at_]):=Lib.hid (Blk.new wr _ _)
    have HBW:Hid (Below wr.heap.size wr ((wr.alloc (.cells #[.string x.name,.slice a1 x.bases.length b1,.slice a2 x.body.types.length b2,.slice a3 x.body.decls.length b3,.slice a4 x.body.comps.length b4,.slice a5 x.body.inits.length b5,.slice a6 x.body.clauses.length b6,.int .i64 x.at_] 42)).drew)):=Lib.hid (below1 wr _).drew
    have HSW:Hid (((wr.alloc (.cells #[.string x.name,.slice a1 x.bases.length b1,.slice a2 x.body.types.length b2,.slice a3 x.body.decls.length b3,.slice a4 x.body.comps.length b4,.slice a5 x.body.inits.length b5,.slice a6 x.body.clauses.length b6,.int .i64 x.at_] 42)).drew).heap.size=wr.heap.size+1):=Lib.hid (size1 wr _)
    go_region_law (first
     | (refine Kd.R_append_rows_step (Kd.fixed kDecl w4) (Rr:=fun x cs=>kDecl.K w4 x cs) wr.heap.size (by rfl) (.const (.slice none 0 0)) (.tmp 45) 23 46 (.agg #[.string ⟨#[]⟩,.slice none 0 0,.bool false,.bool false,.int .i64 0]) 56 rfl Try.underlying23 infoDecl rfl (show 0<Kd.sz kDecl by decide) (by decide) (.slice none 0 0) [] (LL p i) A7 m c7 (fun b=>wr.heap.size+1≤b) (fun _=>False) ?a1 ?a2 (Kd.R_nil _ _ _ _ _) ?aV (fun _ _ h=>h) (fun _ h=>h.elim) ?aF (Below.refl _ _) ?aS ?aL ?_
        (try (case a1=>rfl))
        (try (case a2=>rfl))
        (case aV=>obtain⟨_,_,e,_,hc⟩:=HV.out.below HBW.out;injection e with e1 e2 e3;subst e1;rw[e2];exact hc)
        (case aF=>exact fun X hX=>by rw[HSW.out] at hX;exact hX)
        (case aS=>exact HBW.out.size)
        (case aL=>have:=HMB.out;have:=HSZ.out;simp only[List.length_nil];omega)
        intro v1 w5 h1 hbl hgr hat
        obtain⟨p1,z1,hv⟩:=Kd.R_slice h1
        rw[List.nil_append,HML.out] at hv
        subst hv
        rw[List.nil_append] at h1
        have hB:=HBX.out.grown hgr (by simp[Value.ownBlock])
        have qg:=hB.cell 3
        simp only[List.getElem?_toArray,List.getElem?_cons_zero,List.getElem?_cons_succ] at qg
        have HB5:=Lib.hid (HBW.out.grown hgr HBW.out.size (fun k hk=>by simp[Value.ownBlock] at hk))
        have hz5:wr.heap.size+1≤w5.heap.size:=by have:=hgr.size;rw[HSW.out] at this;exact this
        have HZ5:=Lib.hid hz5
        have HR5:=Lib.hid h1
        clear h1 hgr hat hB hbl hz5)
     | (refine Kd.R_append_rows_step (Kd.fixed kDecl w4) (Rr:=fun x cs=>kDecl.K w4 x cs) wr.heap.size (by rfl) (.tmp 46) (.tmp 49) 23 46 (.agg #[.string ⟨#[]⟩,.slice none 0 0,.bool false,.bool false,.int .i64 0]) 56 rfl Try.underlying23 infoDecl rfl (show 0<Kd.sz kDecl by decide) (by decide) (.slice p1 m z1) (LL p i) x.body.decls a3 x.body.decls.length b3 (fun b=>wr.heap.size+1≤b) (fun _=>False) ?a1 ?a2 HR5.out ?aV (fun _ _ h=>h) (fun _ h=>h.elim) ?aF (Below.refl _ _) ?aS ?aL ?_
        (try (case a1=>rfl))
        (try (case a2=>rfl))
        (case aV=>obtain⟨_,_,e,_,hc⟩:=HCV.out.body.d.below (HI.out.2.2.2.trans (HB5.out.mono HI.out.2.2.2.size));injection e with e1 e2 e3;subst e1;exact hc)
        (case aF=>exact fun X hX=>Nat.le_trans HZ5.out hX)
        (case aS=>exact HB5.out.size)
        (case aL=>have:=HMB.out;have:=HSZ.out;have:=HML.out;have:=HXM.out;omega)
        intro v2 w6 h2 hbl2 hgr2 hat2
        have HR6:=Lib.hid h2
        have HB6:=Lib.hid (HB5.out.grown hgr2 HB5.out.size (fun k hk=>Nat.le_trans (Nat.le_succ _) (HR5.out.1 k hk)))
        clear h2 hgr2 hat2 hbl2 HB5 HR5 HZ5))
    all_goals
     go_wp2
     go_roundg (n - i)
     all_goals first
      | (have:=HI.out.2.1;omega)
      | exact⟨i+1,by rw[CmpMem.wrap_up i (by have:=HSZ.out;omega)],Lib.hid ⟨hi,by omega,by rw[HXL.out];exact Vw.of_R HR6.out,HI.out.2.2.2.trans (HB6.out.mono HI.out.2.2.2.size)⟩⟩
  · have hib:decide (i<n)=false:=decide_eq_false hi
    have hni:i=n:=by have:=HI.out.1;omega
    have HE:Hid (LL p i=LL p n):=Lib.hid (by rw[hni])
    have HMM:Hid (m≤2199023255552):=Lib.hid (by have:=HMB.out;have:=HSZ.out;have:=HI.out.1;omega)
    have HV:=Lib.hid HV7
    have HB7:=Lib.hid HI.out.2.2.2
    clear HV7 hni
    go_wp2
    go_loopg [54] (m+1) (fun gk2 v54 wi=>∃ j:Nat,v54=.int .i64 (j:Int)∧Hid (j≤m∧m - j<gk2∧Below wr.heap.size wr wi∧∀ d∈(LL p i).take j,∀ b∈d.name.data.toList,b≠46))
    case atStart=>exact⟨0,rfl,Lib.hid ⟨Nat.zero_le _,by omega,Below.refl _ _,by simp⟩⟩
    case round=>
     clear HI
     obtain⟨j,rfl,HJ⟩:=hrel
     rename World=>W3
     by_cases hj:j<m
     · have hjb:decide (j<m)=true:=decide_eq_true hj
       obtain⟨d,hd⟩:∃ t,(LL p i)[j]?=some t:=⟨(LL p i)[j]'(by rw[HML.out];exact hj),by simp⟩
       obtain⟨ad,rfl,A2',c2',k0,k1,k2,k3,k4⟩:=decl_cells (HV.out.below HJ.out.2.2.1) j d hd
       have hj0:(0:Int)≤(j:Int):=by omega
       have hj1:(j:Int)<(m:Int):=by omega
       have HD:=Lib.hid hd
       have HBJ:=Lib.hid (HB7.out.trans (HJ.out.2.2.1.mono HB7.out.size))
       obtain⟨nm,hnm⟩:∃ nm,d.name=nm:=⟨_,rfl⟩
       have HNM:=Lib.hid hnm
       rw[hnm] at k0
       clear hd hnm
       go_wp2
       go_loopg [12] (nm.size+1) (fun gk3 v12 ww=>∃ pos:Nat,ww=(W3.alloc (.cells #[.string nm,.slice A2' d.cols.length c2',.bool d.input,.bool d.output,.int .i64 d.at_] 46)).iter nm pos∧Hid (NoDot nm pos∧nm.size - pos<gk3))
       case atStart=>exact⟨0,rfl,Lib.hid ⟨fun j hj=>absurd hj (Nat.not_lt_zero _),by omega⟩⟩
       case round=>
        obtain⟨pos,rfl,HN3⟩:=hrel
        have hbx:∀ q,Blk ((W3.alloc (.cells #[.string nm,.slice A2' d.cols.length c2',.bool d.input,.bool d.output,.int .i64 d.at_] 46)).iter nm q) W3.heap.size 46 #[.string nm,.slice A2' d.cols.length c2',.bool d.input,.bool d.output,.int .i64 d.at_]:=fun q=>(Blk.new W3 _ _).alloc _
        by_cases hp:pos<nm.size
        · have hnx:∀ ty,(Instr.next (.pointer (some ⟨W3.heap.size+1,0,none⟩)) true ty).run Try.prog ((W3.alloc (.cells #[.string nm,.slice A2' d.cols.length c2',.bool d.input,.bool d.output,.int .i64 d.at_] 46)).iter nm pos)=.ok (.tuple #[.bool true,.int .i64 pos,.int .i32 (Utf8.decode nm pos).1]) ((W3.alloc (.cells #[.string nm,.slice A2' d.cols.length c2',.bool d.input,.bool d.output,.int .i64 d.at_] 46)).iter nm (pos+(Utf8.decode nm pos).2)):=fun ty=>by
            have h:=run_next_any (P:=Try.prog) (W3.alloc (.cells #[.string nm,.slice A2' d.cols.length c2',.bool d.input,.bool d.output,.int .i64 d.at_] 46)) nm pos ty hp
            rw[size1] at h
            exact h
          have hcx:=(hbx (pos+(Utf8.decode nm pos).2)).cell 0
          have hw1:=Lib.decode_width_pos nm pos hp
          simp only[List.getElem?_toArray,List.getElem?_cons_zero] at hcx
          have hpb:decide (pos<nm.size)=true:=decide_eq_true hp
          have hg:=get_at nm pos hp
          rw[Nat.add_zero] at hg
          have HG:=Lib.hid hg
          by_cases h46:nm.get! pos=46
          · have hbb:((nm[pos]'hp).toNat==46)=true:=by rw[← hg,h46];rfl
            clear hg h46
            go_wp2
            go_ret
            exact⟨rfl,HB4.out.trans ((HBJ.out.trans ((below2 _ _ _).mono HBJ.out.size)).mono HB4.out.size)⟩
          · have hbb:((nm[pos]'hp).toNat==46)=false:=by
              rw[← hg]
              exact beq_eq_false_iff_ne.mpr (fun e=>h46 (UInt8.toNat_inj.mp e))
            have HN4:=Lib.hid (HN3.out.1.step h46)
            clear hg h46
            go_wp2
            go_roundg (nm.size - pos)
            case measure=>exact HN3.out.2
            case rel=>exact⟨_,rfl,Lib.hid ⟨HN4.out,by omega⟩⟩
        · have hnx:∀ ty,(Instr.next (.pointer (some ⟨W3.heap.size+1,0,none⟩)) true ty).run Try.prog ((W3.alloc (.cells #[.string nm,.slice A2' d.cols.length c2',.bool d.input,.bool d.output,.int .i64 d.at_] 46)).iter nm pos)=.ok (.tuple #[.bool false]) ((W3.alloc (.cells #[.string nm,.slice A2' d.cols.length c2',.bool d.input,.bool d.output,.int .i64 d.at_] 46)).iter nm pos):=fun ty=>by
            have h:=run_next_end (P:=Try.prog) (W3.alloc (.cells #[.string nm,.slice A2' d.cols.length c2',.bool d.input,.bool d.output,.int .i64 d.at_] 46)) nm pos ty hp
            rw[size1] at h
            exact h
          have HN5:=Lib.hid (HN3.out.1.all hp)
          go_wp2
          go_roundg (m - j)
          all_goals first
           | (have:=HJ.out.2.1;omega)
           | exact⟨j+1,by rw[CmpMem.wrap_up j (by have:=HMM.out;omega)],Lib.hid ⟨hj,by omega,HJ.out.2.2.1.trans ((below2 _ _ _).mono HJ.out.2.2.1.size),take_all HJ.out.2.2.2 HD.out (by rw[HNM.out];exact HN5.out)⟩⟩
     · have hjb:decide (j<m)=false:=decide_eq_false hj
       have HBJ:=Lib.hid (HB7.out.trans (HJ.out.2.2.1.mono HB7.out.size))
       have HND:Hid (∀ d∈LL p n,∀ b∈d.name.data.toList,b≠46):=Lib.hid (by
        have:=HJ.out.2.2.2
        rw[List.take_of_length_le (by have:=HML.out;omega),HE.out] at this
        exact this)
       clear HJ HV
       have HPV:=Lib.hid (HP4.out.below HBJ.out)
       have HQV:=Lib.hid (HQ4.out.below HBJ.out)
       have hpb3:=HPB.out.below HBJ.out HPB.out.lt
       have p03:=five_cells hpb3
       have lp3:=hpb3.lt
       have hqb3:=HQB.out.below HBJ.out HQB.out.lt
       have q03:=five_cells hqb3
       have lq3:=hqb3.lt
       have lq4:w2.heap.size<W3.heap.size:=Nat.lt_of_le_of_lt (Nat.le_refl _) lq3
       have HBEH:=Lib.hid (flatS_behind p q (fun c hc d hd=>wordS_id d.name (HND.out d (by rw[← HN.out];exact LL_mem hc hd))) HFQ.out)
       obtain⟨nq,hnq⟩:∃ nq,q.decls.length=nq:=⟨_,rfl⟩
       obtain⟨np,hnp⟩:∃ np,p.decls.length=np:=⟨_,rfl⟩
       obtain⟨ni,hni⟩:∃ ni,p.inits.length=ni:=⟨_,rfl⟩
       have HNQ:=Lib.hid hnq
       have HNP:=Lib.hid hnp
       have HNI:=Lib.hid hni
       have HVQ:Hid (Vw (Kd.fixed kDecl W3) W3 (.slice B2 nq d2) q.decls):=Lib.hid (by rw[← hnq];exact vw_fixed HQV.out.d)
       have HVP:Hid (Vw (Kd.fixed kDecl W3) W3 (.slice A2 np c2) p.decls):=Lib.hid (by rw[← hnp];exact vw_fixed HPV.out.d)
       have HVI:Hid (Vw (Kd.fixed kInit W3) W3 (.slice A4 ni c4) p.inits):=Lib.hid (by rw[← hni];exact vw_fixed HPV.out.i)
       have HQM:Hid (nq≤9223372036854775807):=Lib.hid (by rw[← hnq];exact HQV.out.d.max)
       have HIM:Hid (ni≤1048576):=Lib.hid (by have:=HSM.out.body.many;unfold manyP at this;omega)
       have HPB3:=Lib.hid hpb3
       simp only[hnq] at q03 HQB
       simp only[hnp,hni] at p03 HPB3
       rw[hnq,hnp]
       clear hpb3 hqb3 HND hnq hnp hni p0 q0 HQB
       go_wp2
       go_loopg [73] (nq+1) (fun gk4 v73 ww=>∃ k:Nat,v73=.int .i64 (k:Int)∧Hid (k≤nq∧nq - k<gk4∧Below W3.heap.size W3 ww))
       case atStart=>exact⟨0,rfl,Lib.hid ⟨Nat.zero_le _,by omega,Below.refl _ _⟩⟩
       case round=>
        obtain⟨k,rfl,HK⟩:=hrel
        rename World=>W5
        have hpb5:=HPB3.out.below HK.out.2.2 HPB3.out.lt
        have p05:=five_cells hpb5
        have lp5:=hpb5.lt
        have HPB5:=Lib.hid hpb5
        have HBK:=Lib.hid (HBJ.out.trans (HK.out.2.2.mono HBJ.out.size))
        clear hpb5 p03 q03 lp3 lq3 lq4
        by_cases hk:k<nq
        · have hkb:decide (k<nq)=true:=decide_eq_true hk
          obtain⟨d,hd⟩:∃ t,q.decls[k]?=some t:=⟨q.decls[k]'(by rw[HNQ.out];exact hk),by simp⟩
          obtain⟨ad,rfl,A2',c2',k0,k1,k2,k3,k4⟩:=decl_cells (HVQ.out.below HK.out.2.2) k d hd
          have hk0:(0:Int)≤(k:Int):=by omega
          have hk1:(k:Int)<(nq:Int):=by omega
          have HD:=Lib.hid hd
          obtain⟨nm,hnm⟩:∃ nm,d.name=nm:=⟨_,rfl⟩
          have HNM:=Lib.hid hnm
          rw[hnm] at k0
          by_cases hkp:k<np
          · have hkpb:decide (k<np)=true:=decide_eq_true hkp
            have hkpi:decide ((k:Int)<(np:Int))=true:=decide_eq_true (by omega)
            have hd2:p.decls[k]?=some d:=by
             obtain⟨ex,e,_⟩:=HBEH.out
             rw[e,List.getElem?_append_left (by rw[HNP.out];exact hkp)] at hd
             exact hd
            obtain⟨ad2,rfl,A3',c3',j0,j1,j2,j3,j4⟩:=decl_cells (HVP.out.below HK.out.2.2) k d hd2
            rw[hnm] at j0
            have lj0:=CmpRule.cell_lt j0
            have hk2:(k:Int)<(np:Int):=by omega
            have e1:(nm.toList==nm.toList)=true:=by simp
            clear hd hnm hd2
            go_wp2
            go_region
            all_goals go_wp2
            all_goals
             go_roundg (nq - k)
             all_goals first
              | (have:=HK.out.2.1;omega)
              | exact⟨k+1,by rw[CmpMem.wrap_up k (by have:=HQM.out;omega)],Lib.hid ⟨hk,by omega,HK.out.2.2.trans ((below1 _ _).drew.mono HK.out.2.2.size)⟩⟩
          · have hkpb:decide (k<np)=false:=decide_eq_false hkp
            have hkpi:decide ((k:Int)<(np:Int))=false:=decide_eq_false (by omega)
            have HEX:Hid (∃ x∈p.inits,Under1 nm x.name):=Lib.hid (by
             obtain⟨ex,e,hex⟩:=HBEH.out
             rw[e,List.getElem?_append_right (by rw[HNP.out];omega)] at hd
             obtain⟨x,hx,t,ht⟩:=hex d (List.mem_of_getElem? hd)
             exact⟨x,hx,t,by rw[← hnm];exact ht⟩)
            clear hd hnm
            go_wp2
            go_loopg [15,95] (ni+1) (fun gk5 v15 v95 ww=>∃ (j c:Nat),v15=.int .i64 (c:Int)∧v95=.int .i64 (j:Int)∧Hid (j≤ni∧ni - j<gk5∧c≤j∧Below W5.heap.size W5 ww∧Blk ww W5.heap.size 46 #[.string nm,.slice A2' d.cols.length c2',.bool d.input,.bool d.output,.int .i64 d.at_]∧((∃ x∈p.inits.take j,Under1 nm x.name)→1≤c)))
            case atStart=>exact⟨0,0,rfl,rfl,Lib.hid ⟨Nat.zero_le _,by omega,Nat.le_refl _,below1 _ _,Blk.new _ _ _,fun h=>by simp at h⟩⟩
            case round=>
             obtain⟨j,c,rfl,rfl,HI⟩:=hrel
             rename World=>W6
             have hbx:=HI.out.2.2.2.2.1
             have b0:=hbx.cell 0
             have lb:=hbx.lt
             simp only[List.getElem?_toArray,List.getElem?_cons_zero] at b0
             by_cases hj:j<ni
             · have hjb:decide (j<ni)=true:=decide_eq_true hj
               obtain⟨x,hx⟩:∃ t,p.inits[j]?=some t:=⟨p.inits[j]'(by rw[HNI.out];exact hj),by simp⟩
               obtain⟨ai,rfl,i0,i1,i2⟩:=init_cells (HVI.out.below (HK.out.2.2.trans (HI.out.2.2.2.1.mono HK.out.2.2.size))) j x hx
               have hj0:(0:Int)≤(j:Int):=by omega
               have hj1:(j:Int)<(ni:Int):=by omega
               have HX:=Lib.hid hx
               obtain⟨nx,hnx⟩:∃ nx,x.name=nx:=⟨_,rfl⟩
               have HNX:=Lib.hid hnx
               rw[hnx] at i0
               have HNXS:Hid (nx.size≤65536):=Lib.hid (by rw[← hnx];exact (HSM.out.body.inits x (List.mem_of_getElem? hx)).1)
               have HBN:Hid (Below W5.heap.size W5 ((W6.alloc (.cells #[.string nx,.string x.comp,.int .i64 x.at_] 48)))):=Lib.hid (HI.out.2.2.2.1.trans ((below1 W6 _).mono HI.out.2.2.2.1.size))
               have HBB:Hid (Blk ((W6.alloc (.cells #[.string nx,.string x.comp,.int .i64 x.at_] 48))) W5.heap.size 46 #[.string nm,.slice A2' d.cols.length c2',.bool d.input,.bool d.output,.int .i64 d.at_]):=Lib.hid (hbx.alloc _)
               clear hx hnx hbx
               by_cases hlt:nx.size<nm.size
               · have hltb:decide (nx.size<nm.size)=true:=decide_eq_true hlt
                 have hlti:decide ((nx.size:Int)<(nm.size:Int))=true:=decide_eq_true (by omega)
                 have hwr:IntKind.i64.wrap ((nx.size:Int)+1)=((nx.size+1:Nat):Int):=by rw[IntWalk.i64_in _ (by have:=HNXS.out;omega)];omega
                 have hmx:¬9223372036854775807<nx.size+1:=by have:=HNXS.out;omega
                 have hle1:nx.size+1≤nm.size:=hlt
                 have hle2:(nx.size:Int)+1≤(nm.size:Int):=by omega
                 have hle3:decide (nx.size+1≤nm.size)=true:=decide_eq_true hle1
                 have hle4:decide ((nx.size:Int)+1≤(nm.size:Int))=true:=decide_eq_true hle2
                 have hle5:(0:Int)≤(nx.size:Int)+1:=by omega
                 by_cases heq:(nm.extract 0 (nx.size+1)).toList=(nx++str [46]).toList
                 · have heb:((nm.extract 0 (nx.size+1)).toList==(nx++⟨#[46]⟩).toList)=true:=beq_iff_eq.mpr heq
                   clear heq
                   go_wp2
                   go_quiet (fail)
                   go_wp2
                   go_roundg (ni - j)
                   all_goals first
                    | (have:=HI.out.2.1;omega)
                    | exact⟨j+1,c+1,by rw[CmpMem.wrap_up c (by have:=HI.out.2.2.1;have:=HIM.out;omega)],by rw[CmpMem.wrap_up j (by have:=HIM.out;omega)],Lib.hid ⟨hj,by omega,by have:=HI.out.2.2.1;omega,pw_below_drewN HBN.out _,HBB.out.drewN _,fun _=>Nat.succ_le_succ (Nat.zero_le _)⟩⟩
                    | exact⟨j+1,c+1,by rw[CmpMem.wrap_up c (by have:=HI.out.2.2.1;have:=HIM.out;omega)],by rw[CmpMem.wrap_up j (by have:=HIM.out;omega)],Lib.hid ⟨hj,by omega,by have:=HI.out.2.2.1;omega,HBN.out.drew,HBB.out,fun _=>Nat.succ_le_succ (Nat.zero_le _)⟩⟩
                 · have heb:((nm.extract 0 (nx.size+1)).toList==(nx++⟨#[46]⟩).toList)=false:=beq_eq_false_iff_ne.mpr heq
                   have HNU:Hid (¬Under1 nm x.name):=Lib.hid (fun h=>heq (by have:=under_ext h;rw[HNX.out] at this;exact this))
                   clear heq
                   go_wp2
                   go_quiet (fail)
                   go_wp2
                   go_roundg (ni - j)
                   all_goals first
                    | (have:=HI.out.2.1;omega)
                    | exact⟨j+1,c,rfl,by rw[CmpMem.wrap_up j (by have:=HIM.out;omega)],Lib.hid ⟨hj,by omega,by have:=HI.out.2.2.1;omega,pw_below_drewN HBN.out _,HBB.out.drewN _,take_ex HI.out.2.2.2.2.2 HX.out HNU.out⟩⟩
                    | exact⟨j+1,c,rfl,by rw[CmpMem.wrap_up j (by have:=HIM.out;omega)],Lib.hid ⟨hj,by omega,by have:=HI.out.2.2.1;omega,HBN.out.drew,HBB.out,take_ex HI.out.2.2.2.2.2 HX.out HNU.out⟩⟩
               · have hltb:decide (nx.size<nm.size)=false:=decide_eq_false hlt
                 have hlti:decide ((nx.size:Int)<(nm.size:Int))=false:=decide_eq_false (by omega)
                 have HNU:Hid (¬Under1 nm x.name):=Lib.hid (fun h=>hlt (by rw[← HNX.out];exact under_size h))
                 go_wp2
                 go_quiet (fail)
                 go_wp2
                 go_roundg (ni - j)
                 all_goals first
                  | (have:=HI.out.2.1;omega)
                  | exact⟨j+1,c,rfl,by rw[CmpMem.wrap_up j (by have:=HIM.out;omega)],Lib.hid ⟨hj,by omega,by have:=HI.out.2.2.1;omega,pw_below_drewN HBN.out _,HBB.out.drewN _,take_ex HI.out.2.2.2.2.2 HX.out HNU.out⟩⟩
                  | exact⟨j+1,c,rfl,by rw[CmpMem.wrap_up j (by have:=HIM.out;omega)],Lib.hid ⟨hj,by omega,by have:=HI.out.2.2.1;omega,HBN.out.drew,HBB.out,take_ex HI.out.2.2.2.2.2 HX.out HNU.out⟩⟩
             · have hjb:decide (j<ni)=false:=decide_eq_false hj
               have hc1:1≤c:=HI.out.2.2.2.2.2 (by rw[List.take_of_length_le (by have:=HNI.out;omega)];exact HEX.out)
               have hcb:decide (c<1)=false:=decide_eq_false (by omega)
               have hci:decide ((c:Int)<1)=false:=decide_eq_false (by omega)
               clear hbx
               go_wp2
               go_roundg (nq - k)
               all_goals first
                | (have:=HK.out.2.1;omega)
                | exact⟨k+1,by rw[CmpMem.wrap_up k (by have:=HQM.out;omega)],Lib.hid ⟨hk,by omega,HK.out.2.2.trans (HI.out.2.2.2.1.mono HK.out.2.2.size)⟩⟩
        · have hkb:decide (k<nq)=false:=decide_eq_false hk
          go_wp2
          go_ret
          exact⟨rfl,HB4.out.trans (HBK.out.mono HB4.out.size)⟩
theorem apart_any (s:ByteArray) (W:World) (hs:s.size≤140737488351232):Calls Try.prog 5 #[.string s] W fun e w'=>e=.returned (.bool true)∧Below W.heap.size W w':=by
 obtain⟨k,r,_,hsm,hcalls⟩:=parse_calls s hs
 obtain⟨p,why,fat⟩:=r
 have HP:Hid (∀ W,Calls Try.prog 7 #[.string s] W (ParseView W p why fat)):=Lib.hid (fun W=>(hcalls W).mono (fun _ _ h=>parse_view h))
 obtain⟨r,hr⟩:=Option.isSome_iff_exists.1 (flatS_tot p)
 cases r with
 | error z=>exact apart_err s W p why fat HP z (flat_err p z hr) (Lib.hid (fun V vT vD vC vI vL h=>flat_calls V _ _ _ _ _ _ h hsm _ hr))
 | ok q=>exact apart_ok s W p q why fat (Lib.hid hsm) (Lib.hid hr) HP (Lib.hid (fun V vT vD vC vI vL h=>(flat_calls V _ _ _ _ _ _ h hsm _ hr).mono (fun _ _ h=>f_view h)))
end Go.Proofs.Ytddmceldglelkaa.CmpApartW
