/- A claim's texts, in the order of what they need: RefRow. -/
import Derived.Test.YtddmceldglelkaaBCompBases13
set_option maxRecDepth 100000
set_option maxHeartbeats 8000000
set_option linter.unusedVariables false
set_option linter.unusedSimpArgs false
set_option linter.unusedSectionVars false
namespace Go.Proofs.Ytddmceldglelkaa
namespace RefRow
open Go Go.RowKit RefPure RefKinds RefMem RefTake RefSmall RefFields RefExprs RefExpr RefOne RefNeg YtddmceldglelkaaW.PrintWords
open LexPure (T lex)
attribute [local go_sem] fld0 fld1 fld2 fld3
section
variable (ts:List T)
theorem row_2 (k:Nat) (w:World) (g:Nat) (v:Value) (st:St) (r:Ex×St) (h:RS w g v ts st) (hF:row ts (k+1) 2 st=some r) (HE:Hid (∀ w g v st r,RS w g v ts st→factor ts k st=some r→Calls Try.prog 91 #[.pointer (some ⟨g,0,none⟩)] w (ExPost w g v ts r))):Calls Try.prog 89 #[.pointer (some ⟨g,0,none⟩),.int .i64 2] w (ExPost w g v ts r):=by
 have H0:=Za h;have G0:=Za (ZL w g);have hg:=h.blk.lt;have HX:=Za (fun X (hX:w.heap.size≤X)=>h.elder hX);rw[row,if_pos rfl] at hF;have HX1:=Za hF;clear h hF;go_enter Try.func89,Try.ntmps89
 go_wp2_with (first
       | (go_at_call 91;(with_reducible refine (HE.out _ _ _ _ _ ((H0.out.alloc _).alloc _) HX1.out).mono ?_);rintro e w1 ⟨vk,rfl,hk,hr,hb⟩
          obtain⟨pk,ck,rfl⟩:=Kd.R_slice hk;have HEK:=Za hk;have H1:=Za hr;have G1:=Za (Zs (ZD (ZD G0.out _) _) hb);have hB2:=((Blk.new w 56 #[.int .i64 0,.int .i64 0,.string ⟨#[]⟩,.slice none 0 0,.int .i64 0]).alloc (.cells #[.string (ByteArray.mk #[43]),.string (ByteArray.mk #[45])] 9)).grown hb (fun e=>Zg hg (Zb e));have HB2:=Za hB2;obtain⟨z0,z1,z2,z3,z4⟩:=Zt hB2;obtain⟨fz0,fz1,fz2,fz3,fz4⟩:=Zz hB2;have hlt1:w.heap.size<w1.heap.size:=hB2.lt;clear hr hb hk hB2 H0 G0))
 have HEK2:Hid (kEx.R 56 w1 (w.heap.size+2) (fun b=>w.heap.size+2≤b) (.slice pk r.1.kids.length ck) r.1.kids):=Za (by have:=HEK.out;simpa using this);clear HEK;refine bodyPost_ret (results_cell_row rfl _ _ w.heap.size 56 #[.int .i64 r.1.kind,.int .i64 r.1.n,.string r.1.s,.slice pk r.1.kids.length ck,.int .i64 r.1.at_] (0,0) _ rfl ?_ Try.underlying56 rfl (by kernel_rfl)) rfl ?_
 · exact ZS HB2.out
 · refine⟨.slice pk r.1.kids.length ck,rfl,?_,?_,?_⟩
   · exact Kd.R_mono (Kd.R_lower (five_R HEK2.out (fun b hb=>by omega)) (by omega)) (fun b hb=>by omega)
   · refine ZZ ?_ (HX.out _ (Zc _));exact H1.out
   · refine ZY ?_ (Zc _);exact G1.out
def signsOf:Nat→List (List UInt8)
 | 1=>[[42],[47],[37]]
 | _=>[[43],[45]]
def opTo (L i:Nat) (s:St):List UInt8:=((signsOf L).take i).foldl (fun op x=>if sign ts x s=true then x else op) []
theorem opTo_0 (s:St):opTo ts 0 2 s=opOf ts 0 s:=by simp[opTo,signsOf,opOf]
theorem opTo_1 (s:St):opTo ts 1 3 s=opOf ts 1 s:=by simp[opTo,signsOf,opOf]
def RRel (w:World) (g:Nat) (v:Value) (k L X N:Nat) (r:Ex×St) (sg:Array Value) (kq:Nat) (wr:World):Prop:=
 ∃ e s pk ck,kq≤k∧rowL ts kq L e s=some r∧RS wr g v ts s∧w.grownBy wr (some g)∧Blk wr w.heap.size 56 #[.int .i64 0,.int .i64 0,.string ⟨#[]⟩,.slice none 0 0,.int .i64 0]∧Blk wr (N - 1) 9 sg∧
  Blk wr X 56 #[.int .i64 e.kind,.int .i64 e.n,.string e.s,.slice pk e.kids.length ck,.int .i64 e.at_]∧kEx.R 56 wr N (fun b=>N≤b∧b≠X) (.slice pk e.kids.length ck) e.kids
theorem row_rel {w w4:World} {g k L X N k1 n4:Nat} {r y:Ex×St} {v:Value} {sg:Array Value} {e:Ex} {op:ByteArray} {pe py:Option Addr} {ce cy:Nat} (hX:g<X∧∀ b,v.ownBlock=some b→b<X) (hN:w.heap.size+1<N) (hNX:N≤X) (hn4:X<n4) (h4:X<w4.heap.size) (hk:k1≤k)
    (hR:rowL ts k1 L ⟨5,0,op,[e,y.1],e.at_⟩ y.2=some r) (H:RS w4 g v ts y.2) (G:w.grownBy w4 (some g)) (HB:Blk w4 w.heap.size 56 #[.int .i64 0,.int .i64 0,.string ⟨#[]⟩,.slice none 0 0,.int .i64 0]) (HS:Blk w4 (N - 1) 9 sg)
    (HE:Blk w4 X 56 #[.int .i64 e.kind,.int .i64 e.n,.string e.s,.slice pe e.kids.length ce,.int .i64 e.at_]) (HK:kEx.R 56 w4 N (fun b=>N≤b∧b≠X) (.slice pe e.kids.length ce) e.kids) (HY:kEx.R 56 w4 n4 (fun b=>n4≤b) (.slice py y.1.kids.length cy) y.1.kids) :
    RRel ts w g v k L X N r sg k1 ((five w4 X (.int .i64 5) (.int .i64 0) (.string op) (.slice (some ⟨w4.heap.size,0,none⟩) 2 2) (.int .i64 e.at_)).alloc (.cells #[.int .i64 e.kind,.int .i64 e.n,.string e.s,.slice pe e.kids.length ce,.int .i64 e.at_,.int .i64 y.1.kind,.int .i64 y.1.n,.string y.1.s,.slice py y.1.kids.length cy,.int .i64 y.1.at_] 56)):=by
 have hs:(five w4 X (.int .i64 5) (.int .i64 0) (.string op) (.slice (some ⟨w4.heap.size,0,none⟩) 2 2) (.int .i64 e.at_)).heap.size=w4.heap.size:=(by simp);refine⟨⟨5,0,op,[e,y.1],e.at_⟩,y.2,some ⟨w4.heap.size,0,none⟩,2,hk,hR,RS.alloc (ZZ H hX) _,ZD (ZY G (by omega)) _,(five_far HB (by omega)).alloc _,(five_far HS (by omega)).alloc _,(ZS HE).alloc _,?_⟩;have h1:=kEx_mkM _ N (fun b=>N≤b∧b≠X) e (five_R (X:=X) (a:=.int .i64 5) (b:=.int .i64 0) (c:=.string op) (d:=.slice (some ⟨w4.heap.size,0,none⟩) 2 2) (e:=.int .i64 e.at_) HK (fun b hb=>hb.2));have h2:=kEx_mkM _ N (fun b=>N≤b∧b≠X) y.1 (Kd.R_mono (Kd.R_lower (five_R (X:=X) (a:=.int .i64 5) (b:=.int .i64 0) (c:=.string op) (d:=.slice (some ⟨w4.heap.size,0,none⟩) 2 2) (e:=.int .i64 e.at_) HY (fun b hb=>by omega)) (base':=N) (by omega)) (fun b hb=>⟨by omega,by omega⟩));have h:=R_lit2 (ok:=fun b=>N≤b∧b≠X) 56 h1 h2 (fun b hb=>hb) (by rw[hs];omega) (by rw[hs];exact⟨by omega,by omega⟩);rw[hs] at h;exact h
theorem row_0 (k:Nat) (ih:∀ j,j≤k→PRow ts j) (w:World) (g:Nat) (v:Value) (st:St) (r:Ex×St) (h:RS w g v ts st) (hF:row ts (k+1) 0 st=some r):Calls Try.prog 89 #[.pointer (some ⟨g,0,none⟩),.int .i64 0] w (ExPost w g v ts r):=by
 have H0:=Za h;have G0:=Za (ZL w g);have hg:=h.blk.lt;have HX:=Za (fun X (hX:w.heap.size≤X)=>h.elder hX);rw[row,if_neg (by decide)] at hF;obtain⟨x,hx,hL⟩:=Zp hF;have HX1:=Za hx;have HL0:=Za hL;have HE:Hid (∀ w g v st r,RS w g v ts st→row ts k (0+1) st=some r→Calls Try.prog 89 #[.pointer (some ⟨g,0,none⟩),.int .i64 1] w (ExPost w g v ts r)):=Za (fun w g v st r h hF=>ih k (Zc _) w g v st r 1 (by decide) h hF);have HIH:=Za ih;clear h hF hx hL ih;go_enter Try.func89,Try.ntmps89
 go_wp2_with (first
       | (go_at_call 89;(with_reducible refine (HE.out _ _ _ _ _ ((H0.out.alloc _).alloc _) HX1.out).mono ?_);rintro e w1 ⟨vk,rfl,hk,hr,hb⟩
          obtain⟨pk,ck,rfl⟩:=Kd.R_slice hk;have HEK:=Za hk;have H1:=Za hr;have G1:=Za (Zs (ZD (ZD G0.out _) _) hb);have hBS0:=(Blk.new (w.alloc (.cells #[.int .i64 0,.int .i64 0,.string ⟨#[]⟩,.slice none 0 0,.int .i64 0] 56)) 9 #[.string (ByteArray.mk #[43]),.string (ByteArray.mk #[45])]);simp at hBS0;have hB2:=((Blk.new w 56 #[.int .i64 0,.int .i64 0,.string ⟨#[]⟩,.slice none 0 0,.int .i64 0]).alloc (.cells #[.string (ByteArray.mk #[43]),.string (ByteArray.mk #[45])] 9)).grown hb (fun e=>Zg hg (Zb e));have hBS:=hBS0.grown hb (fun e=>by have:=Zb e;omega);have HB2:=Za hB2;have HBS:=Za hBS;have hlt1:(w.heap.size+2) - 1<w1.heap.size:=hBS.lt;clear hr hb hk hB2 hBS hBS0 H0 G0))
 have HEK2:Hid (kEx.R 56 w1 (w.heap.size+2) (fun b=>(w.heap.size+2)≤b) (.slice pk x.1.kids.length ck) x.1.kids):=Za (by have:=HEK.out;simpa using this);go_loopg [] k (fun kq wr=>Hid (RRel ts w g v k 0 w1.heap.size (w.heap.size+2) r #[.string (ByteArray.mk #[43]),.string (ByteArray.mk #[45])] kq wr))
 case atStart=>exact Za ⟨x.1,x.2,pk,ck,Zc _,HL0.out,H1.out.alloc _,ZD G1.out _,HB2.out.alloc _,HBS.out.alloc _,Blk.new w1 _ _,Kd.R_alloc (Kd.R_mono (Kd.R_bound HEK2.out) (fun b hb=>⟨hb.1,by have:=hb.2.2.1;omega⟩)) _⟩
 case round=>
  clear H1 G1 HB2 HBS HEK HEK2 HL0 HX1 HE;obtain⟨e,s,pe,ce,hkq,hR,hS,hG,hBr,hBs,hBe,hK⟩:=hrel.out;cases gk with
  | zero=>exact absurd hR (by simp[rowL])
  | succ k1=>
  have H1:=Za hS;have G1:=Za hG;have HB1:=Za hBr;have HS1:=Za hBs;have HE1:=Za hBe;have HK1:=Za hK;have HKQ:=Za hkq;obtain⟨z0,z1,z2,z3,z4⟩:=Zt hBr;obtain⟨fz0,fz1,fz2,fz3,fz4⟩:=Zz hBr;obtain⟨y0,y1,y2,y3,y4⟩:=Zt hBe;have hlt2:w1.heap.size<wr.heap.size:=hBe.lt;clear hrel hS hG hBr hBs hBe hK hkq;by_cases hw:well s=true
  · rw[rowL,if_pos hw] at hR;have HR:=Za hR;clear hR
    go_wp2_with (first
     | (go_at_call 17;(with_reducible refine (ZP _ _ _ _ _ true hw H1.out).mono ?_);rintro e w' ⟨rfl,rfl⟩))
    rename World=>wo
    go_loopg [7,26] 2 (fun kq2 v7 v26 wi=>∃ i:Nat,v26=.int .i64 (i:Int)∧v7=.string (str (opTo ts 0 i s))∧Hid (i+kq2=2∧Below wo.heap.size wo wi))
    case atStart=>exact⟨0,rfl,rfl,Za ⟨Nat.zero_add _,Below.refl _ _⟩⟩
    case round=>
     obtain⟨i,rfl,rfl,HI⟩:=hrel;obtain⟨hi,hbw⟩:=HI.out;have H2:=Za (H1.out.below hbw);have HBW:=Za hbw;have hbs:=HS1.out.below hbw HS1.out.lt;have hlt3:w1.heap.size<wr.heap.size:=Nat.lt_of_lt_of_le hlt2 hbw.size;have x0:wr.cell? ⟨w.heap.size+1,0,none⟩=some (.string (ByteArray.mk #[43])):=hbs.cell 0;have x1:wr.cell? ⟨w.heap.size+1,1,none⟩=some (.string (ByteArray.mk #[45])):=hbs.cell 1;clear HI hbw hbs;rcases (by omega:i=0∨i=1∨i=2) with rfl|rfl|rfl
     · by_cases hs:sign ts [43] s=true
       · have hs2:sign ts (ByteArray.mk #[43]).data.toList s=true:=hs
         go_wp2_with (first
          | (go_at_call 42;(with_reducible refine (ZJ _ _ _ _ _ _ H2.out).mono ?_);rintro e w3 ⟨rfl,hb⟩
             have HB3:=Za (HBW.out.trans (hb.mono (Nat.le_of_lt_succ (Nat.lt_succ_of_le HBW.out.size))));clear hb))
         go_roundg 1
         case measure=>omega
         case rel=>exact⟨1,rfl,by simp[opTo,signsOf,hs,str],Za ⟨by omega,HB3.out⟩⟩
       · have hs2:sign ts (ByteArray.mk #[43]).data.toList s=false:=by simpa using hs
         go_wp2_with (first
          | (go_at_call 42;(with_reducible refine (ZJ _ _ _ _ _ _ H2.out).mono ?_);rintro e w3 ⟨rfl,hb⟩
             have HB3:=Za (HBW.out.trans (hb.mono (Nat.le_of_lt_succ (Nat.lt_succ_of_le HBW.out.size))));clear hb))
         go_roundg 1
         case measure=>omega
         case rel=>exact⟨1,rfl,by simp[opTo,signsOf,hs,str],Za ⟨by omega,HB3.out⟩⟩
     · by_cases hs:sign ts [45] s=true
       · have hs2:sign ts (ByteArray.mk #[45]).data.toList s=true:=hs
         go_wp2_with (first
          | (go_at_call 42;(with_reducible refine (ZJ _ _ _ _ _ _ H2.out).mono ?_);rintro e w3 ⟨rfl,hb⟩
             have HB3:=Za (HBW.out.trans (hb.mono (Nat.le_of_lt_succ (Nat.lt_succ_of_le HBW.out.size))));clear hb))
         go_roundg 0
         case measure=>omega
         case rel=>exact⟨2,rfl,by simp[opTo,signsOf,hs,str],Za ⟨by omega,HB3.out⟩⟩
       · have hs2:sign ts (ByteArray.mk #[45]).data.toList s=false:=by simpa using hs
         go_wp2_with (first
          | (go_at_call 42;(with_reducible refine (ZJ _ _ _ _ _ _ H2.out).mono ?_);rintro e w3 ⟨rfl,hb⟩
             have HB3:=Za (HBW.out.trans (hb.mono (Nat.le_of_lt_succ (Nat.lt_succ_of_le HBW.out.size))));clear hb))
         go_roundg 0
         case measure=>omega
         case rel=>exact⟨2,rfl,by simp[opTo,signsOf,hs,str],Za ⟨by omega,HB3.out⟩⟩
     · rw[opTo_0];have G2:=Za (Zs G1.out (Zr HBW.out g));have hB2:=HB1.out.below HBW.out HB1.out.lt;have hS2:=HS1.out.below HBW.out HS1.out.lt;have hE2:=HE1.out.below HBW.out HE1.out.lt;have HB2:=Za hB2;have HS2:=Za hS2;have HE2:=Za hE2;have HK2:=Za (Kd.R_below HK1.out HBW.out);obtain⟨z0,z1,z2,z3,z4⟩:=Zt hB2;obtain⟨fz0,fz1,fz2,fz3,fz4⟩:=Zz hB2;obtain⟨y0,y1,y2,y3,y4⟩:=Zt hE2;clear hB2 hS2 hE2 H1 G1 HB1 HS1 HE1 HK1 HBW;by_cases hop:opOf ts 0 s=[]
       · have hR:=HR.out;rw[if_pos hop] at hR;injection hR with hR
         subst hR;have hub:(str (opOf ts 0 s)).toList.isEmpty=true:=(by rw[Lib.toList_data];simp[str,hop]);clear hop HR;go_wp2;refine bodyPost_ret (results_cell_row rfl _ _ w.heap.size 56 #[.int .i64 e.kind,.int .i64 e.n,.string e.s,.slice pe e.kids.length ce,.int .i64 e.at_] (0,0) _ rfl ?_ Try.underlying56 rfl (by kernel_rfl)) rfl ?_
         · exact ZS HB2.out
         · refine⟨.slice pe e.kids.length ce,rfl,?_,?_,?_⟩
           · exact Kd.R_mono (Kd.R_lower (five_R HK2.out (fun b hb=>by have:=hb.1;omega)) (by omega)) (fun b hb=>by have:=hb.1;omega)
           · refine ZZ ?_ (HX.out _ (Zc _));exact H2.out
           · refine ZY ?_ (Zc _);exact G2.out
       · have hR:=HR.out;rw[if_neg hop] at hR;obtain⟨y,hy,hR2⟩:=Zp hR;have HY:=Za hy;have HR2:=Za hR2;have hub:(str (opOf ts 0 s)).toList.isEmpty=false:=(by rw[Lib.toList_data];simp[str,hop]);clear hop HR hR hy hR2;have HE:Hid (∀ w g v st r,RS w g v ts st→row ts k1 (0+1) st=some r→Calls Try.prog 89 #[.pointer (some ⟨g,0,none⟩),.int .i64 1] w (ExPost w g v ts r)):=Za (fun w g v st r h hF=>HIH.out k1 (by have:=HKQ.out;omega) w g v st r (0+1) (by decide) h hF)
         go_wp2_with (first
          | (go_at_call 47;(with_reducible refine (Z4 _ _ _ _ _ H2.out).mono ?_);rintro e3 w3 ⟨rfl,hr,hb⟩
             have H3:=Za hr;have G3:=Za (Zs G2.out hb);have hB3:=HB2.out.grown hb (fun e=>Zg hg (Zb e));have hS3:=HS2.out.grown hb (fun e=>by have:=Zb e;omega);have hE3:=HE2.out.grown hb (fun e=>by have:=Zb e;omega);have hK3:=Kd.R_grown HK2.out hb (fun b hb e=>by have:=Zb e;have:=hb.1;omega);clear hr hb H2 G2 HB2 HS2 HE2 HK2 z0 z1 z2 z3 z4 fz0 fz1 fz2 fz3 fz4 y0 y1 y2 y3 y4))
         have hd:Below w3.heap.size w3 w3.drew:=(Below.refl _ _).drew;have H4:=Za (H3.out.below hd);have G4:=Za (Zs G3.out (Zr hd g));have HB4:=Za hB3.drew;have HS4:=Za hS3.drew;have HE4:=Za hE3.drew;have HK4:=Za (Kd.R_below hK3 hd);obtain⟨y0,y1,y2,y3,y4⟩:=Zt hE3;have hwr:IntKind.i64.wrap 1=1:=(by decide);have HE2:Hid (∀ w g v st r,RS w g v ts st→row ts k1 (0+1) st=some r→Calls Try.prog 89 #[.pointer (some ⟨g,0,none⟩),.int .i64 (IntKind.i64.wrap 1)] w (ExPost w g v ts r)):=Za (by rw[hwr];exact HE.out);clear HE hwr;clear hd H3 G3 hB3 hS3 hE3 hK3
         go_region_with
          (first
          | (go_at_call 89;(with_reducible refine (HE2.out _ _ _ _ _ H4.out HY.out).mono ?_);rintro e4 w4 ⟨vk,rfl,hk,hr,hb⟩
             obtain⟨py,cy,rfl⟩:=Kd.R_slice hk;have HEK:=Za hk;have HL:Hid (w1.heap.size<w3.drew.heap.size):=Za HE4.out.lt;have H5:=Za hr;have G5:=Za (Zs G4.out hb);have HB5:=Za (HB4.out.grown hb (fun e=>Zg hg (Zb e)));have HS5:=Za (HS4.out.grown hb (fun e=>by have:=Zb e;omega));have hE5:=HE4.out.grown hb (fun e=>by have:=Zb e;omega);have HE5:=Za hE5;have HK5:=Za (Kd.R_grown HK4.out hb (fun b hb e=>by have:=Zb e;have:=hb.1;omega));obtain⟨y0,y1,y2,y3,y4⟩:=Zt hE5;obtain⟨fy0,fy1,fy2,fy3,fy4⟩:=Zz hE5;have hlt4:w1.heap.size<w4.heap.size:=hE5.lt;clear hr hb hk hE5 H4 G4 HB4 HS4 HE4 HK4))
         (all_goals go_wp2);all_goals go_roundg k1
         all_goals first
          | omega
          | exact Za (row_rel (v:=v) (ts:=ts) (HX.out _ (by omega)) (by omega) (by omega) HL.out hlt4 (Zd (Nat.lt_of_succ_le HKQ.out)) HR2.out H5.out G5.out HB5.out HS5.out HE5.out HK5.out HEK.out)
  · rw[rowL,if_neg hw] at hR;injection hR with hR
    subst hR;have hw2:well s=false:=by simpa using hw
    go_wp2_with (first
     | (go_at_call 17;(with_reducible refine (ZP _ _ _ _ _ false hw2 H1.out).mono ?_);rintro e w' ⟨rfl,rfl⟩))
    refine bodyPost_ret (results_cell_row rfl _ _ w.heap.size 56 #[.int .i64 e.kind,.int .i64 e.n,.string e.s,.slice pe e.kids.length ce,.int .i64 e.at_] (0,0) _ rfl ?_ Try.underlying56 rfl (by kernel_rfl)) rfl ?_
    · exact ZS HB1.out
    · refine⟨.slice pe e.kids.length ce,rfl,?_,?_,?_⟩
      · exact Kd.R_mono (Kd.R_lower (five_R HK1.out (fun b hb=>by have:=hb.1;omega)) (by omega)) (fun b hb=>by have:=hb.1;omega)
      · refine ZZ ?_ (HX.out _ (Zc _));exact H1.out
      · refine ZY ?_ (Zc _);exact G1.out
theorem row_1 (k:Nat) (ih:∀ j,j≤k→PRow ts j) (w:World) (g:Nat) (v:Value) (st:St) (r:Ex×St) (h:RS w g v ts st) (hF:row ts (k+1) 1 st=some r):Calls Try.prog 89 #[.pointer (some ⟨g,0,none⟩),.int .i64 1] w (ExPost w g v ts r):=by
 have H0:=Za h;have G0:=Za (ZL w g);have hg:=h.blk.lt;have HX:=Za (fun X (hX:w.heap.size≤X)=>h.elder hX);rw[row,if_neg (by decide)] at hF;obtain⟨x,hx,hL⟩:=Zp hF;have HX1:=Za hx;have HL0:=Za hL;have HE:Hid (∀ w g v st r,RS w g v ts st→row ts k (1+1) st=some r→Calls Try.prog 89 #[.pointer (some ⟨g,0,none⟩),.int .i64 2] w (ExPost w g v ts r)):=Za (fun w g v st r h hF=>ih k (Zc _) w g v st r 2 (by decide) h hF);have HIH:=Za ih;clear h hF hx hL ih;go_enter Try.func89,Try.ntmps89
 go_wp2_with (first
       | (go_at_call 89;(with_reducible refine (HE.out _ _ _ _ _ (((H0.out.alloc _).alloc _).alloc _) HX1.out).mono ?_);rintro e w1 ⟨vk,rfl,hk,hr,hb⟩
          obtain⟨pk,ck,rfl⟩:=Kd.R_slice hk;have HEK:=Za hk;have H1:=Za hr;have G1:=Za (Zs (ZD (ZD (ZD G0.out _) _) _) hb);have hBS0:=(Blk.new ((w.alloc (.cells #[.int .i64 0,.int .i64 0,.string ⟨#[]⟩,.slice none 0 0,.int .i64 0] 56)).alloc (.cells #[.string (ByteArray.mk #[43]),.string (ByteArray.mk #[45])] 9)) 9 #[.string (ByteArray.mk #[42]),.string (ByteArray.mk #[47]),.string (ByteArray.mk #[37])]);simp at hBS0;have hB2:=(((Blk.new w 56 #[.int .i64 0,.int .i64 0,.string ⟨#[]⟩,.slice none 0 0,.int .i64 0]).alloc (.cells #[.string (ByteArray.mk #[43]),.string (ByteArray.mk #[45])] 9)).alloc (.cells #[.string (ByteArray.mk #[42]),.string (ByteArray.mk #[47]),.string (ByteArray.mk #[37])] 9)).grown hb (fun e=>Zg hg (Zb e));have hBS:=hBS0.grown hb (fun e=>by have:=Zb e;omega);have HB2:=Za hB2;have HBS:=Za hBS;have hlt1:(w.heap.size+3) - 1<w1.heap.size:=hBS.lt;clear hr hb hk hB2 hBS hBS0 H0 G0))
 have HEK2:Hid (kEx.R 56 w1 (w.heap.size+3) (fun b=>(w.heap.size+3)≤b) (.slice pk x.1.kids.length ck) x.1.kids):=Za (by have:=HEK.out;simpa using this);go_loopg [] k (fun kq wr=>Hid (RRel ts w g v k 1 w1.heap.size (w.heap.size+3) r #[.string (ByteArray.mk #[42]),.string (ByteArray.mk #[47]),.string (ByteArray.mk #[37])] kq wr))
 case atStart=>exact Za ⟨x.1,x.2,pk,ck,Zc _,HL0.out,H1.out.alloc _,ZD G1.out _,HB2.out.alloc _,HBS.out.alloc _,Blk.new w1 _ _,Kd.R_alloc (Kd.R_mono (Kd.R_bound HEK2.out) (fun b hb=>⟨hb.1,by have:=hb.2.2.1;omega⟩)) _⟩
 case round=>
  clear H1 G1 HB2 HBS HEK HEK2 HL0 HX1 HE;obtain⟨e,s,pe,ce,hkq,hR,hS,hG,hBr,hBs,hBe,hK⟩:=hrel.out;cases gk with
  | zero=>exact absurd hR (by simp[rowL])
  | succ k1=>
  have H1:=Za hS;have G1:=Za hG;have HB1:=Za hBr;have HS1:=Za hBs;have HE1:=Za hBe;have HK1:=Za hK;have HKQ:=Za hkq;obtain⟨z0,z1,z2,z3,z4⟩:=Zt hBr;obtain⟨fz0,fz1,fz2,fz3,fz4⟩:=Zz hBr;obtain⟨y0,y1,y2,y3,y4⟩:=Zt hBe;have hlt2:w1.heap.size<wr.heap.size:=hBe.lt;clear hrel hS hG hBr hBs hBe hK hkq;by_cases hw:well s=true
  · rw[rowL,if_pos hw] at hR;have HR:=Za hR;clear hR
    go_wp2_with (first
     | (go_at_call 17;(with_reducible refine (ZP _ _ _ _ _ true hw H1.out).mono ?_);rintro e w' ⟨rfl,rfl⟩))
    rename World=>wo
    go_loopg [7,26] 3 (fun kq2 v7 v26 wi=>∃ i:Nat,v26=.int .i64 (i:Int)∧v7=.string (str (opTo ts 1 i s))∧Hid (i+kq2=3∧Below wo.heap.size wo wi))
    case atStart=>exact⟨0,rfl,rfl,Za ⟨Nat.zero_add _,Below.refl _ _⟩⟩
    case round=>
     obtain⟨i,rfl,rfl,HI⟩:=hrel;obtain⟨hi,hbw⟩:=HI.out;have H2:=Za (H1.out.below hbw);have HBW:=Za hbw;have hbs:=HS1.out.below hbw HS1.out.lt;have hlt3:w1.heap.size<wr.heap.size:=Nat.lt_of_lt_of_le hlt2 hbw.size;have x0:wr.cell? ⟨w.heap.size+2,0,none⟩=some (.string (ByteArray.mk #[42])):=hbs.cell 0;have x1:wr.cell? ⟨w.heap.size+2,1,none⟩=some (.string (ByteArray.mk #[47])):=hbs.cell 1;have x2:wr.cell? ⟨w.heap.size+2,2,none⟩=some (.string (ByteArray.mk #[37])):=hbs.cell 2;clear HI hbw hbs;rcases (by omega:i=0∨i=1∨i=2∨i=3) with rfl|rfl|rfl|rfl
     · by_cases hs:sign ts [42] s=true
       · have hs2:sign ts (ByteArray.mk #[42]).data.toList s=true:=hs
         go_wp2_with (first
          | (go_at_call 42;(with_reducible refine (ZJ _ _ _ _ _ _ H2.out).mono ?_);rintro e w3 ⟨rfl,hb⟩
             have HB3:=Za (HBW.out.trans (hb.mono (Nat.le_of_lt_succ (Nat.lt_succ_of_le HBW.out.size))));clear hb))
         go_roundg 2
         case measure=>omega
         case rel=>exact⟨1,rfl,by simp[opTo,signsOf,hs,str],Za ⟨by omega,HB3.out⟩⟩
       · have hs2:sign ts (ByteArray.mk #[42]).data.toList s=false:=by simpa using hs
         go_wp2_with (first
          | (go_at_call 42;(with_reducible refine (ZJ _ _ _ _ _ _ H2.out).mono ?_);rintro e w3 ⟨rfl,hb⟩
             have HB3:=Za (HBW.out.trans (hb.mono (Nat.le_of_lt_succ (Nat.lt_succ_of_le HBW.out.size))));clear hb))
         go_roundg 2
         case measure=>omega
         case rel=>exact⟨1,rfl,by simp[opTo,signsOf,hs,str],Za ⟨by omega,HB3.out⟩⟩
     · by_cases hs:sign ts [47] s=true
       · have hs2:sign ts (ByteArray.mk #[47]).data.toList s=true:=hs
         go_wp2_with (first
          | (go_at_call 42;(with_reducible refine (ZJ _ _ _ _ _ _ H2.out).mono ?_);rintro e w3 ⟨rfl,hb⟩
             have HB3:=Za (HBW.out.trans (hb.mono (Nat.le_of_lt_succ (Nat.lt_succ_of_le HBW.out.size))));clear hb))
         go_roundg 1
         case measure=>omega
         case rel=>exact⟨2,rfl,by simp[opTo,signsOf,hs,str],Za ⟨by omega,HB3.out⟩⟩
       · have hs2:sign ts (ByteArray.mk #[47]).data.toList s=false:=by simpa using hs
         go_wp2_with (first
          | (go_at_call 42;(with_reducible refine (ZJ _ _ _ _ _ _ H2.out).mono ?_);rintro e w3 ⟨rfl,hb⟩
             have HB3:=Za (HBW.out.trans (hb.mono (Nat.le_of_lt_succ (Nat.lt_succ_of_le HBW.out.size))));clear hb))
         go_roundg 1
         case measure=>omega
         case rel=>exact⟨2,rfl,by simp[opTo,signsOf,hs,str],Za ⟨by omega,HB3.out⟩⟩
     · by_cases hs:sign ts [37] s=true
       · have hs2:sign ts (ByteArray.mk #[37]).data.toList s=true:=hs
         go_wp2_with (first
          | (go_at_call 42;(with_reducible refine (ZJ _ _ _ _ _ _ H2.out).mono ?_);rintro e w3 ⟨rfl,hb⟩
             have HB3:=Za (HBW.out.trans (hb.mono (Nat.le_of_lt_succ (Nat.lt_succ_of_le HBW.out.size))));clear hb))
         go_roundg 0
         case measure=>omega
         case rel=>exact⟨3,rfl,by simp[opTo,signsOf,hs,str],Za ⟨by omega,HB3.out⟩⟩
       · have hs2:sign ts (ByteArray.mk #[37]).data.toList s=false:=by simpa using hs
         go_wp2_with (first
          | (go_at_call 42;(with_reducible refine (ZJ _ _ _ _ _ _ H2.out).mono ?_);rintro e w3 ⟨rfl,hb⟩
             have HB3:=Za (HBW.out.trans (hb.mono (Nat.le_of_lt_succ (Nat.lt_succ_of_le HBW.out.size))));clear hb))
         go_roundg 0
         case measure=>omega
         case rel=>exact⟨3,rfl,by simp[opTo,signsOf,hs,str],Za ⟨by omega,HB3.out⟩⟩
     · rw[opTo_1];have G2:=Za (Zs G1.out (Zr HBW.out g));have hB2:=HB1.out.below HBW.out HB1.out.lt;have hS2:=HS1.out.below HBW.out HS1.out.lt;have hE2:=HE1.out.below HBW.out HE1.out.lt;have HB2:=Za hB2;have HS2:=Za hS2;have HE2:=Za hE2;have HK2:=Za (Kd.R_below HK1.out HBW.out);obtain⟨z0,z1,z2,z3,z4⟩:=Zt hB2;obtain⟨fz0,fz1,fz2,fz3,fz4⟩:=Zz hB2;obtain⟨y0,y1,y2,y3,y4⟩:=Zt hE2;clear hB2 hS2 hE2 H1 G1 HB1 HS1 HE1 HK1 HBW;by_cases hop:opOf ts 1 s=[]
       · have hR:=HR.out;rw[if_pos hop] at hR;injection hR with hR
         subst hR;have hub:(str (opOf ts 1 s)).toList.isEmpty=true:=(by rw[Lib.toList_data];simp[str,hop]);clear hop HR;go_wp2;refine bodyPost_ret (results_cell_row rfl _ _ w.heap.size 56 #[.int .i64 e.kind,.int .i64 e.n,.string e.s,.slice pe e.kids.length ce,.int .i64 e.at_] (0,0) _ rfl ?_ Try.underlying56 rfl (by kernel_rfl)) rfl ?_
         · exact ZS HB2.out
         · refine⟨.slice pe e.kids.length ce,rfl,?_,?_,?_⟩
           · exact Kd.R_mono (Kd.R_lower (five_R HK2.out (fun b hb=>by have:=hb.1;omega)) (by omega)) (fun b hb=>by have:=hb.1;omega)
           · refine ZZ ?_ (HX.out _ (Zc _));exact H2.out
           · refine ZY ?_ (Zc _);exact G2.out
       · have hR:=HR.out;rw[if_neg hop] at hR;obtain⟨y,hy,hR2⟩:=Zp hR;have HY:=Za hy;have HR2:=Za hR2;have hub:(str (opOf ts 1 s)).toList.isEmpty=false:=(by rw[Lib.toList_data];simp[str,hop]);clear hop HR hR hy hR2;have HE:Hid (∀ w g v st r,RS w g v ts st→row ts k1 (1+1) st=some r→Calls Try.prog 89 #[.pointer (some ⟨g,0,none⟩),.int .i64 2] w (ExPost w g v ts r)):=Za (fun w g v st r h hF=>HIH.out k1 (by have:=HKQ.out;omega) w g v st r (1+1) (by decide) h hF)
         go_wp2_with (first
          | (go_at_call 47;(with_reducible refine (Z4 _ _ _ _ _ H2.out).mono ?_);rintro e3 w3 ⟨rfl,hr,hb⟩
             have H3:=Za hr;have G3:=Za (Zs G2.out hb);have hB3:=HB2.out.grown hb (fun e=>Zg hg (Zb e));have hS3:=HS2.out.grown hb (fun e=>by have:=Zb e;omega);have hE3:=HE2.out.grown hb (fun e=>by have:=Zb e;omega);have hK3:=Kd.R_grown HK2.out hb (fun b hb e=>by have:=Zb e;have:=hb.1;omega);clear hr hb H2 G2 HB2 HS2 HE2 HK2 z0 z1 z2 z3 z4 fz0 fz1 fz2 fz3 fz4 y0 y1 y2 y3 y4))
         have hd:Below w3.heap.size w3 w3.drew:=(Below.refl _ _).drew;have H4:=Za (H3.out.below hd);have G4:=Za (Zs G3.out (Zr hd g));have HB4:=Za hB3.drew;have HS4:=Za hS3.drew;have HE4:=Za hE3.drew;have HK4:=Za (Kd.R_below hK3 hd);obtain⟨y0,y1,y2,y3,y4⟩:=Zt hE3;have hwr:IntKind.i64.wrap 2=2:=(by decide);have HE2:Hid (∀ w g v st r,RS w g v ts st→row ts k1 (1+1) st=some r→Calls Try.prog 89 #[.pointer (some ⟨g,0,none⟩),.int .i64 (IntKind.i64.wrap 2)] w (ExPost w g v ts r)):=Za (by rw[hwr];exact HE.out);clear HE hwr;clear hd H3 G3 hB3 hS3 hE3 hK3
         go_region_with
          (first
          | (go_at_call 89;(with_reducible refine (HE2.out _ _ _ _ _ H4.out HY.out).mono ?_);rintro e4 w4 ⟨vk,rfl,hk,hr,hb⟩
             obtain⟨py,cy,rfl⟩:=Kd.R_slice hk;have HEK:=Za hk;have HL:Hid (w1.heap.size<w3.drew.heap.size):=Za HE4.out.lt;have H5:=Za hr;have G5:=Za (Zs G4.out hb);have HB5:=Za (HB4.out.grown hb (fun e=>Zg hg (Zb e)));have HS5:=Za (HS4.out.grown hb (fun e=>by have:=Zb e;omega));have hE5:=HE4.out.grown hb (fun e=>by have:=Zb e;omega);have HE5:=Za hE5;have HK5:=Za (Kd.R_grown HK4.out hb (fun b hb e=>by have:=Zb e;have:=hb.1;omega));obtain⟨y0,y1,y2,y3,y4⟩:=Zt hE5;obtain⟨fy0,fy1,fy2,fy3,fy4⟩:=Zz hE5;have hlt4:w1.heap.size<w4.heap.size:=hE5.lt;clear hr hb hk hE5 H4 G4 HB4 HS4 HE4 HK4))
         (all_goals go_wp2);all_goals go_roundg k1
         all_goals first
          | omega
          | exact Za (row_rel (v:=v) (ts:=ts) (HX.out _ (by omega)) (by omega) (by omega) HL.out hlt4 (Zd (Nat.lt_of_succ_le HKQ.out)) HR2.out H5.out G5.out HB5.out HS5.out HE5.out HK5.out HEK.out)
  · rw[rowL,if_neg hw] at hR;injection hR with hR
    subst hR;have hw2:well s=false:=by simpa using hw
    go_wp2_with (first
     | (go_at_call 17;(with_reducible refine (ZP _ _ _ _ _ false hw2 H1.out).mono ?_);rintro e w' ⟨rfl,rfl⟩))
    refine bodyPost_ret (results_cell_row rfl _ _ w.heap.size 56 #[.int .i64 e.kind,.int .i64 e.n,.string e.s,.slice pe e.kids.length ce,.int .i64 e.at_] (0,0) _ rfl ?_ Try.underlying56 rfl (by kernel_rfl)) rfl ?_
    · exact ZS HB1.out
    · refine⟨.slice pe e.kids.length ce,rfl,?_,?_,?_⟩
      · exact Kd.R_mono (Kd.R_lower (five_R HK1.out (fun b hb=>by have:=hb.1;omega)) (by omega)) (fun b hb=>by have:=hb.1;omega)
      · refine ZZ ?_ (HX.out _ (Zc _));exact H1.out
      · refine ZY ?_ (Zc _);exact G1.out
end
end RefRow
end Go.Proofs.Ytddmceldglelkaa
