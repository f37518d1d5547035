/- The lexer's reader in memory: its block, the tokens that it owns; fail and add. -/
import Derived.Test.YtafndkgoeabehaaDoorShelf
import Derived.Below
import Derived.Laws.OwnMore
import Derived.Deep.Draws
import Derived.Laws.Rows
import Derived.WalkKit
import Derived.OwnWalk
import Derived.KernelRfl
import Derived.Deep.QuietTactic
import Derived.BigQuiet
import Derived.Deep.RegionHeld3
import Derived.Deep.AppendLies
import Derived.RegionTactic
import Derived.WalkSmall
namespace Go.Proofs.YtafndkgoeabehaaDoor.LexMem
open Go Go.RowKit

/-- a token, as the engine holds it -/
structure Tk where
  kind : Int
  text : List UInt8
  n : Int
  at_ : Int
  deriving DecidableEq
def Tk.cells (t : Tk) : List Value := [.int .i64 t.kind, .string ⟨t.text.toArray⟩, .int .i64 t.n, .int .i64 t.at_]
def cellsOf (l : List Tk) : List Value := l.flatMap Tk.cells
theorem cellsOf_append (l r : List Tk) : cellsOf (l ++ r) = cellsOf l ++ cellsOf r := List.flatMap_append
theorem cellsOf_length (l : List Tk) : (cellsOf l).length = l.length * 4 := by
  induction l with
  | nil => rfl
  | cons t r ih => show (t.cells ++ cellsOf r).length = _; rw [List.length_append, ih]; simp [Tk.cells]; omega

def Blk (w : World) (g : Nat) (t : TypeId) (cs : Array Value) : Prop := w.heap[g]? = some (.cells cs t (0, 0))
section
variable {w w' : World} {g : Nat} {t : TypeId} {cs : Array Value}
theorem Blk.lt (h : Blk w g t cs) : g < w.heap.size := by
  rcases Nat.lt_or_ge g w.heap.size with hlt | hge
  · exact hlt
  · unfold Blk at h; rw [Array.getElem?_eq_none hge] at h; cases h
theorem Blk.cell (h : Blk w g t cs) (i : Nat) : w.cell? ⟨g, i, none⟩ = cs[i]? := cell_of_row w g i cs t (0, 0) h
theorem Blk.frozen (h : Blk w g t cs) (i : Nat) : w.frozen? ⟨g, i, none⟩ = false := by
  unfold Blk at h
  simp [World.frozen?, h]
theorem Blk.new (w : World) (t : TypeId) (cs : Array Value) : Blk (w.alloc (.cells cs t)) w.heap.size t cs := heap_alloc_new w _
theorem Blk.drewN (h : Blk w g t cs) (n : Nat) : Blk (w.drewN n) g t cs := h
theorem Blk.alloc (h : Blk w g t cs) (o : Obj) : Blk (w.alloc o) g t cs := (Below.heap_alloc w o g h.lt).trans h
theorem Blk.set_ (h : Blk w g t cs) (i : Nat) (u : Value) : Blk (w.setCell ⟨g, i, none⟩ u) g t (cs.setIfInBounds i u) := by
  unfold Blk at h ⊢
  simp [World.setCell, Array.getElem?_modify, h]
theorem Blk.far (h : Blk w g t cs) {p : Addr} (hp : g ≠ p.block) (u : Value) : Blk (w.setCell p u) g t cs := (Below.heap_setCell w p u g hp).trans h
theorem Blk.below {B : Nat} (h : Blk w g t cs) (hb : Below B w w') (hg : g < B) : Blk w' g t cs := (hb.block g hg).trans h
theorem Blk.grown {row : Option Nat} (h : Blk w g t cs) (hb : w.grownBy w' row) (hg : some g ≠ row) : Blk w' g t cs := (hb.block g h.lt hg).trans h
theorem Blk.ne_ {g' : Nat} {t' : TypeId} {cs' : Array Value} (h : Blk w g t cs) (h' : Blk w g' t' cs') (hne : t ≠ t') : g ≠ g' := by
  rintro rfl
  unfold Blk at h h'
  rw [h] at h'
  injection h' with h'
  injection h' with _ ht
  exact hne ht
theorem own_blk_ne {base : Nat} {e : TypeId} {size n : Nat} {v : Value} {xs : List Value} (h : w.ownsRow base e size v n xs) (hg : Blk w g t cs) (hne : e ≠ t) : v.ownBlock ≠ some g := by
  rcases h.2 with ⟨rfl, _⟩ | ⟨g', cap, cur, rfl, _, hh, _⟩
  · simp [Value.ownBlock]
  · intro he
    have : g' = g := by simpa [Value.ownBlock] using he
    subst this
    exact Blk.ne_ (t := e) hh hg hne rfl
end

theorem own_below {w w' : World} {base : Nat} {e : TypeId} {size n : Nat} {v : Value} {xs : List Value} (h : w.ownsRow base e size v n xs) (hb : Below w.heap.size w w') : w'.ownsRow base e size v n xs :=
  h.kept (row := none) ⟨hb.os, hb.tape, hb.output, hb.size, fun i hi _ => hb.block i hi⟩ (by cases v.ownBlock with | none => exact .inl rfl | some _ => exact .inr (by simp))
theorem own_set {w : World} {base : Nat} {e : TypeId} {size n : Nat} {v : Value} {xs : List Value} (h : w.ownsRow base e size v n xs) {a : Addr} (ha : v.ownBlock ≠ some a.block) (u : Value) : (w.setCell a u).ownsRow base e size v n xs :=
  h.kept (row := some a.block) ⟨rfl, rfl, rfl, by simp, fun i _ hi => Below.heap_setCell w a u i (fun x => hi (by rw [x]))⟩ (.inr ha)

/-- the reader behind the pointer to block b: the text, where it is, the tokens (a row of its own from B on), the fault -/
def RS (w : World) (B b : Nat) (s : ByteArray) (p : Int) (l : List Tk) (why fat : Int) : Prop :=
  B ≤ b ∧ ∃ v, Blk w b 38 #[.string s, .int .i64 p, v, .int .i64 why, .int .i64 fat] ∧ w.ownsRow B 30 4 v l.length (cellsOf l)

section
variable {w w' : World} {B b : Nat} {s : ByteArray} {p : Int} {l : List Tk} {why fat : Int}
theorem RS.drewN (h : RS w B b s p l why fat) (n : Nat) : RS (w.drewN n) B b s p l why fat := h
theorem RS.lt (h : RS w B b s p l why fat) : b < w.heap.size := by obtain ⟨_, v, hb, _⟩ := h; exact hb.lt
theorem RS.alloc (h : RS w B b s p l why fat) (o : Obj) : RS (w.alloc o) B b s p l why fat := by
  obtain ⟨h0, v, hb, ho⟩ := h
  exact ⟨h0, v, hb.alloc o, ho.alloc o⟩
theorem RS.below (h : RS w B b s p l why fat) (hb : Below w.heap.size w w') : RS w' B b s p l why fat := by
  obtain ⟨h0, v, hk, ho⟩ := h
  exact ⟨h0, v, hk.below hb hk.lt, own_below ho hb⟩
end

theorem RS.set_ {w : World} {B b : Nat} {s : ByteArray} {v : Value} {p why fat : Int} {l : List Tk} {cs : Array Value} (i : Nat) (u : Value) (h0 : B ≤ b) (hb : Blk w b 38 cs) (ho : w.ownsRow B 30 4 v l.length (cellsOf l)) (hc : cs.setIfInBounds i u = #[.string s, .int .i64 p, v, .int .i64 why, .int .i64 fat]) :
    RS (w.setCell ⟨b, i, none⟩ u) B b s p l why fat :=
  ⟨h0, v, hc ▸ hb.set_ i u, own_set ho (a := ⟨b, i, none⟩) (own_blk_ne ho hb (by decide)) u⟩

set_option maxRecDepth 100000 in
theorem fail_any (w : World) (B b : Nat) (s : ByteArray) (p : Int) (l : List Tk) (why fat e a : Int) (h : RS w B b s p l why fat) :
    Calls Tryd.prog 31 #[.pointer (some ⟨b, 0, none⟩), .int .i64 e, .int .i64 a] w fun x w' => x = .returned (.bool false) ∧ RS w' B b s p l e a ∧ Below B w w' := by
  obtain ⟨h0, v, hb, ho⟩ := h
  have c3 := hb.cell 3
  have c4 := hb.cell 4
  have f3 := hb.frozen 3
  have f4 := hb.frozen 4
  have HB := Lib.hid hb
  have HO := Lib.hid ho
  clear hb ho
  simp at c3 c4
  go_enter Tryd.func31, Tryd.ntmps31
  go_wp2
  go_ret
  refine ⟨rfl, ?_, ((Below.refl _ _).setCell (p := ⟨b, 3, none⟩) h0 _).setCell (p := ⟨b, 4, none⟩) h0 _⟩
  exact RS.set_ 4 _ h0 (HB.out.set_ 3 _) (own_set HO.out (a := ⟨b, 3, none⟩) (own_blk_ne HO.out HB.out (by decide)) _) rfl

theorem tokInfo : (Tryd.prog.info? 30).map (fun i => (i.zero, i.size, i.bytes)) = some (some (.agg #[.int .i64 0, .string ByteArray.empty, .int .i64 0, .int .i64 0]), 4, 40) := by kernel_rfl

theorem cells_one (t : Tk) : cellsOf [t] = t.cells := by show t.cells ++ [] = _; rw [List.append_nil]

/-- append of one token, the token in a block of its own: at a step of a region that draws its order -/
theorem step_tok {ops : Array Oper} {o : Oper} {a : Act} {K : Act → World → Prop} {Q : Exit → Act → World → Prop} {E : Prop} (w : World) (s x : Operand) (hgd : o.guard = none)
    (ho : o.op = .call { callee := .builtin .append, args := #[s, x], argTypes := #[22, 22] })
    (B : Nat) (v : Value) (l : List Tk) (hown : w.ownsRow B 30 4 v l.length (cellsOf l)) (g : Nat) (t : Tk) (hs : a.eval s = v) (hx : a.eval x = .slice (some ⟨g, 0, none⟩) 1 1)
    (hg : Blk w g 30 #[.int .i64 t.kind, .string ⟨t.text.toArray⟩, .int .i64 t.n, .int .i64 t.at_]) (hl : l.length ≤ 65536) (hB : B ≤ w.heap.size)
    (b : Nat) (q0 q1 q3 q4 : Value) (hb : Blk w b 38 #[q0, q1, v, q3, q4])
    (h : ∀ gg cap w', Hid (w'.ownsRow B 30 4 (.slice (some ⟨gg, 0, none⟩) (l.length + 1) cap) (l ++ [t]).length (cellsOf (l ++ [t]))) → Hid (Below B w w') → Hid (Blk w' b 38 #[q0, q1, v, q3, q4]) → w'.cell? ⟨b, 1, none⟩ = some q1 → w'.cell? ⟨b, 2, none⟩ = some v → w'.frozen? ⟨b, 1, none⟩ = false → w'.frozen? ⟨b, 2, none⟩ = false → K (a.put o.dst (.slice (some ⟨gg, 0, none⟩) (l.length + 1) cap)) w') :
    if Region.wanted o (yielded ops a.tmps) = true then Oper.wp Tryd.prog o a w K Q else E := by
  obtain ⟨i0, hi0, hz0, hz1, hz2⟩ := info_parts tokInfo
  refine step_append_lies w hgd s x 22 ho B 30 i0 _ 4 40 Tryd.underlying22 hi0 hz0 hz1 hz2 rfl (by decide) v l.length (cellsOf l) hs hown ⟨g, 0, none⟩ 1 1 t.cells hx rfl ?_ ?_ (by decide) (by unfold maxLen; omega) (by omega) hB _ rfl ?_
  · exact World.news_of_block hg
  · intro u hu
    simp [Tk.cells] at hu
    rcases hu with rfl | rfl | rfl | rfl <;> rfl
  · intro gg cap w' h1 h2 _ _
    have hb' : Blk w' b 38 #[q0, q1, v, q3, q4] := hb.grown h2 (fun e => own_blk_ne hown hb (by decide) e.symm)
    refine h gg cap w' ?_ ?_ hb' (hb'.cell 1) (hb'.cell 2) (hb'.frozen 1) (hb'.frozen 2)
    · show w'.ownsRow _ _ _ _ _ _
      rw [cellsOf_append, cells_one, List.length_append]
      exact h1
    · exact (Below.refl _ _).grown h2 hB (fun k hk => (hown.lt k hk).1)

set_option maxRecDepth 100000 in
theorem add_any (w : World) (B b : Nat) (s : ByteArray) (p : Int) (l : List Tk) (why fat : Int) (kd : Int) (tx : ByteArray) (nn a0 n : Int) (h : RS w B b s p l why fat) (hl : l.length ≤ 65536)
    (hp : 0 ≤ p) (hp2 : p ≤ 65536) (hn : 0 ≤ n) (hn2 : n ≤ 65536) (hBw : B ≤ w.heap.size) :
    Calls Tryd.prog 32 #[.pointer (some ⟨b, 0, none⟩), .agg #[.int .i64 kd, .string tx, .int .i64 nn, .int .i64 a0], .int .i64 n] w fun x w' => x = .returned (.bool true) ∧ RS w' B b s (p + n) (l ++ [⟨kd, tx.data.toList, nn, p⟩]) why fat ∧ Below B w w' := by
  obtain ⟨h0, v, hb, ho⟩ := h
  obtain ⟨i0, hi0, hz0, hz1, hz2⟩ := info_parts tokInfo
  have c1 := hb.cell 1
  have c2 := hb.cell 2
  have f1 := hb.frozen 1
  have f2 := hb.frozen 2
  have hlt := hb.lt
  have HB := Lib.hid hb
  have HO := Lib.hid ho
  clear hb ho
  simp at c1 c2
  go_enter Tryd.func32, Tryd.ntmps32
  go_wp2
  -- the world behind the argument's own block, under one name
  have HB1 := Lib.hid (HB.out.alloc (.cells #[.int .i64 kd, .string tx, .int .i64 nn, .int .i64 p] 30))
  have HO1 := Lib.hid (HO.out.alloc (.cells #[.int .i64 kd, .string tx, .int .i64 nn, .int .i64 p] 30))
  have HT := Lib.hid (Blk.new w 30 #[.int .i64 kd, .string tx, .int .i64 nn, .int .i64 p])
  have hs1 : w.heap.size + 1 ≤ (w.alloc (.cells #[.int .i64 kd, .string tx, .int .i64 nn, .int .i64 p] 30)).heap.size := by simp
  have BW := Lib.hid ((Below.refl B w).alloc hBw (.cells #[.int .i64 kd, .string tx, .int .i64 nn, .int .i64 p] 30))
  clear HB HO c1 c2 f1 f2
  generalize hw1 : w.alloc (.cells #[.int .i64 kd, .string tx, .int .i64 nn, .int .i64 p] 30) = w1 at *
  clear hw1
  have c1 := HB1.out.cell 1
  have c2 := HB1.out.cell 2
  have f1 := HB1.out.frozen 1
  have f2 := HB1.out.frozen 2
  have t0 := HT.out.cell 0
  have t1 := HT.out.cell 1
  have t2 := HT.out.cell 2
  have t3 := HT.out.cell 3
  simp at c1 c2 t0 t1 t2 t3
  have hbs := Lib.hid (show B ≤ w1.heap.size by have := hBw; omega)
  have hls := Lib.hid hl
  clear hl hBw hs1
  have hlt1 : b < w1.heap.size := HB1.out.lt
  go_region_law (refine step_tok _ (.tmp 16) (.tmp 18) rfl rfl B v l (HO1.out.alloc _) w1.heap.size ⟨kd, tx.data.toList, nn, p⟩ rfl rfl (Blk.new _ _ _) hls.out (Nat.le_trans hbs.out (Nat.le_of_lt (Blk.new _ _ _).lt)) b _ _ _ _ (HB1.out.alloc _) ?_; intro g cap w2 HO2 BW2 HB2 d1 d2 e1 e2)
  all_goals go_wp2
  all_goals go_ret
  all_goals refine ⟨rfl, ?_, ?_⟩
  all_goals first
    | exact RS.set_ 1 _ h0 (HB2.out.set_ 2 _) (own_set HO2.out (a := ⟨b, 2, none⟩) (own_blk_ne HO2.out HB2.out (by decide)) _) rfl
    | exact (((BW.out.alloc hbs.out _).drew.trans BW2.out).setCell (p := ⟨b, 2, none⟩) h0 _).setCell (p := ⟨b, 1, none⟩) h0 _
    | exact (((BW.out.alloc hbs.out _).trans BW2.out).setCell (p := ⟨b, 2, none⟩) h0 _).setCell (p := ⟨b, 1, none⟩) h0 _
end Go.Proofs.YtafndkgoeabehaaDoor.LexMem
