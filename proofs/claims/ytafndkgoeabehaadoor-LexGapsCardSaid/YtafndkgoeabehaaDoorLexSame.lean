/- The document's Same, at two rows of tokens that are the same: walked. -/
import Derived.Test.YtafndkgoeabehaaDoorLexAlive
import Derived.Test.YtafndkgoeabehaaDoorLexRises
import Derived.Deep.LoopGhost
namespace Go.Proofs.YtafndkgoeabehaaDoor.LexSame
open Go Go.RowKit Go.Proofs.YtafndkgoeabehaaDoor.NumPure Go.Proofs.YtafndkgoeabehaaDoor.LexPure Go.Proofs.YtafndkgoeabehaaDoor.LexMem Go.Proofs.YtafndkgoeabehaaDoor.LexTokens Go.Proofs.YtafndkgoeabehaaDoor.LexAlive Go.Proofs.YtafndkgoeabehaaDoor.LexRises Go.Proofs.YtafndkgoeabehaaDoorW.PrintWords

/-- a value reads as a row of tokens -/
def Row (w : World) (v : Value) (l : List Tk) : Prop := ∃ p cap, v = .slice p l.length cap ∧ ∀ i t, l[i]? = some t → ∃ g, p = some ⟨g, 0, none⟩ ∧ g < w.heap.size ∧ ∀ k, k < 4 → w.cell? ⟨g, i * 4 + k, none⟩ = t.cells[k]?
theorem Row.of_own {w : World} {base : Nat} {v : Value} {l : List Tk} (h : w.ownsRow base 30 4 v l.length (cellsOf l)) : Row w v l := by
  obtain ⟨p, cap, rfl⟩ := row_slice h
  refine ⟨p, cap, rfl, fun i t ht => ?_⟩
  have hi : i < l.length := (List.getElem?_eq_some_iff.1 ht).1
  obtain ⟨g, cap', hv, hg, _, hcell⟩ := row_cells (w2 := w) h (by omega)
  injection hv with hv1 _ hv3
  exact ⟨g, hv1, hg, fun k hk => by rw [hcell _ (by omega), cellsOf_at _ i t ht k hk]⟩
theorem Row.below {w w' : World} {v : Value} {l : List Tk} (h : Row w v l) (hb : Below w.heap.size w w') : Row w' v l := by
  obtain ⟨p, cap, rfl, hc⟩ := h
  refine ⟨p, cap, rfl, fun i t ht => ?_⟩
  obtain ⟨g, hp, hg, hk⟩ := hc i t ht
  exact ⟨g, hp, Nat.lt_of_lt_of_le hg hb.size, fun k hk4 => (hb.cell (p := ⟨g, i * 4 + k, none⟩) hg).trans (hk k hk4)⟩
/-- a token, its place or none -/
def norm (k : Bool) (t : Tk) : Tk := if k then t else { t with at_ := 0 }

set_option maxRecDepth 100000 in
set_option maxHeartbeats 4000000 in
theorem same_any (w : World) (v1 v2 : Value) (l1 l2 : List Tk) (k : Bool) (h1 : Row w v1 l1) (h2 : Row w v2 l2) (hl : l1.length < 140737488351232) (he : l1.map (norm k) = l2.map (norm k)) :
    Calls Tryd.prog 10 #[v1, v2, .bool k] w fun e w' => e = .returned (.bool true) ∧ Below w.heap.size w w' := by
  have hlen : l1.length = l2.length := by have := congrArg List.length he; simpa using this
  have HL := Lib.hid hl
  have HEQ := Lib.hid he
  have H1 := Lib.hid h1
  have H2 := Lib.hid h2
  obtain ⟨p1, cap1, rfl, _⟩ := h1
  obtain ⟨p2, cap2, rfl, _⟩ := h2
  rw [← hlen] at H2 ⊢
  obtain ⟨n, hn⟩ : ∃ n, l1.length = n := ⟨_, rfl⟩
  rw [hn] at H1 H2 ⊢
  have HN := Lib.hid hn
  have HN2 := Lib.hid (hlen ▸ hn : l2.length = n)
  clear hl he hlen hn
  go_enter Tryd.func10, Tryd.ntmps10
  go_wp2
  go_loopg [7] (n + 1) (fun g v7 wr => ∃ i : Nat, v7 = .int .i64 (i : Int) ∧ Hid (i ≤ n ∧ Below w.heap.size w wr ∧ n - i < g))
  case atStart => exact ⟨0, rfl, Lib.hid ⟨Nat.zero_le _, Below.refl _ _, by omega⟩⟩
  case round =>
    obtain ⟨i, rfl, HI⟩ := hrel
    by_cases hi : i < n
    · have hib : decide (i < n) = true := decide_eq_true hi
      obtain ⟨t1, ht1⟩ : ∃ t, l1[i]? = some t := ⟨l1[i]'(by rw [HN.out]; exact hi), by simp⟩
      obtain ⟨t2, ht2⟩ : ∃ t, l2[i]? = some t := ⟨l2[i]'(by rw [HN2.out]; exact hi), by simp⟩
      have heq : norm k t1 = norm k t2 := by
        have := congrArg (fun l => l[i]?) HEQ.out
        simpa [List.getElem?_map, ht1, ht2] using this
      obtain ⟨q1, c1, hv1, hr1⟩ := H1.out.below HI.out.2.1
      obtain ⟨q2, c2, hv2, hr2⟩ := H2.out.below HI.out.2.1
      injection hv1 with hp1 hq1 hc1
      injection hv2 with hp2 hq2 hc2
      clear hq1 hq2
      obtain ⟨g1, hg1, hgl1, hk1⟩ := hr1 i t1 ht1
      obtain ⟨g2, hg2, hgl2, hk2⟩ := hr2 i t2 ht2
      subst hp1 hp2 hc1 hc2
      subst hg1 hg2
      obtain ⟨kd1, tx1, n1, at1⟩ := t1
      obtain ⟨kd2, tx2, n2, at2⟩ := t2
      have d0 : wr.cell? ⟨g1, i * 4, none⟩ = some (.int .i64 kd1) := hk1 0 (by decide)
      have d1 : wr.cell? ⟨g1, i * 4 + 1, none⟩ = some (.string ⟨tx1.toArray⟩) := hk1 1 (by decide)
      have d2 : wr.cell? ⟨g1, i * 4 + 2, none⟩ = some (.int .i64 n1) := hk1 2 (by decide)
      have d3 : wr.cell? ⟨g1, i * 4 + 3, none⟩ = some (.int .i64 at1) := hk1 3 (by decide)
      have e0 : wr.cell? ⟨g2, i * 4, none⟩ = some (.int .i64 kd2) := hk2 0 (by decide)
      have e1 : wr.cell? ⟨g2, i * 4 + 1, none⟩ = some (.string ⟨tx2.toArray⟩) := hk2 1 (by decide)
      have e2 : wr.cell? ⟨g2, i * 4 + 2, none⟩ = some (.int .i64 n2) := hk2 2 (by decide)
      have e3 : wr.cell? ⟨g2, i * 4 + 3, none⟩ = some (.int .i64 at2) := hk2 3 (by decide)
      clear hr1 hr2 hk1 hk2 ht1 ht2
      cases k with
      | true =>
        obtain ⟨rfl, rfl, rfl, rfl⟩ : kd1 = kd2 ∧ tx1 = tx2 ∧ n1 = n2 ∧ at1 = at2 := by simpa [norm] using heq
        clear heq
        go_wp2
        go_region
        all_goals go_wp2
        all_goals go_roundg (n - i)
        case measure => have := HI.out.2.2; omega
        case measure => have := HI.out.2.2; omega
        case rel => exact ⟨i + 1, by rw [wrap_up i (by have := HL.out; have := HN.out; omega)], Lib.hid ⟨hi, (HI.out.2.1.alloc HI.out.2.1.size _).alloc (by have := HI.out.2.1.size; simp; omega) _ |>.drew, by omega⟩⟩
        case rel => exact ⟨i + 1, by rw [wrap_up i (by have := HL.out; have := HN.out; omega)], Lib.hid ⟨hi, (HI.out.2.1.alloc HI.out.2.1.size _).alloc (by have := HI.out.2.1.size; simp; omega) _ |>.drew, by omega⟩⟩
      | false =>
        obtain ⟨rfl, rfl, rfl⟩ : kd1 = kd2 ∧ tx1 = tx2 ∧ n1 = n2 := by simpa [norm] using heq
        clear heq
        go_wp2
        go_region
        all_goals go_wp2
        all_goals go_roundg (n - i)
        case measure => have := HI.out.2.2; omega
        case measure => have := HI.out.2.2; omega
        case rel => exact ⟨i + 1, by rw [wrap_up i (by have := HL.out; have := HN.out; omega)], Lib.hid ⟨hi, (HI.out.2.1.alloc HI.out.2.1.size _).alloc (by have := HI.out.2.1.size; simp; omega) _ |>.drew, by omega⟩⟩
        case rel => exact ⟨i + 1, by rw [wrap_up i (by have := HL.out; have := HN.out; omega)], Lib.hid ⟨hi, (HI.out.2.1.alloc HI.out.2.1.size _).alloc (by have := HI.out.2.1.size; simp; omega) _ |>.drew, by omega⟩⟩
    · have hib : decide (i < n) = false := decide_eq_false hi
      go_wp2
      go_ret
      exact ⟨rfl, HI.out.2.1⟩
end Go.Proofs.YtafndkgoeabehaaDoor.LexSame
