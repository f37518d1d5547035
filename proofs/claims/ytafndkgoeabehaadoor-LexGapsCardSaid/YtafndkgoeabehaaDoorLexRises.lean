/- LexRises: walked. -/
import Derived.Test.YtafndkgoeabehaaDoorLexAlive
import Derived.Test.YtafndkgoeabehaaDoorLexRise
import Derived.Deep.LoopGhost
namespace Go.Proofs.YtafndkgoeabehaaDoor.LexRises
open Go Go.RowKit Go.Proofs.YtafndkgoeabehaaDoor.NumPure Go.Proofs.YtafndkgoeabehaaDoor.NumRead Go.Proofs.YtafndkgoeabehaaDoor.NumParse Go.Proofs.YtafndkgoeabehaaDoor.LexPure Go.Proofs.YtafndkgoeabehaaDoor.LexGap Go.Proofs.YtafndkgoeabehaaDoor.LexMem Go.Proofs.YtafndkgoeabehaaDoor.LexWord Go.Proofs.YtafndkgoeabehaaDoor.LexGaps Go.Proofs.YtafndkgoeabehaaDoor.LexTook Go.Proofs.YtafndkgoeabehaaDoor.LexNumber Go.Proofs.YtafndkgoeabehaaDoor.LexToken Go.Proofs.YtafndkgoeabehaaDoor.LexToks Go.Proofs.YtafndkgoeabehaaDoor.LexTokens Go.Proofs.YtafndkgoeabehaaDoor.LexAlive Go.Proofs.YtafndkgoeabehaaDoor.LexRise Go.Proofs.YtafndkgoeabehaaDoorW.PrintWords

/-- a row of tokens: its value is a slice of that length -/
theorem row_slice {w : World} {base n : Nat} {v : Value} {l : List Tk} (h : w.ownsRow base 30 4 v n (cellsOf l)) : ∃ p cap, v = .slice p n cap := by
  obtain ⟨_, ⟨rfl, rfl⟩ | ⟨g, cap, cur, rfl, _⟩⟩ := h
  · exact ⟨_, _, rfl⟩
  · exact ⟨_, _, rfl⟩
theorem rise_len (l : List T) (n : Nat) : ∀ k, l.Pairwise (fun a b => a.at_ < b.at_) → (∀ t ∈ l, k ≤ t.at_ ∧ t.at_ < n) → l.length ≤ n - k := by
  induction l with
  | nil => intro k _ _; simp
  | cons t r ih =>
    intro k hp ha
    rw [List.pairwise_cons] at hp
    have h1 := ha t (List.mem_cons_self ..)
    have := ih (t.at_ + 1) hp.2 (fun u hu => ⟨hp.1 u hu, (ha u (List.mem_cons_of_mem _ hu)).2⟩)
    simp
    omega
theorem wrap_up (i : Nat) (h : (i : Int) + 1 ≤ 140737488351232) : wrap64 ((i : Int) + 1) = ((i + 1 : Nat) : Int) := by
  unfold wrap64
  omega
theorem cellsOf_at (l : List Tk) (i : Nat) (t : Tk) (h : l[i]? = some t) (k : Nat) (hk : k < 4) : (cellsOf l)[i * 4 + k]? = t.cells[k]? := by
  induction l generalizing i with
  | nil => simp at h
  | cons u r ih =>
    have e : cellsOf (u :: r) = u.cells ++ cellsOf r := rfl
    rw [e]
    cases i with
    | zero =>
      simp at h
      subst h
      rw [List.getElem?_append_left (by simp [Tk.cells]; omega)]
      simp
    | succ i =>
      rw [List.getElem?_append_right (by simp [Tk.cells]; omega)]
      have e2 : (i + 1) * 4 + k - u.cells.length = i * 4 + k := by simp [Tk.cells]; omega
      rw [e2]
      exact ih i (by simpa using h)
theorem alive_later (w : World) (hB : 2 < w.heap.size) (hM : MaxVar w) (he : ErrVar w) :
    ∀ w2, Below w.heap.size w w2 → Calls Tryd.prog 9 #[] w2 fun e w' => e = .returned (.bool true) ∧ Below w2.heap.size w2 w' :=
  fun w2 hb => alive_any w2 (Nat.lt_of_lt_of_le hB hb.size) (max_below hb (by omega) hM) (err_belowB hb hB he)

set_option maxRecDepth 100000 in
set_option maxHeartbeats 4000000 in
theorem rises_any (s : ByteArray) (w : World) (hs : s.size ≤ 140737488351232) (hB : 2 < w.heap.size) (hM : MaxVar w) (he : ErrVar w) :
    Calls Tryd.prog 3 #[.string s] w fun e w' => e = .returned (.bool true) ∧ Below w.heap.size w w' := by
  have hlaw := lex_law s.data.toList
  rw [← Lib.size_eq] at hlaw
  have HAL := Lib.hid (alive_later w hB hM he)
  have hT := tokens_later w s hs hB hM he w (Below.refl _ _)
  obtain ⟨l, y, a, hL⟩ : ∃ l y a, lex s.data.toList = (l, y, a) := ⟨_, _, _, rfl⟩
  rw [hL] at hT hlaw
  simp only [] at hT hlaw
  have HA := Lib.hid hT
  clear hT hL hB hM he
  rcases hlaw with ⟨rfl, rfl, hr⟩ | ⟨hy, rfl, ha0, ha1⟩
  · have HRI := Lib.hid hr
    clear hr
    go_enter Tryd.func3, Tryd.ntmps3
    go_wp2_with
     (go_at_call 8; (with_reducible refine HA.out.mono ?_); rintro e w1 ⟨v, rfl, ho, hb1⟩
      have HO := Lib.hid ho
      obtain ⟨p, cap, rfl⟩ := row_slice ho
      have HB1 := Lib.hid hb1
      clear ho hb1 HA)
    have HB2 := Lib.hid ((Below.refl w1.heap.size w1).alloc (Nat.le_refl _) (.cells #[.int .i64 0, .int .i64 0] 25))
    go_loopg [5, 36] (l.length + 1) (fun g v5 v36 wr => ∃ (i : Nat) (at_ : Int), v5 = .int .i64 at_ ∧ v36 = .int .i64 (i : Int) ∧ Hid (i ≤ l.length ∧ (∀ j t, i ≤ j → l[j]? = some t → at_ < (t.at_ : Int)) ∧ Below w1.heap.size w1 wr ∧ l.length - i < g))
    case atStart => exact ⟨0, -1, rfl, rfl, Lib.hid ⟨Nat.zero_le _, fun j t _ _ => by omega, HB2.out, by omega⟩⟩
    case round =>
      obtain ⟨i, at_, rfl, rfl, HI⟩ := hrel
      clear HB2
      by_cases hi : i < l.length
      · obtain ⟨t, ht⟩ : ∃ t, l[i]? = some t := ⟨l[i], by simp⟩
        have hib : decide (i < l.length) = true := decide_eq_true hi
        obtain ⟨g, cap', hv, hg, _, hcell⟩ := row_cells (w2 := w) HO.out (by omega)
        injection hv with hv1 _ hv3
        subst hv1 hv3
        have hat : at_ < (t.at_ : Int) := HI.out.2.1 i t (Nat.le_refl _) ht
        have hts : (t.at_ : Int) < (s.size : Int) := by have := HRI.out.2 t (List.mem_of_getElem? ht); omega
        have hc : ∀ k, k < 4 → wr.cell? ⟨g, i * 4 + k, none⟩ = (tk t).cells[k]? := fun k hk => by
          rw [HI.out.2.2.1.cell (p := ⟨g, i * 4 + k, none⟩) hg, hcell _ (by omega), cellsOf_at _ i (tk t) (by rw [List.getElem?_map, ht]; rfl) k hk]
        have d0 : wr.cell? ⟨g, i * 4, none⟩ = some (.int .i64 t.kind) := hc 0 (by decide)
        have d1 : wr.cell? ⟨g, i * 4 + 1, none⟩ = some (.string ⟨t.text.toArray⟩) := hc 1 (by decide)
        have d2 : wr.cell? ⟨g, i * 4 + 2, none⟩ = some (.int .i64 t.n) := hc 2 (by decide)
        have d3 : wr.cell? ⟨g, i * 4 + 3, none⟩ = some (.int .i64 (t.at_ : Int)) := hc 3 (by decide)
        have HT := Lib.hid ht
        clear hc hcell ht
        go_wp2
        go_roundg (l.length - i)
        case measure => have := HI.out.2.2.2; omega
        case rel =>
          have hl63 := rise_len l s.size 0 HRI.out.1 (fun t ht => ⟨Nat.zero_le _, HRI.out.2 t ht⟩)
          have hi63 : (i : Int) + 1 ≤ 140737488351232 := by omega
          refine ⟨i + 1, t.at_, rfl, by rw [wrap_up i hi63], Lib.hid ⟨hi, fun j u hj hu => ?_, HI.out.2.2.1.alloc HI.out.2.2.1.size _, by omega⟩⟩
          have := List.pairwise_iff_getElem.1 HRI.out.1 i j hi (List.getElem?_eq_some_iff.1 hu).1 (by omega)
          rw [(List.getElem?_eq_some_iff.1 HT.out).2, (List.getElem?_eq_some_iff.1 hu).2] at this
          omega
      · have hib : decide (i < l.length) = false := decide_eq_false hi
        have hbl := HI.out.2.2.1
        have HBL := Lib.hid hbl
        clear hbl hi
        go_wp2_with (go_at_call 9; (with_reducible refine (HAL.out _ ?bel).mono ?_); (case bel => exact HB1.out.trans (HBL.out.mono HB1.out.size)); rintro e w2 ⟨rfl, hb2⟩)
        go_ret
        exact ⟨rfl, (HB1.out.trans (HBL.out.mono HB1.out.size)).trans (hb2.mono (Nat.le_trans HB1.out.size HBL.out.size))⟩
  · have hyb : (y == 0) = false := beq_eq_false_iff_ne.mpr hy
    have ha0b : decide (0 ≤ a) = true := decide_eq_true ha0
    have ha1b : decide (a ≤ (s.size : Int)) = true := decide_eq_true ha1
    clear ha0 ha1
    go_enter Tryd.func3, Tryd.ntmps3
    go_wp2_with (first
     | (go_at_call 8; (with_reducible refine HA.out.mono ?_); rintro e w1 ⟨v, rfl, ho, hb1⟩
        obtain ⟨p, cap, rfl⟩ := row_slice ho
        have HB1 := Lib.hid hb1
        clear ho hb1 HA)
     | (go_at_call 9; (with_reducible refine (HAL.out _ ?bel).mono ?_); (case bel => exact HB1.out.alloc HB1.out.size _); rintro e w2 ⟨rfl, hb2⟩))
    go_ret
    exact ⟨rfl, (HB1.out.alloc HB1.out.size _).trans (hb2.mono (Nat.le_trans HB1.out.size (by simp)))⟩
end Go.Proofs.YtafndkgoeabehaaDoor.LexRises
