/- Tokens rise, a fault lies within the text: the plain law. -/
import Derived.Test.YtafndkgoeabehaaDoorLexToks
namespace Go.Proofs.YtafndkgoeabehaaDoor.LexRise
open Go Go.RowKit Go.Proofs.YtafndkgoeabehaaDoor.NumPure Go.Proofs.YtafndkgoeabehaaDoor.NumRead Go.Proofs.YtafndkgoeabehaaDoor.LexPure Go.Proofs.YtafndkgoeabehaaDoor.LexGap Go.Proofs.YtafndkgoeabehaaDoor.LexToks

theorem text_cons (b : List UInt8) (i : Nat) (c : UInt8) (r : List UInt8) : text b i (c :: r) = if c = 34 then .tok 3 b 0 (i + 1) else if c = 10 then .bad 7 i else if c = 92 then (match r with | [] => .bad 7 i | d :: r' => match esc d with | none => .bad 7 i | some e => text (b ++ [e]) (i + 2) r') else text (b ++ [c]) (i + 1) r := by
  cases r with
  | nil => rfl
  | cons d r => rfl
theorem text_bad : ∀ (n : Nat) (r : List UInt8), r.length ≤ n → ∀ b i y off, text b i r = .bad y off → y = 7 ∧ off ≤ i + r.length := by
  intro n
  induction n with
  | zero =>
    intro r hr b i y off h
    obtain rfl : r = [] := List.eq_nil_of_length_eq_zero (by omega)
    simp [text] at h
    omega
  | succ n ih =>
    intro r hr b i y off h
    cases r with
    | nil => simp [text] at h; omega
    | cons c r =>
      rw [text_cons] at h
      simp at hr
      split at h
      · cases h
      · split at h
        · injection h with h1 h2
          simp; omega
        · split at h
          · cases r with
            | nil => simp at h; simp; omega
            | cons d r =>
              simp only [] at h
              cases he : esc d with
              | none => rw [he] at h; simp at h; simp; omega
              | some e =>
                rw [he] at h
                simp at hr
                have := ih r (by omega) _ _ _ _ h
                simp; omega
          · have := ih r (by omega) _ _ _ _ h
            simp; omega
theorem token_bad (c : UInt8) (r : List UInt8) (y : Int) (off : Nat) (h : token (c :: r) = .bad y off) : y ≠ 0 ∧ off ≤ (c :: r).length := by
  rw [token_cons] at h
  split at h
  · injection h with h1 h2
    simp; omega
  · split at h
    · cases h
    · split at h
      · have := numLen_bound c r
        unfold number at h
        split at h
        · injection h with h1 h2
          omega
        · split at h
          · cases h
          · rename_i hp
            injection h with h1 h2
            exact ⟨h1 ▸ hp, by omega⟩
      · split at h
        · have := text_bad _ r (Nat.le_refl _) _ _ _ _ h
          simp; omega
        · unfold sign at h
          split at h
          · injection h with h1 h2
            simp; omega
          · cases h

/-- what tokens look like: they rise, and lie below a byte -/
def Rise (l : List T) (n : Nat) : Prop := l.Pairwise (fun a b => a.at_ < b.at_) ∧ ∀ t ∈ l, t.at_ < n
theorem Rise.mono {l : List T} {n m : Nat} (h : Rise l n) (hm : n ≤ m) : Rise l m := ⟨h.1, fun t ht => Nat.lt_of_lt_of_le (h.2 t ht) hm⟩
theorem Rise.snoc {l : List T} {n : Nat} (h : Rise l n) (t : T) (ht : t.at_ = n) : Rise (l ++ [t]) (n + 1) := by
  constructor
  · rw [List.pairwise_append]
    exact ⟨h.1, by simp, fun a ha b hb => by simp at hb; subst hb; rw [ht]; exact h.2 a ha⟩
  · intro u hu
    rw [List.mem_append] at hu
    rcases hu with hu | hu
    · exact Nat.lt_succ_of_lt (h.2 u hu)
    · simp at hu; subst hu; omega
theorem toks_law : ∀ (f p : Nat) (l : List UInt8) (acc : List T), l.length < f → Rise acc p → (((toks f p l acc).2.1 = 0 ∧ (toks f p l acc).2.2 = 0 ∧ Rise (toks f p l acc).1 (p + l.length)) ∨ ((toks f p l acc).2.1 ≠ 0 ∧ (toks f p l acc).1 = [] ∧ 0 ≤ (toks f p l acc).2.2 ∧ (toks f p l acc).2.2 ≤ ((p + l.length : Nat) : Int))) := by
  intro f
  induction f with
  | zero => intro p l acc hf; omega
  | succ f ih =>
    intro p l acc hf hr
    have hg := G_le l
    by_cases hk : (G l).2 = true
    · rw [toks_ok hk]
      cases hd : l.drop (G l).1 with
      | nil =>
        rw [aft_nil]
        exact .inl ⟨rfl, rfl, hr.mono (by omega)⟩
      | cons c r =>
        have hcl : (c :: r).length = l.length - (G l).1 := by rw [← hd, List.length_drop]
        cases ht : token (c :: r) with
        | bad y off =>
          rw [aft_bad ht]
          have := token_bad c r y off ht
          exact .inr ⟨this.1, rfl, by simp only []; omega, by simp only []; omega⟩
        | tok kd tx n len =>
          rw [aft_tok ht]
          have hle := token_le c r _ _ _ _ ht
          have hl2 : ((c :: r).drop len).length = (c :: r).length - len := List.length_drop
          have hr2 := ((hr.mono (Nat.le_add_right p (G l).1)).snoc ⟨kd, tx, n, p + (G l).1⟩ rfl).mono (show p + (G l).1 + 1 ≤ p + (G l).1 + len by omega)
          rcases ih (p + (G l).1 + len) ((c :: r).drop len) _ (by omega) hr2 with ⟨h1, h2, h3⟩ | ⟨h1, h2, h3, h4⟩
          · exact .inl ⟨h1, h2, h3.mono (by omega)⟩
          · exact .inr ⟨h1, h2, h3, by omega⟩
    · rw [toks_bad (by simpa using hk)]
      exact .inr ⟨by simp, rfl, by simp only []; omega, by simp only []; omega⟩
theorem lex_law (l : List UInt8) : ((lex l).2.1 = 0 ∧ (lex l).2.2 = 0 ∧ Rise (lex l).1 l.length) ∨ ((lex l).2.1 ≠ 0 ∧ (lex l).1 = [] ∧ 0 ≤ (lex l).2.2 ∧ (lex l).2.2 ≤ (l.length : Int)) := by
  unfold lex
  split
  · exact .inr ⟨by decide, rfl, by simp, by simp⟩
  · have := toks_law (l.length + 1) 0 l [] (by omega) ⟨List.Pairwise.nil, fun t ht => by cases ht⟩
    simpa using this
end Go.Proofs.YtafndkgoeabehaaDoor.LexRise
