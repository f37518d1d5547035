/- The tokens of a text: the plain function that the reader's loop follows. -/
import Derived.Test.YtafndkgoeabehaaDoorLexGap
namespace Go.Proofs.YtafndkgoeabehaaDoor.LexToks
open Go Go.RowKit Go.Proofs.YtafndkgoeabehaaDoor.NumPure Go.Proofs.YtafndkgoeabehaaDoor.NumRead Go.Proofs.YtafndkgoeabehaaDoor.LexPure Go.Proofs.YtafndkgoeabehaaDoor.LexGap

theorem run_le (l : List UInt8) : run l ≤ l.length := List.Sublist.length_le (List.takeWhile_sublist dig)
theorem numLen_bound (c : UInt8) (r : List UInt8) : 1 ≤ numLen (c :: r) ∧ numLen (c :: r) ≤ (c :: r).length := by
  have := run_le r
  unfold numLen
  split
  · simp
  · simp; omega
theorem text_le : ∀ (n : Nat) (r : List UInt8), r.length ≤ n → ∀ b i kd tx m len, text b i r = .tok kd tx m len → i + 1 ≤ len ∧ len ≤ i + r.length := by
  intro n
  induction n with
  | zero =>
    intro r hr b i kd tx m len h
    obtain rfl : r = [] := List.eq_nil_of_length_eq_zero (by omega)
    simp [text] at h
  | succ n ih =>
    intro r hr b i kd tx m len h
    cases r with
    | nil => simp [text] at h
    | cons c r =>
      have hc : text b i (c :: r) = if c = 34 then .tok 3 b 0 (i + 1) else if c = 10 then .bad 7 i else if c = 92 then (match r with | [] => .bad 7 i | d :: r' => match esc d with | none => .bad 7 i | some e => text (b ++ [e]) (i + 2) r') else text (b ++ [c]) (i + 1) r := by
        cases r with
        | nil => rfl
        | cons d r => rfl
      rw [hc] at h
      simp at hr
      split at h
      · injection h with _ _ _ h4
        simp; omega
      · split at h
        · cases h
        · split at h
          · cases r with
            | nil => simp at h
            | cons d r =>
              simp only [] at h
              cases he : esc d with
              | none => rw [he] at h; simp at h
              | some e =>
                rw [he] at h
                simp at hr
                have := ih r (by omega) _ _ _ _ _ _ h
                simp; omega
          · have := ih r (by omega) _ _ _ _ _ _ h
            simp; omega
theorem signLen_le (c : UInt8) (r : List UInt8) : signLen (c :: r) ≤ (c :: r).length := by
  have := word_le r
  unfold signLen
  split
  · simp; omega
  · split
    · rename_i h
      cases r with
      | nil => simp [twos] at h
      | cons d r => simp
    · simp only []; split <;> simp
theorem token_cons (c : UInt8) (r : List UInt8) : token (c :: r) = if 64 < name (c :: r) then .bad 2 0 else if 0 < name (c :: r) then .tok 1 ((c :: r).take (name (c :: r))) 0 (name (c :: r)) else if dig c = true then number (c :: r) else if c = 34 then text [] 1 r else sign (c :: r) := rfl
theorem token_le (c : UInt8) (r : List UInt8) (kd : Int) (tx : List UInt8) (m : Int) (len : Nat) (h : token (c :: r) = .tok kd tx m len) : 1 ≤ len ∧ len ≤ (c :: r).length := by
  rw [token_cons] at h
  have h1 := name_le (c :: r)
  split at h
  · cases h
  · split at h
    · injection h with _ _ _ h4
      omega
    · split at h
      · have := numLen_bound c r
        unfold number at h
        split at h
        · cases h
        · split at h
          · injection h with _ _ _ h4
            omega
          · cases h
      · split at h
        · have := text_le _ r (Nat.le_refl _) _ _ _ _ _ _ h
          simp; omega
        · have := signLen_le c r
          unfold sign at h
          split at h
          · cases h
          · injection h with _ _ _ h4
            omega

/-- behind a gap: the tokens from a byte on -/
def aft (f p : Nat) (l : List UInt8) (acc : List T) : List T × Int × Int :=
  match l with
  | [] => (acc, 0, 0)
  | c :: r => match token (c :: r) with
    | .bad why off => ([], why, ((p + off : Nat) : Int))
    | .tok kind tx n len => toks f (p + len) ((c :: r).drop len) (acc ++ [⟨kind, tx, n, p⟩])
theorem toks_ok {f p : Nat} {l : List UInt8} {acc : List T} (h : (G l).2 = true) : toks (f + 1) p l acc = aft f (p + (G l).1) (l.drop (G l).1) acc := by
  unfold G at *
  simp only [toks]
  rw [if_pos h]
  rfl
theorem toks_bad {f p : Nat} {l : List UInt8} {acc : List T} (h : (G l).2 = false) : toks (f + 1) p l acc = ([], 7, ((p + (G l).1 : Nat) : Int)) := by
  unfold G at *
  simp only [toks]
  rw [if_neg (by rw [h]; decide)]
theorem aft_nil (f p : Nat) (acc : List T) : aft f p [] acc = (acc, 0, 0) := rfl
theorem aft_tok {f p : Nat} {c : UInt8} {r : List UInt8} {acc : List T} {kd : Int} {tx : List UInt8} {n : Int} {len : Nat} (h : token (c :: r) = .tok kd tx n len) : aft f p (c :: r) acc = toks f (p + len) ((c :: r).drop len) (acc ++ [⟨kd, tx, n, p⟩]) := by
  unfold aft
  simp only [h]
theorem aft_bad {f p : Nat} {c : UInt8} {r : List UInt8} {acc : List T} {why : Int} {off : Nat} (h : token (c :: r) = .bad why off) : aft f p (c :: r) acc = ([], why, ((p + off : Nat) : Int)) := by
  unfold aft
  simp only [h]
end Go.Proofs.YtafndkgoeabehaaDoor.LexToks
