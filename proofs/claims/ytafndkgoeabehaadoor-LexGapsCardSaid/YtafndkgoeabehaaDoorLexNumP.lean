/- Numbers: how far the digits go. -/
import Derived.Test.YtafndkgoeabehaaDoorLexPure
namespace Go.Proofs.YtafndkgoeabehaaDoor.LexNumP
open Go Go.RowKit Go.Proofs.YtafndkgoeabehaaDoor.NumRead Go.Proofs.YtafndkgoeabehaaDoor.LexPure

theorem run_nil : run [] = 0 := rfl
theorem run_cons (c : UInt8) (r : List UInt8) : run (c :: r) = if dig c = true then run r + 1 else 0 := by
  unfold run
  rw [List.takeWhile_cons]
  split <;> simp
theorem run_le (l : List UInt8) : run l ≤ l.length := by
  induction l with
  | nil => simp [run_nil]
  | cons c r ih => rw [run_cons]; split <;> simp; omega
theorem run_at : ∀ (l : List UInt8) (n : Nat), n ≤ run l → (n < run l ↔ ∃ d, l[n]? = some d ∧ dig d = true) := by
  intro l
  induction l with
  | nil => intro n h; simp [run_nil]
  | cons c r ih =>
    intro n h
    rw [run_cons] at h ⊢
    by_cases hc : dig c = true
    · rw [if_pos hc] at h ⊢
      cases n with
      | zero => exact ⟨fun _ => ⟨c, rfl, hc⟩, fun _ => by omega⟩
      | succ n =>
        rw [List.getElem?_cons_succ, ← ih n (by omega)]
        omega
    · rw [if_neg hc] at h ⊢
      obtain rfl : n = 0 := by omega
      refine ⟨fun h => absurd h (by omega), ?_⟩
      rintro ⟨d, h1, h2⟩
      simp at h1
      rw [h1] at hc
      exact absurd h2 hc

theorem numLen_le (c : UInt8) (r : List UInt8) : 1 ≤ numLen (c :: r) ∧ numLen (c :: r) ≤ (c :: r).length := by
  unfold numLen
  split
  · simp
  · have := run_le r
    rw [List.tail_cons, List.length_cons]; omega
theorem numLen_zero (r : List UInt8) : numLen (48 :: r) = 1 := rfl
theorem numLen_at (c : UInt8) (r : List UInt8) (hc : c ≠ 48) (n : Nat) (h1 : 1 ≤ n) (h2 : n ≤ numLen (c :: r)) : n < numLen (c :: r) ↔ ∃ d, (c :: r)[n]? = some d ∧ dig d = true := by
  unfold numLen at h2 ⊢
  rw [if_neg (by simpa using hc), List.tail_cons] at h2 ⊢
  obtain ⟨k, rfl⟩ : ∃ k, n = k + 1 := ⟨n - 1, by omega⟩
  rw [List.getElem?_cons_succ, ← run_at r k (by omega)]
  omega
/-- all bytes of a number are digits -/
theorem take_run : ∀ (l : List UInt8), (l.take (run l)).all dig = true := by
  intro l
  induction l with
  | nil => rfl
  | cons c r ih =>
    rw [run_cons]
    by_cases hc : dig c = true
    · rw [if_pos hc, List.take_succ_cons, List.all_cons, hc, ih]; rfl
    · rw [if_neg hc]; rfl
end Go.Proofs.YtafndkgoeabehaaDoor.LexNumP
