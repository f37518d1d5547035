/- Gaps: the plain words in the library's. -/
import Derived.Test.YtafndkgoeabehaaDoorLexPure
namespace Go.Proofs.YtafndkgoeabehaaDoor.LexGap
open Go Go.RowKit Go.Proofs.YtafndkgoeabehaaDoor.LexPure

theorem gaps_rounds : ∀ (f g : Nat) (l : List UInt8), l.length ≤ f → l.length ≤ g → gaps f l = gaps g l := by
  intro f
  induction f with
  | zero =>
    intro g l hf hg
    obtain rfl : l = [] := List.eq_nil_of_length_eq_zero (by omega)
    cases g with
    | zero => rfl
    | succ g => simp [gaps, gap1]
  | succ f ih =>
    intro g l hf hg
    cases g with
    | zero =>
      obtain rfl : l = [] := List.eq_nil_of_length_eq_zero (by omega)
      simp [gaps, gap1]
    | succ g =>
      have h1 := gap1_le l
      simp only [gaps]
      by_cases h0 : gap1 l = 0
      · rw [if_pos h0, if_pos h0]
      · by_cases h2 : gap1 l < 0
        · rw [if_neg h0, if_neg h0, if_pos h2, if_pos h2]
        · have hl : (l.drop (gap1 l).toNat).length ≤ l.length - 1 := by rw [List.length_drop]; omega
          rw [ih g (l.drop (gap1 l).toNat) (by omega) (by omega)]

/-- the gaps at a text's begin: their length; do they end? -/
def G (l : List UInt8) : Nat × Bool := gaps l.length l
theorem G_le (l : List UInt8) : (G l).1 ≤ l.length := gaps_le _ l
theorem G_none {l : List UInt8} (h : gap1 l = 0) : G l = (0, true) := by
  unfold G
  cases hl : l.length with
  | zero => rfl
  | succ f => simp only [gaps]; rw [if_pos h]
theorem G_open {l : List UInt8} (h : gap1 l < 0) : G l = (0, false) := by
  unfold G
  cases hl : l.length with
  | zero => obtain rfl : l = [] := List.eq_nil_of_length_eq_zero hl
            simp [gap1] at h
  | succ f => simp only [gaps]; rw [if_neg (by omega), if_pos h]
theorem G_some {l : List UInt8} {n : Nat} (h : gap1 l = n) (hn : 0 < n) : G l = (n + (G (l.drop n)).1, (G (l.drop n)).2) := by
  have h1 := gap1_le l
  unfold G
  cases hl : l.length with
  | zero => omega
  | succ f =>
    have hd : (l.drop n).length ≤ f := by rw [List.length_drop]; omega
    simp only [gaps]
    rw [if_neg (by omega), if_neg (by omega), h, Int.toNat_natCast, gaps_rounds f (l.drop n).length (l.drop n) hd (Nat.le_refl _)]

theorem blank_index (c : UInt8) : decide (0 ≤ Lib.indexByte [32, 9, 10, 13] c) = LexPure.blank c := by
  have h : ∀ n : Fin 256, decide (0 ≤ Lib.indexByte [32, 9, 10, 13] (UInt8.ofNat n.val)) = LexPure.blank (UInt8.ofNat n.val) := by decide +kernel
  have := h ⟨c.toNat, c.toNat_lt⟩
  simpa using this

theorem eol_index (l : List UInt8) : (Lib.indexByte l 10 < 0 → eol l = l.length) ∧ (¬ Lib.indexByte l 10 < 0 → Lib.indexByte l 10 = eol l) := by
  induction l with
  | nil => simp [Lib.indexByte, eol]
  | cons c r ih =>
    unfold Lib.indexByte eol
    have hg := Lib.indexByte_ge r 10
    by_cases hc : c = 10
    · subst hc; simp
    · rw [if_neg (by simpa using hc), if_neg hc]
      by_cases h1 : Lib.indexByte r 10 = -1
      · have : (Lib.indexByte r 10 == -1) = true := by rw [h1]; rfl
        rw [if_pos this]
        have := ih.1 (by omega)
        simp [this]
      · have : ¬ (Lib.indexByte r 10 == -1) = true := by simpa using h1
        rw [if_neg this]
        have := ih.2 (by omega)
        constructor
        · intro; omega
        · intro; push_cast; omega

theorem close_index (l : List UInt8) : (Lib.index l [42, 47] < 0 → close l = none) ∧ (¬ Lib.index l [42, 47] < 0 → ∃ n : Nat, Lib.index l [42, 47] = n ∧ close l = some (n + 2)) := by
  induction l with
  | nil => simp [Lib.index, close]
  | cons c r ih =>
    unfold Lib.index close
    have hg := Lib.index_ge r [42, 47]
    by_cases hp : [42, 47].isPrefixOf (c :: r) = true
    · rw [if_pos hp, if_pos hp]
      exact ⟨fun h => absurd h (by omega), fun _ => ⟨0, rfl, rfl⟩⟩
    · rw [if_neg hp, if_neg hp]
      by_cases h1 : Lib.index r [42, 47] = -1
      · have : (Lib.index r [42, 47] == -1) = true := by rw [h1]; rfl
        rw [if_pos this]
        refine ⟨fun _ => by rw [ih.1 (by omega)]; rfl, fun h => absurd h (by omega)⟩
      · have : ¬ (Lib.index r [42, 47] == -1) = true := by simpa using h1
        rw [if_neg this]
        obtain ⟨n, h2, h3⟩ := ih.2 (by omega)
        refine ⟨fun h => absurd h (by omega), fun _ => ⟨n + 1, by rw [h2]; push_cast; rfl, by rw [h3]; rfl⟩⟩
end Go.Proofs.YtafndkgoeabehaaDoor.LexGap
