/- The document's Word and Name come to the plain words. -/
import Derived.Test.YtafndkgoeabehaaDoorLexWord
import Derived.Lib.Hide
import Derived.Test.YtafndkgoeabehaaDoorPWordx1
import Derived.Test.YtafndkgoeabehaaDoorPNamex1
namespace Go.Proofs.YtafndkgoeabehaaDoor.LexRefName
open Go Go.RowKit Go.Proofs.YtafndkgoeabehaaDoor.NumPure Go.Proofs.YtafndkgoeabehaaDoor.NumRead Go.Proofs.YtafndkgoeabehaaDoor.LexPure Go.Proofs.YtafndkgoeabehaaDoor.LexWord Go.Proofs.YtafndkgoeabehaaDoorW.PrintWords Go.Proofs.YtafndkgoeabehaaDoorW.PrintLast

theorem up1 (a b m : Nat) (hm : m ≤ 140737488351232) (h : a + b ≤ m + 1) : wrap64 ((a : Int) + (b : Int)) = ((a + b : Nat) : Int) := by
  rw [wrap_in (by unfold In; omega)]
  omega
theorem up0 (n m : Nat) (hm : m ≤ 140737488351232) (h : n ≤ m) : wrap64 ((0 : Int) + (n : Int)) = (n : Int) := by
  have := up1 0 n m hm (by omega)
  rw [Nat.zero_add] at this
  exact this
theorem up2 (a b m : Nat) (hm : m ≤ 140737488351232) (h : a + 1 + b ≤ m) : wrap64 ((a : Int) + wrap64 (1 + (b : Int))) = ((a + (1 + b) : Nat) : Int) := by
  have e := up1 1 b m hm (by omega)
  rw [show ((1 : Nat) : Int) = 1 from rfl] at e
  rw [e]
  exact up1 a (1 + b) m hm (by omega)

namespace PWordIs
open Go.Proofs.YtafndkgoeabehaaDoor.PWord
theorem letter_is (c : UInt8) : vestryref03_Letter.f (c.toNat : Int) = some (letter c) := LexWord.letter_is c
theorem digit_is (c : UInt8) : vestryref03_Digit.f (c.toNat : Int) = some (dig c) := LexWord.digit_is c
theorem word_l0 (s : ByteArray) (hs : s.size ≤ 140737488351232) (b : Nat) : ∀ (r : List UInt8) (i k : Nat), b + i ≤ s.size → s.data.toList.drop (b + i) = r → r.length < k →
    vestryref08_word.l0 k s b i = some ((i + wd (decide (0 < i)) r : Nat) : Int) := by
  intro r
  have hz : s.size = s.data.toList.length := Lib.size_eq s
  induction r with
  | nil =>
    intro i k hb h hk
    have hi : s.size ≤ b + i := by rw [hz]; exact List.drop_eq_nil_iff.1 h
    obtain ⟨k, rfl⟩ : ∃ j, k = j + 1 := ⟨k - 1, by simp at hk; omega⟩
    rw [vestryref08_word.l0, up1 b i s.size hs (by omega), if_neg (by omega)]
    simp [wd]
  | cons c r ih =>
    intro i k hb h hk
    obtain ⟨h1, h2, h3⟩ := bt_of s (b + i) c r h
    have hw := Lib.hid (up1 i 1 s.size hs (by omega))
    obtain ⟨k, rfl⟩ : ∃ j, k = j + 1 := ⟨k - 1, by simp at hk; omega⟩
    have ih1 := ih (i + 1) k (by omega) (by rw [← Nat.add_assoc]; exact h3) (by simp at hk; omega)
    rw [decide_eq_true (show 0 < i + 1 by omega)] at ih1
    rw [vestryref08_word.l0, up1 b i s.size hs (by omega), if_pos h2, if_pos (by omega), h1, letter_is]
    simp only [Option.bind_some]
    unfold wd inWord
    by_cases hl : letter c = true
    · rw [if_pos hl, show ((i : Int) + 1) = ((i : Int) + ((1 : Nat) : Int)) from rfl, hw.out, ih1, hl]
      simp; omega
    · rw [if_neg hl]
      have hl' : letter c = false := by simpa using hl
      rw [hl', digit_is]
      simp only [Option.bind_some]
      by_cases h0 : 0 < i
      · rw [if_pos (by omega), decide_eq_true h0]
        by_cases hd : dig c = true
        · rw [if_pos hd, show ((i : Int) + 1) = ((i : Int) + ((1 : Nat) : Int)) from rfl, hw.out, ih1, hd]
          simp; omega
        · rw [if_neg hd]
          have hd' : dig c = false := by simpa using hd
          rw [hd']
          simp
      · rw [if_neg (by omega), decide_eq_false h0]
        simp
theorem word_f (s : ByteArray) (hs : s.size ≤ 140737488351232) (b k : Nat) (hb : b ≤ s.size) (hk : s.size - b < k) : vestryref08_word.f k s b = some ((word (s.data.toList.drop b) : Nat) : Int) := by
  have := word_l0 s hs b (s.data.toList.drop b) 0 k (by omega) rfl (by rw [List.length_drop, ← Lib.size_eq]; exact hk)
  unfold vestryref08_word.f
  rw [Nat.zero_add] at this
  exact this

theorem Word_f (s : ByteArray) (hs : s.size ≤ 140737488351232) : vestryref08_Word.f (s.size + 1) s = some (LexPure.Word s.data.toList) := by
  have hz : s.size = s.data.toList.length := Lib.size_eq s
  have hl : s.toList = s.data.toList := Lib.toList_data s
  have hw := word_f s hs 0 (s.size + 1) (Nat.zero_le _) (by omega)
  rw [List.drop_zero] at hw
  unfold vestryref08_Word.f LexPure.Word
  rw [hl]
  by_cases h0 : s.data.toList = []
  · rw [if_pos h0, h0]; rfl
  · rw [if_neg h0, show ((0 : Int)) = ((0 : Nat) : Int) from rfl, hw]
    simp only [Option.bind_some]
    rw [decide_eq_true (show s.data.toList ≠ [] from h0), hz]
    by_cases h1 : word s.data.toList = s.data.toList.length
    · rw [if_pos (by omega), decide_eq_true h1]
      simp
      omega
    · rw [if_neg (by omega), decide_eq_false h1]
      simp
theorem ref_Word (s : ByteArray) (hs : s.size ≤ 140737488351232) (w : World) : Calls Tryd.prog 13 #[.string s] w fun e w' => e = .returned (.bool (LexPure.Word s.data.toList)) ∧ Drawn0 w w' :=
  vestryref08_Word.calls _ s _ w (Word_f s hs)
end PWordIs

namespace PNameIs
open Go.Proofs.YtafndkgoeabehaaDoor.PName
theorem letter_is (c : UInt8) : vestryref03_Letter.f (c.toNat : Int) = some (letter c) := LexWord.letter_is c
theorem digit_is (c : UInt8) : vestryref03_Digit.f (c.toNat : Int) = some (dig c) := LexWord.digit_is c
theorem word_l0 (s : ByteArray) (hs : s.size ≤ 140737488351232) (b : Nat) : ∀ (r : List UInt8) (i k : Nat), b + i ≤ s.size → s.data.toList.drop (b + i) = r → r.length < k →
    vestryref08_word.l0 k s b i = some ((i + wd (decide (0 < i)) r : Nat) : Int) := by
  intro r
  have hz : s.size = s.data.toList.length := Lib.size_eq s
  induction r with
  | nil =>
    intro i k hb h hk
    have hi : s.size ≤ b + i := by rw [hz]; exact List.drop_eq_nil_iff.1 h
    obtain ⟨k, rfl⟩ : ∃ j, k = j + 1 := ⟨k - 1, by simp at hk; omega⟩
    rw [vestryref08_word.l0, up1 b i s.size hs (by omega), if_neg (by omega)]
    simp [wd]
  | cons c r ih =>
    intro i k hb h hk
    obtain ⟨h1, h2, h3⟩ := bt_of s (b + i) c r h
    have hw := Lib.hid (up1 i 1 s.size hs (by omega))
    obtain ⟨k, rfl⟩ : ∃ j, k = j + 1 := ⟨k - 1, by simp at hk; omega⟩
    have ih1 := ih (i + 1) k (by omega) (by rw [← Nat.add_assoc]; exact h3) (by simp at hk; omega)
    rw [decide_eq_true (show 0 < i + 1 by omega)] at ih1
    rw [vestryref08_word.l0, up1 b i s.size hs (by omega), if_pos h2, if_pos (by omega), h1, letter_is]
    simp only [Option.bind_some]
    unfold wd inWord
    by_cases hl : letter c = true
    · rw [if_pos hl, show ((i : Int) + 1) = ((i : Int) + ((1 : Nat) : Int)) from rfl, hw.out, ih1, hl]
      simp; omega
    · rw [if_neg hl]
      have hl' : letter c = false := by simpa using hl
      rw [hl', digit_is]
      simp only [Option.bind_some]
      by_cases h0 : 0 < i
      · rw [if_pos (by omega), decide_eq_true h0]
        by_cases hd : dig c = true
        · rw [if_pos hd, show ((i : Int) + 1) = ((i : Int) + ((1 : Nat) : Int)) from rfl, hw.out, ih1, hd]
          simp; omega
        · rw [if_neg hd]
          have hd' : dig c = false := by simpa using hd
          rw [hd']
          simp
      · rw [if_neg (by omega), decide_eq_false h0]
        simp
theorem word_f (s : ByteArray) (hs : s.size ≤ 140737488351232) (b k : Nat) (hb : b ≤ s.size) (hk : s.size - b < k) : vestryref08_word.f k s b = some ((word (s.data.toList.drop b) : Nat) : Int) := by
  have := word_l0 s hs b (s.data.toList.drop b) 0 k (by omega) rfl (by rw [List.length_drop, ← Lib.size_eq]; exact hk)
  unfold vestryref08_word.f
  rw [Nat.zero_add] at this
  exact this

theorem at_f (s : ByteArray) (hs : s.size ≤ 140737488351232) (i : Nat) (hi : i ≤ s.size) : vestryref08_at.f s i ⟨#[46]⟩ = some (match s.data.toList.drop i with | [] => false | c :: _ => c == 46) := by
  have hz : s.size = s.data.toList.length := Lib.size_eq s
  unfold vestryref08_at.f
  rw [show ((⟨#[46]⟩ : ByteArray).size : Int) = ((1 : Nat) : Int) from rfl, up1 i 1 s.size hs (by omega)]
  cases hd : s.data.toList.drop i with
  | nil =>
    have : s.size ≤ i := by rw [hz]; exact List.drop_eq_nil_iff.1 hd
    rw [if_neg (by omega)]
  | cons c r =>
    obtain ⟨_, h2, _⟩ := bt_of s i c r hd
    rw [if_pos (by omega), if_pos (by omega), if_pos (by omega)]
    simp only [Int.toNat_natCast]
    have e : (s.extract i (i + 1)).toList = [c] := by
      rw [Lib.toList_data, Lib.extract_data, hd]
      simp
    rw [e]
    have e2 : (⟨#[46]⟩ : ByteArray).toList = [46] := by rw [Lib.toList_data]
    rw [e2]
    simp
theorem name_l0 (s : ByteArray) (hs : s.size ≤ 140737488351232) : ∀ (f : Nat) (l : List UInt8) (n k : Nat), 0 < n → n ≤ s.size → s.data.toList.drop n = l → l.length ≤ f → l.length + 1 < k →
    vestryref08_name.l0 k s 0 n = some ((n + more f l : Nat) : Int) := by
  intro f
  have hz : s.size = s.data.toList.length := Lib.size_eq s
  induction f with
  | zero =>
    intro l n k hn hns h hf hk
    obtain rfl : l = [] := List.eq_nil_of_length_eq_zero (by omega)
    obtain ⟨k, rfl⟩ : ∃ j, k = j + 1 := ⟨k - 1, by omega⟩
    rw [vestryref08_name.l0, if_pos (by omega), up0 n s.size hs hns, at_f s hs n hns, h]
    simp [more]
  | succ f ih =>
    intro l n k hn hns h hf hk
    obtain ⟨k, rfl⟩ : ∃ j, k = j + 1 := ⟨k - 1, by omega⟩
    rw [vestryref08_name.l0, if_pos (by omega), up0 n s.size hs hns, at_f s hs n hns, h]
    cases l with
    | nil => simp [more]
    | cons c r =>
      obtain ⟨_, h2, h3⟩ := bt_of s n c r h
      have hlr : r.length = s.size - (n + 1) := by rw [← h3, List.length_drop, hz]
      have hwf := word_f s hs (n + 1) k (by omega) (by simp at hk; omega)
      rw [h3] at hwf
      simp only [Option.bind_some]
      unfold more
      by_cases hc : c = 46
      · rw [if_pos (by rw [hc]; rfl), show ((n : Int) + 1) = ((n : Int) + ((1 : Nat) : Int)) from rfl, up1 n 1 s.size hs (by omega), hwf]
        simp only [Option.bind_some]
        have hwl := word_le r
        by_cases hp : 0 < word r
        · rw [if_pos (by omega), if_pos ⟨hc, hp⟩]
          rw [up2 n (word r) s.size hs (by omega), ih (r.drop (word r)) (n + (1 + word r)) k (by omega) (by omega) (by rw [← h3, List.drop_drop, Nat.add_assoc]) (by rw [List.length_drop]; simp at hf; omega) (by rw [List.length_drop]; simp at hk; omega)]
          rw [Nat.add_assoc n]
        · rw [if_neg (by omega), if_neg (fun h => hp h.2)]
          simp
      · rw [if_neg (by simpa using hc), if_neg (fun h => hc h.1)]
        simp
theorem name_f (s : ByteArray) (hs : s.size ≤ 140737488351232) : vestryref08_name.f (s.size + 2) s 0 = some ((name s.data.toList : Nat) : Int) := by
  have hz : s.size = s.data.toList.length := Lib.size_eq s
  have hw := word_f s hs 0 (s.size + 2) (Nat.zero_le _) (by omega)
  rw [List.drop_zero] at hw
  have hwl := word_le s.data.toList
  unfold vestryref08_name.f name
  rw [show ((0 : Int)) = ((0 : Nat) : Int) from rfl, hw]
  simp only [Option.bind_some]
  by_cases h0 : word s.data.toList = 0
  · rw [if_pos h0, h0, vestryref08_name.l0, if_neg (by omega)]
  · rw [if_neg h0]
    have h1 := name_l0 s hs s.data.toList.length (s.data.toList.drop (word s.data.toList)) (word s.data.toList) (s.size + 2) (by omega) (by omega) rfl (by rw [List.length_drop]; omega) (by rw [List.length_drop]; omega)
    exact h1
theorem Name_f (s : ByteArray) (hs : s.size ≤ 140737488351232) : vestryref08_Name.f (s.size + 2) s = some (LexPure.Name s.data.toList) := by
  have hz : s.size = s.data.toList.length := Lib.size_eq s
  have hl : s.toList = s.data.toList := Lib.toList_data s
  unfold vestryref08_Name.f LexPure.Name
  rw [hl]
  by_cases h0 : s.data.toList = []
  · rw [if_pos h0, h0]; rfl
  · rw [if_neg h0, name_f s hs]
    simp only [Option.bind_some]
    rw [decide_eq_true (show s.data.toList ≠ [] from h0), hz]
    by_cases h1 : name s.data.toList = s.data.toList.length
    · rw [if_pos (by omega), decide_eq_true h1]
      simp
      omega
    · rw [if_neg (by omega), decide_eq_false h1]
      simp
theorem ref_Name (s : ByteArray) (hs : s.size ≤ 140737488351232) (w : World) : Calls Tryd.prog 15 #[.string s] w fun e w' => e = .returned (.bool (LexPure.Name s.data.toList)) ∧ Drawn0 w w' :=
  vestryref08_Name.calls _ s _ w (Name_f s hs)
end PNameIs
end Go.Proofs.YtafndkgoeabehaaDoor.LexRefName
