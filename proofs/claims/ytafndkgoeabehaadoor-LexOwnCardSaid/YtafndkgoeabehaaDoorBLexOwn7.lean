/- A claim's texts, in the order of what they need: LexRefTok, LexRefNum, LexRefText, LexRefTokens, LexOwn. -/
import Derived.Test.YtafndkgoeabehaaDoorBLexOwn6
namespace Go.Proofs.YtafndkgoeabehaaDoor.LexRefTok
open Go Go.RowKit Go.Proofs.YtafndkgoeabehaaDoor.NumPure Go.Proofs.YtafndkgoeabehaaDoor.NumRead Go.Proofs.YtafndkgoeabehaaDoor.LexPure Go.Proofs.YtafndkgoeabehaaDoor.LexGap Go.Proofs.YtafndkgoeabehaaDoor.LexNumP Go.Proofs.YtafndkgoeabehaaDoor.LexToks Go.Proofs.YtafndkgoeabehaaDoorW.PrintWords Go.Proofs.YtafndkgoeabehaaDoorW.PrintLast Go.Proofs.YtafndkgoeabehaaDoor.PTokens
theorem up1 (a b m : Nat) (hm : m ≤ 140737488351232) (h : a + b ≤ m + 8) : wrap64 ((a : Int) + (b : Int)) = ((a + b : Nat) : Int) := by
  rw [wrap_in (by unfold In; omega)]
  omega
theorem up2 (a b m : Nat) (hm : m ≤ 140737488351232) (h : a + 1 + b ≤ m) : wrap64 ((a : Int) + wrap64 (1 + (b : Int))) = ((a + (1 + b) : Nat) : Int) := by
  have e := up1 1 b m hm (by omega)
  rw [show ((1 : Nat) : Int) = 1 from rfl] at e
  rw [e]
  exact up1 a (1 + b) m hm (by omega)
theorem bt_of (x : ByteArray) (i : Nat) (c : UInt8) (r : List UInt8) (h : x.data.toList.drop i = c :: r) : bt x (i : Int) = c.toNat ∧ (i : Int) < (x.size : Int) ∧ x.data.toList.drop (i + 1) = r := by
  have hl : i < x.data.toList.length := by
    rcases Nat.lt_or_ge i x.data.toList.length with h1 | h1
    · exact h1
    · rw [List.drop_eq_nil_of_le h1] at h; cases h
  rw [List.drop_eq_getElem_cons hl] at h
  simp only [List.cons.injEq] at h
  have hs : x.size = x.data.toList.length := Lib.size_eq x
  refine ⟨?_, by omega, h.2⟩
  unfold bt
  rw [dif_pos (by simp; omega)]
  rw [← h.1]
  simp
  rfl
theorem letter_is (c : UInt8) : vestryref03_Letter.f (c.toNat : Int) = some (letter c) := by
  have e : (c == 95) = decide ((c.toNat : Int) = 95) := by
    by_cases h : c = 95
    · subst h; rfl
    · rw [beq_eq_false_iff_ne.mpr h, decide_eq_false]
      intro x
      exact h (UInt8.toNat_inj.mp (by have e9 : (95 : UInt8).toNat = 95 := rfl; omega))
  unfold vestryref03_Letter.f letter
  rw [e]
  have hc := c.toNat_lt
  repeat' split
  all_goals (refine congrArg some (Bool.eq_iff_iff.2 ?_); simp only [Bool.or_eq_true, Bool.and_eq_true, decide_eq_true_eq, true_iff, Bool.false_eq_true, false_iff]; omega)
theorem digit_is (c : UInt8) : vestryref03_Digit.f (c.toNat : Int) = some (dig c) := by
  unfold vestryref03_Digit.f dig
  split
  all_goals (refine congrArg some (Bool.eq_iff_iff.2 ?_); simp only [decide_eq_true_eq, Bool.false_eq_true, false_iff]; omega)
theorem bt_byte (s : ByteArray) (i : Nat) (c : UInt8) (r : List UInt8) (h : s.data.toList.drop i = c :: r) (v : UInt8) : (bt s (i : Int) = (v.toNat : Int)) ↔ c = v := by
  rw [(bt_of s i c r h).1]
  constructor
  · intro e; exact UInt8.toNat_inj.mp (by omega)
  · rintro rfl; rfl
/-- does a text stand at a byte? -/
theorem at_f (s t : ByteArray) (hs : s.size ≤ 140737488351232) (ht : t.size ≤ 8) (i : Nat) (hi : i ≤ s.size) : vestryref08_at.f s i t = some (t.data.toList.isPrefixOf (s.data.toList.drop i)) := by
  have hz : s.size = s.data.toList.length := Lib.size_eq s
  have htz : t.size = t.data.toList.length := Lib.size_eq t
  unfold vestryref08_at.f
  rw [up1 i t.size s.size hs (by omega)]
  by_cases h : i + t.size ≤ s.size
  · rw [if_pos (by omega), if_pos (by omega), if_pos (by omega)]
    simp only [Int.toNat_natCast]
    have e : (s.extract i (i + t.size)).toList = (s.data.toList.drop i).take t.size := by
      rw [Lib.toList_data, Lib.extract_data, show i + t.size - i = t.size by omega]
    rw [e, Lib.toList_data]
    refine congrArg some ?_
    rw [Bool.eq_iff_iff, beq_iff_eq, List.isPrefixOf_iff_prefix, List.prefix_iff_eq_take, ← htz]
    exact eq_comm
  · rw [if_neg (by omega)]
    refine congrArg some (Eq.symm ?_)
    rw [Bool.eq_false_iff]
    intro hp
    have := List.IsPrefix.length_le (List.isPrefixOf_iff_prefix.1 hp)
    rw [List.length_drop] at this
    omega
theorem gap_l0 (s : ByteArray) (hs : s.size ≤ 140737488351232) : ∀ (r : List UInt8) (i k : Nat), s.data.toList.drop i = r → i ≤ s.size → r.length < k → vestryref08_gap.l0 k s i = some ((i + eol r : Nat) : Int) := by
  have hz : s.size = s.data.toList.length := Lib.size_eq s
  intro r
  induction r with
  | nil =>
    intro i k h hi hk
    have : s.size ≤ i := by rw [hz]; exact List.drop_eq_nil_iff.1 h
    obtain ⟨k, rfl⟩ : ∃ j, k = j + 1 := ⟨k - 1, by omega⟩
    rw [vestryref08_gap.l0, if_neg (by omega)]; rfl
  | cons c r ih =>
    intro i k h hi hk
    obtain ⟨_, h2, h3⟩ := bt_of s i c r h
    obtain ⟨k, rfl⟩ : ∃ j, k = j + 1 := ⟨k - 1, by omega⟩
    have hb := bt_byte s i c r h 10
    have e10 : ((10 : UInt8).toNat : Int) = 10 := rfl
    rw [e10] at hb
    rw [vestryref08_gap.l0, if_pos h2, if_pos (by omega)]
    unfold eol
    by_cases hc : c = 10
    · rw [if_pos (hb.2 hc), if_pos hc]; rfl
    · rw [if_neg (fun x => hc (hb.1 x)), if_neg hc, show ((i : Int) + 1) = ((i : Int) + ((1 : Nat) : Int)) from rfl, up1 i 1 s.size hs (by omega), ih (i + 1) k h3 (by omega) (by simp at hk; omega)]
      exact congrArg some (by omega)
theorem gap_l1 (s : ByteArray) (hs : s.size ≤ 140737488351232) : ∀ (r : List UInt8) (i k : Nat), s.data.toList.drop i = r → i ≤ s.size → r.length < k → vestryref08_gap.l1 k s i = some (match close r with | none => -1 | some n => ((i + n : Nat) : Int)) := by
  have hz : s.size = s.data.toList.length := Lib.size_eq s
  intro r
  induction r with
  | nil =>
    intro i k h hi hk
    have : s.size ≤ i := by rw [hz]; exact List.drop_eq_nil_iff.1 h
    obtain ⟨k, rfl⟩ : ∃ j, k = j + 1 := ⟨k - 1, by omega⟩
    rw [vestryref08_gap.l1, if_neg (by omega)]; rfl
  | cons c r ih =>
    intro i k h hi hk
    obtain ⟨_, h2, h3⟩ := bt_of s i c r h
    obtain ⟨k, rfl⟩ : ∃ j, k = j + 1 := ⟨k - 1, by omega⟩
    rw [vestryref08_gap.l1, if_pos h2, at_f s _ hs (by decide) i hi, h]
    simp only [Option.bind_some]
    unfold close
    by_cases hc : [42, 47].isPrefixOf (c :: r) = true
    · rw [if_pos hc, if_pos hc, show ((i : Int) + 2) = ((i : Int) + ((2 : Nat) : Int)) from rfl, up1 i 2 s.size hs (by omega)]
    · rw [if_neg hc, if_neg hc, show ((i : Int) + 1) = ((i : Int) + ((1 : Nat) : Int)) from rfl, up1 i 1 s.size hs (by omega), ih (i + 1) k h3 (by omega) (by simp at hk; omega)]
      cases close r with
      | none => rfl
      | some n =>
        show some (((i + 1 + n : Nat)) : Int) = some ((i + (n + 1) : Nat) : Int)
        rw [Nat.add_assoc, Nat.add_comm 1 n]
theorem gap_f (s : ByteArray) (hs : s.size ≤ 140737488351232) (i k : Nat) (c : UInt8) (r : List UInt8) (h : s.data.toList.drop i = c :: r) (hk : r.length + 2 < k) : vestryref08_gap.f k s i = some (if gap1 (c :: r) < 0 then -1 else (i : Int) + gap1 (c :: r)) := by
  have hz : s.size = s.data.toList.length := Lib.size_eq s
  obtain ⟨_, h2, h3⟩ := bt_of s i c r h
  have b := fun v => bt_byte s i c r h v
  have e32 := b 32
  have e9 := b 9
  have e10 := b 10
  have e13 := b 13
  rw [show ((32 : UInt8).toNat : Int) = 32 from rfl] at e32
  rw [show ((9 : UInt8).toNat : Int) = 9 from rfl] at e9
  rw [show ((10 : UInt8).toNat : Int) = 10 from rfl] at e10
  rw [show ((13 : UInt8).toNat : Int) = 13 from rfl] at e13
  have key : ∀ x : Bool, x = LexPure.blank c → vestryref08_gap.j0 k s i x = some (if gap1 (c :: r) < 0 then -1 else (i : Int) + gap1 (c :: r)) := by
    rintro x rfl
    obtain ⟨k, rfl⟩ : ∃ j, k = j + 1 := ⟨k - 1, by omega⟩
    rw [vestryref08_gap.j0, gap1_cons]
    by_cases hb : LexPure.blank c = true
    · rw [if_pos hb, if_pos hb, show ((i : Int) + 1) = ((i : Int) + ((1 : Nat) : Int)) from rfl, up1 i 1 s.size hs (by omega)]
      rfl
    · rw [if_neg hb, if_neg hb, at_f s _ hs (by decide) i (by omega), h]
      simp only [Option.bind_some]
      by_cases h47 : [47, 47].isPrefixOf (c :: r) = true
      · rw [if_pos h47, if_pos h47, gap_l0 s hs _ i k h (by omega) (by simp; omega), if_neg (by omega)]
        rfl
      · rw [if_neg h47, if_neg h47, at_f s _ hs (by decide) i (by omega), h]
        simp only [Option.bind_some]
        by_cases h42 : [47, 42].isPrefixOf (c :: r) = true
        · have hl := List.IsPrefix.length_le (List.isPrefixOf_iff_prefix.1 h42)
          have hcl : (c :: r).length = s.size - i := by rw [← h, List.length_drop, hz]
          simp at hl hcl
          rw [if_pos h42, if_pos h42, show ((i : Int) + 2) = ((i : Int) + ((2 : Nat) : Int)) from rfl, up1 i 2 s.size hs (by omega), gap_l1 s hs (r.drop 1) (i + 2) k (by rw [← h3, List.drop_drop]) (by omega) (by rw [List.length_drop]; omega)]
          cases close (r.drop 1) with
          | none => rfl
          | some n => simp only []; rw [if_neg (by omega)]; exact congrArg some (by omega)
        · rw [if_neg h42, if_neg h42, if_neg (by omega)]
          exact congrArg some (by omega)
  unfold vestryref08_gap.f
  rw [if_pos (by omega), if_pos h2]
  have hbl : LexPure.blank c = (c == 32 || c == 9 || c == 10 || c == 13) := rfl
  by_cases h32 : c = 32
  · rw [if_pos (e32.2 h32)]; exact key _ (by rw [h32]; rfl)
  · rw [if_neg (fun x => h32 (e32.1 x))]
    by_cases h9 : c = 9
    · rw [if_pos (e9.2 h9)]; exact key _ (by rw [h9]; rfl)
    · rw [if_neg (fun x => h9 (e9.1 x))]
      by_cases h10 : c = 10
      · rw [if_pos (e10.2 h10)]; exact key _ (by rw [h10]; rfl)
      · rw [if_neg (fun x => h10 (e10.1 x))]
        refine key _ ?_
        rw [hbl, beq_eq_false_iff_ne.mpr h32, beq_eq_false_iff_ne.mpr h9, beq_eq_false_iff_ne.mpr h10]
        simp only [Bool.false_or]
        rw [Bool.eq_iff_iff, beq_iff_eq, beq_iff_eq, e13]
theorem word_l0 (s : ByteArray) (hs : s.size ≤ 140737488351232) (b : Nat) : ∀ (r : List UInt8) (i k : Nat), b + i ≤ s.size → s.data.toList.drop (b + i) = r → r.length < k →
    vestryref08_word.l0 k s b i = some ((i + wd (decide (0 < i)) r : Nat) : Int) := by
  intro r
  have hz : s.size = s.data.toList.length := Lib.size_eq s
  induction r with
  | nil =>
    intro i k hb h hk
    have hi : s.size ≤ b + i := by rw [hz]; exact List.drop_eq_nil_iff.1 h
    obtain ⟨k, rfl⟩ : ∃ j, k = j + 1 := ⟨k - 1, by simp at hk; omega⟩
    rw [vestryref08_word.l0, up1 b i s.size hs (by omega), if_neg (by omega)]
    simp [wd]
  | cons c r ih =>
    intro i k hb h hk
    obtain ⟨h1, h2, h3⟩ := bt_of s (b + i) c r h
    have hw := Lib.hid (up1 i 1 s.size hs (by omega))
    obtain ⟨k, rfl⟩ : ∃ j, k = j + 1 := ⟨k - 1, by simp at hk; omega⟩
    have ih1 := ih (i + 1) k (by omega) (by rw [← Nat.add_assoc]; exact h3) (by simp at hk; omega)
    rw [decide_eq_true (show 0 < i + 1 by omega)] at ih1
    rw [vestryref08_word.l0, up1 b i s.size hs (by omega), if_pos h2, if_pos (by omega), h1, letter_is]
    simp only [Option.bind_some]
    unfold wd inWord
    by_cases hl : letter c = true
    · rw [if_pos hl, show ((i : Int) + 1) = ((i : Int) + ((1 : Nat) : Int)) from rfl, hw.out, ih1, hl]
      simp; omega
    · rw [if_neg hl]
      have hl' : letter c = false := by simpa using hl
      rw [hl', digit_is]
      simp only [Option.bind_some]
      by_cases h0 : 0 < i
      · rw [if_pos (by omega), decide_eq_true h0]
        by_cases hd : dig c = true
        · rw [if_pos hd, show ((i : Int) + 1) = ((i : Int) + ((1 : Nat) : Int)) from rfl, hw.out, ih1, hd]
          simp; omega
        · rw [if_neg hd]
          have hd' : dig c = false := by simpa using hd
          rw [hd']
          simp
      · rw [if_neg (by omega), decide_eq_false h0]
        simp
theorem word_f (s : ByteArray) (hs : s.size ≤ 140737488351232) (b k : Nat) (hb : b ≤ s.size) (hk : s.size - b < k) : vestryref08_word.f k s b = some ((word (s.data.toList.drop b) : Nat) : Int) := by
  have := word_l0 s hs b (s.data.toList.drop b) 0 k (by omega) rfl (by rw [List.length_drop, ← Lib.size_eq]; exact hk)
  unfold vestryref08_word.f
  rw [Nat.zero_add] at this
  exact this
theorem dot_is (l : List UInt8) : [46].isPrefixOf l = (match l with | [] => false | c :: _ => c == 46) := by
  cases l with
  | nil => rfl
  | cons c r => simp [List.isPrefixOf]; exact BEq.comm
theorem name_l0 (s : ByteArray) (hs : s.size ≤ 140737488351232) (b : Nat) : ∀ (f : Nat) (l : List UInt8) (n k : Nat), 0 < n → b + n ≤ s.size → s.data.toList.drop (b + n) = l → l.length ≤ f → l.length + 1 < k →
    vestryref08_name.l0 k s b n = some ((n + more f l : Nat) : Int) := by
  intro f
  have hz : s.size = s.data.toList.length := Lib.size_eq s
  induction f with
  | zero =>
    intro l n k hn hns h hf hk
    obtain rfl : l = [] := List.eq_nil_of_length_eq_zero (by omega)
    obtain ⟨k, rfl⟩ : ∃ j, k = j + 1 := ⟨k - 1, by omega⟩
    rw [vestryref08_name.l0, if_pos (by omega), up1 b n s.size hs (by omega), at_f s _ hs (by decide) (b + n) hns, h, show (ByteArray.mk #[46]).data.toList = [46] from rfl]
    simp only [Option.bind_some]
    rw [if_neg (by simp)]
    simp [more]
  | succ f ih =>
    intro l n k hn hns h hf hk
    obtain ⟨k, rfl⟩ : ∃ j, k = j + 1 := ⟨k - 1, by omega⟩
    rw [vestryref08_name.l0, if_pos (by omega), up1 b n s.size hs (by omega), at_f s _ hs (by decide) (b + n) hns, h]
    rw [show (ByteArray.mk #[46]).data.toList = [46] from rfl, dot_is]
    simp only [Option.bind_some]
    cases l with
    | nil => simp [more]
    | cons c r =>
      obtain ⟨_, h2, h3⟩ := bt_of s (b + n) c r h
      have hlr : r.length = s.size - (b + n + 1) := by rw [← h3, List.length_drop, hz]
      have hwf := word_f s hs (b + n + 1) k (by omega) (by simp at hk; omega)
      rw [h3] at hwf
      simp only []
      unfold more
      by_cases hc : c = 46
      · rw [if_pos (by rw [hc]; rfl), show (((b + n : Nat) : Int) + 1) = (((b + n : Nat) : Int) + ((1 : Nat) : Int)) from rfl, up1 (b + n) 1 s.size hs (by omega), hwf]
        simp only [Option.bind_some]
        have hwl := word_le r
        by_cases hp : 0 < word r
        · rw [if_pos (by omega), if_pos ⟨hc, hp⟩]
          have H1 := Lib.hid (up2 n (word r) s.size hs (by omega))
          rw [H1.out, ih (r.drop (word r)) (n + (1 + word r)) k (by omega) (by omega) (by rw [← h3, List.drop_drop]; exact congrArg (fun x => List.drop x s.data.toList) (by omega)) (by rw [List.length_drop]; simp at hf; omega) (by rw [List.length_drop]; simp at hk; omega)]
          rw [Nat.add_assoc n]
        · rw [if_neg (by omega), if_neg (fun h => hp h.2)]
          simp
      · rw [if_neg (by simpa using hc), if_neg (fun h => hc h.1)]
        simp
theorem name_f (s : ByteArray) (hs : s.size ≤ 140737488351232) (b k : Nat) (hb : b ≤ s.size) (hk : s.size - b + 2 ≤ k) : vestryref08_name.f k s b = some ((name (s.data.toList.drop b) : Nat) : Int) := by
  have hz : s.size = s.data.toList.length := Lib.size_eq s
  obtain ⟨l, hl⟩ : ∃ l, s.data.toList.drop b = l := ⟨_, rfl⟩
  have hll : l.length = s.size - b := by rw [← hl, List.length_drop, hz]
  have hw := word_f s hs b k hb (by omega)
  rw [hl] at hw ⊢
  have hwl := word_le l
  unfold vestryref08_name.f name
  rw [hw]
  simp only [Option.bind_some]
  by_cases h0 : word l = 0
  · obtain ⟨k, rfl⟩ : ∃ j, k = j + 1 := ⟨k - 1, by omega⟩
    rw [if_pos h0, h0, vestryref08_name.l0, if_neg (by omega)]
  · rw [if_neg h0]
    have h1 := name_l0 s hs b l.length (l.drop (word l)) (word l) k (by omega) (by omega) (by rw [← hl, List.drop_drop]) (by rw [List.length_drop]; omega) (by rw [List.length_drop]; omega)
    exact h1
end Go.Proofs.YtafndkgoeabehaaDoor.LexRefTok
namespace Go.Proofs.YtafndkgoeabehaaDoor.LexRefNum
open Go Go.RowKit Go.Proofs.YtafndkgoeabehaaDoor.NumPure Go.Proofs.YtafndkgoeabehaaDoor.NumRead Go.Proofs.YtafndkgoeabehaaDoor.LexPure Go.Proofs.YtafndkgoeabehaaDoor.LexNumP Go.Proofs.YtafndkgoeabehaaDoor.LexToks Go.Proofs.YtafndkgoeabehaaDoor.LexRefTok Go.Proofs.YtafndkgoeabehaaDoorW.PrintWords Go.Proofs.YtafndkgoeabehaaDoorW.PrintLast Go.Proofs.YtafndkgoeabehaaDoor.PTokens
abbrev big : Nat := 9223372036854775807
/-- one digit more: the number, or too large -/
def stepN (p : Nat × Bool) (c : UInt8) : Nat × Bool := if p.2 = true then (p.1, true) else if p.1 > (big - (c.toNat - 48)) / 10 then (p.1, true) else (p.1 * 10 + (c.toNat - 48), false)
def foldN (p : Nat × Bool) (l : List UInt8) : Nat × Bool := l.foldl stepN p
theorem foldN_over (l : List UInt8) : ∀ n, foldN (n, true) l = (n, true) := by
  induction l with
  | nil => intro n; rfl
  | cons c r ih => intro n; unfold foldN; rw [List.foldl_cons]; exact ih n
theorem foldN_val (l : List UInt8) : ∀ n, n ≤ big → l.all dig = true → (val n l ≤ big → foldN (n, false) l = (val n l, false)) ∧ (big < val n l → (foldN (n, false) l).2 = true) := by
  induction l with
  | nil => intro n hn _; exact ⟨fun _ => by rw [val_nil]; rfl, fun h => by rw [val_nil] at h; omega⟩
  | cons c r ih =>
    intro n hn ha
    simp only [List.all_cons, Bool.and_eq_true] at ha
    have hc : 48 ≤ c.toNat ∧ c.toNat ≤ 57 := by simpa [dig] using ha.1
    have hs : foldN (n, false) (c :: r) = foldN (stepN (n, false) c) r := rfl
    have hv := val_ge r (n * 10 + (c.toNat - 48))
    rw [val_cons, hs]
    have h2 : stepN (n, false) c = if n > (big - (c.toNat - 48)) / 10 then (n, true) else (n * 10 + (c.toNat - 48), false) := by simp [stepN]
    rw [h2]
    by_cases ho : n > (big - (c.toNat - 48)) / 10
    · rw [if_pos ho]
      have hb : big < n * 10 + (c.toNat - 48) := by simp only [big] at ho ⊢; omega
      exact ⟨fun h => by omega, fun _ => by rw [foldN_over]⟩
    · rw [if_neg ho]
      exact ih _ (by simp only [big] at ho ⊢; omega) ha.2
/-- what the document's number answers -/
def numOut (from_ i : Nat) (p : Nat × Bool) (l : List UInt8) : Int × ByteArray × Int × Int × Int × Int × Int :=
  if stands l = true then (0, ⟨#[]⟩, 0, 0, 0, 7, (i : Int)) else if p.2 = true then (0, ⟨#[]⟩, 0, 0, 0, 8, (from_ : Int)) else (2, ⟨#[]⟩, (p.1 : Int), (from_ : Int), (i : Int), 0, 0)
theorem num_end (s : ByteArray) (from_ i n k : Nat) (o : Bool) (l : List UInt8) (h : s.data.toList.drop i = l) (hi : i ≤ s.size) (hk : 2 ≤ k) :
    vestryref08_number.j1 k s from_ i n o false = some (numOut from_ i (n, o) l) := by
  have hz : s.size = s.data.toList.length := Lib.size_eq s
  obtain ⟨k, rfl⟩ : ∃ j, k = j + 2 := ⟨k - 2, by omega⟩
  have key : ∀ x : Bool, x = stands l → vestryref08_number.j2 (k + 1) (from_ : Int) (i : Int) (n : Int) o x = some (numOut from_ i (n, o) l) := by
    rintro x rfl
    rw [vestryref08_number.j2]
    unfold numOut vestryref08_fault.f
    by_cases hs : stands l = true
    · rw [if_pos hs, if_pos hs]; rfl
    · rw [if_neg hs, if_neg hs]
      by_cases ho : o = true
      · rw [if_pos ho, if_pos ho]; rfl
      · rw [if_neg ho, if_neg ho]
  rw [vestryref08_number.j1, if_neg (by simp)]
  cases l with
  | nil =>
    have : s.size ≤ i := by rw [hz]; exact List.drop_eq_nil_iff.1 h
    rw [if_neg (by omega)]
    exact key _ rfl
  | cons c r =>
    obtain ⟨h1, h2, h3⟩ := bt_of s i c r h
    rw [if_pos h2, if_pos (by omega), h1, LexRefTok.digit_is]
    simp only [Option.bind_some]
    by_cases hd : dig c = true
    · rw [if_pos hd]
      exact key _ (by simp [stands, hd])
    · rw [if_neg hd, LexRefTok.letter_is]
      simp only [Option.bind_some]
      exact key _ (by simp [stands, hd])
theorem dig_sub (c : UInt8) (hd : dig c = true) : ((c.toNat : Int) - 48) % 256 = ((c.toNat - 48 : Nat) : Int) ∧ c.toNat - 48 ≤ 9 ∧ 48 ≤ c.toNat := by
  have hc : 48 ≤ c.toNat ∧ c.toNat ≤ 57 := by simpa [dig] using hd
  omega
theorem num_digit (s : ByteArray) (hs : s.size ≤ 140737488351232) (from_ i n k : Nat) (o : Bool) (c : UInt8) (r : List UInt8) (h : s.data.toList.drop i = c :: r) (hd : dig c = true) (hn : n ≤ big) :
    vestryref08_number.j1 (k + 1) s from_ i n o true = vestryref08_number.l0 k s from_ ((i + 1 : Nat) : Int) ((stepN (n, o) c).1 : Int) (stepN (n, o) c).2 := by
  have hz : s.size = s.data.toList.length := Lib.size_eq s
  obtain ⟨h1, h2, h3⟩ := bt_of s i c r h
  obtain ⟨d1, d2, d3⟩ := dig_sub c hd
  rw [vestryref08_number.j1, if_pos rfl, if_pos (by omega), if_pos h2, h1, d1]
  have hw := Lib.hid (up1 i 1 s.size hs (by omega))
  rw [show ((i : Int) + 1) = ((i : Int) + ((1 : Nat) : Int)) from rfl, hw.out]
  unfold stepN
  by_cases ho : o = true
  · rw [if_pos ho, if_pos ho]
  · rw [if_neg ho, if_neg ho]
    have hcmp : ((n : Int) > (9223372036854775807 - ((c.toNat - 48 : Nat) : Int)) / 10) ↔ n > (big - (c.toNat - 48)) / 10 := by simp only [big]; omega
    by_cases hb : n > (big - (c.toNat - 48)) / 10
    · rw [if_pos (hcmp.2 hb), if_pos hb, decide_eq_true (hcmp.2 hb)]
    · rw [if_neg (fun x => hb (hcmp.1 x)), if_neg hb, decide_eq_false (fun x => hb (hcmp.1 x))]
      have hn10 : n * 10 + (c.toNat - 48) ≤ big := by simp only [big] at hb ⊢; omega
      have e1 : wrap64 ((n : Int) * 10) = ((n * 10 : Nat) : Int) := by
        rw [wrap_in (by simp only [big] at hn10; unfold In; omega)]; omega
      have E1 := Lib.hid e1
      clear e1 hw
      rw [E1.out]
      clear E1
      have e2 : wrap64 (((n * 10 : Nat) : Int) + ((c.toNat - 48 : Nat) : Int)) = ((n * 10 + (c.toNat - 48) : Nat) : Int) := by
        rw [wrap_in (by simp only [big] at hn10; unfold In; omega)]; omega
      rw [e2]
theorem stepN_le (p : Nat × Bool) (c : UInt8) (h : p.1 ≤ big) (hd : dig c = true) : (stepN p c).1 ≤ big := by
  obtain ⟨_, d2, d3⟩ := dig_sub c hd
  unfold stepN
  split
  · exact h
  · split
    · exact h
    · rename_i hb
      simp only [big] at hb ⊢
      omega
/-- behind the first digit, which is no 0 -/
theorem num_tail (s : ByteArray) (hs : s.size ≤ 140737488351232) (from_ : Nat) (c0 : UInt8) (r0 : List UInt8) (h0 : s.data.toList.drop from_ = c0 :: r0) (hc0 : c0 ≠ 48) : ∀ (l : List UInt8) (i n k : Nat) (o : Bool), s.data.toList.drop i = l → i ≤ s.size → from_ < i → n ≤ big → 2 * l.length + 3 < k →
    vestryref08_number.l0 k s from_ i n o = some (numOut from_ (i + run l) (foldN (n, o) (l.take (run l))) (l.drop (run l))) := by
  have hz : s.size = s.data.toList.length := Lib.size_eq s
  obtain ⟨g1, g2, _⟩ := bt_of s from_ c0 r0 h0
  have g48 := bt_byte s from_ c0 r0 h0 48
  rw [show ((48 : UInt8).toNat : Int) = 48 from rfl] at g48
  intro l
  induction l with
  | nil =>
    intro i n k o h hi hf hn hk
    have : s.size ≤ i := by rw [hz]; exact List.drop_eq_nil_iff.1 h
    obtain ⟨k, rfl⟩ : ∃ j, k = j + 1 := ⟨k - 1, by omega⟩
    rw [vestryref08_number.l0, if_neg (by omega), num_end s from_ i n k o [] h hi (by simp at hk; omega)]
    rfl
  | cons c r ih =>
    intro i n k o h hi hf hn hk
    obtain ⟨h1, h2, h3⟩ := bt_of s i c r h
    obtain ⟨k, rfl⟩ : ∃ j, k = j + 2 := ⟨k - 2, by omega⟩
    rw [vestryref08_number.l0, if_pos h2, if_pos (by omega), h1, LexRefTok.digit_is, run_cons]
    simp only [Option.bind_some]
    by_cases hd : dig c = true
    · rw [if_pos hd, if_pos hd, if_neg (by omega), if_pos (by omega), if_pos g2]
      have e : (bt s (from_ : Int) != 48) = true := by rw [bne_iff_ne]; exact fun x => hc0 (g48.1 x)
      rw [e, num_digit s hs from_ i n k o c r h hd hn, ih (i + 1) _ k _ h3 (by omega) (by omega) (stepN_le (n, o) c hn hd) (by simp at hk; omega), List.take_succ_cons, List.drop_succ_cons]
      rw [show i + 1 + run r = i + (run r + 1) by omega]
      rfl
    · rw [if_neg hd, if_neg hd, num_end s from_ i n (k + 1) o (c :: r) h hi (by omega)]
      rfl
theorem big_In (v : Nat) : (v ≤ big ↔ In (v : Int)) := by unfold In; simp only [big]; omega
/-- what a plain token is as the document's -/
def numTok (from_ : Nat) : Out → Int × ByteArray × Int × Int × Int × Int × Int
  | .tok kd tx n len => (kd, ⟨tx.toArray⟩, n, (from_ : Int), ((from_ + len : Nat) : Int), 0, 0)
  | .bad why off => (0, ⟨#[]⟩, 0, 0, 0, why, ((from_ + off : Nat) : Int))
theorem number_f (s : ByteArray) (hs : s.size ≤ 140737488351232) (from_ k : Nat) (c : UInt8) (r : List UInt8) (h : s.data.toList.drop from_ = c :: r) (hd : dig c = true) (hk : 2 * r.length + 10 < k) :
    vestryref08_number.f k s from_ = some (numTok from_ (number (c :: r))) := by
  have hz : s.size = s.data.toList.length := Lib.size_eq s
  obtain ⟨h1, h2, h3⟩ := bt_of s from_ c r h
  obtain ⟨d1, d2, d3⟩ := dig_sub c hd
  obtain ⟨k, rfl⟩ : ∃ j, k = j + 2 := ⟨k - 2, by omega⟩
  have g48 := bt_byte s from_ c r h 48
  rw [show ((48 : UInt8).toNat : Int) = 48 from rfl] at g48
  unfold vestryref08_number.f
  rw [vestryref08_number.l0, if_pos h2, if_pos (by omega), h1, LexRefTok.digit_is]
  simp only [Option.bind_some]
  have hj := num_digit s hs from_ from_ 0 k false c r h hd (by decide)
  have hst : stepN (0, false) c = (c.toNat - 48, false) := by
    unfold stepN
    rw [if_neg (by simp), if_neg (by simp only [big]; omega)]
    simp
  rw [hst] at hj
  rw [if_pos hd, if_pos trivial]
  show vestryref08_number.j1 (k + 1) s from_ from_ ((0 : Nat) : Int) false true = _
  rw [hj]
  have hne45 : ¬ (c = 45) := by rintro rfl; simp [dig] at hd
  by_cases hc : c = 48
  · subst hc
    have hnl : numLen (48 :: r) = 1 := numLen_zero r
    have hps : parseS ((48 :: r).take 1) = (0, 0) := by rw [List.take_succ_cons, List.take_zero]; decide
    have hnum : number (48 :: r) = if stands r = true then .bad 7 1 else .tok 2 [] 0 1 := by
      unfold number
      rw [hnl, hps]
      simp
    rw [hnum]
    cases r with
    | nil =>
      have : s.size ≤ from_ + 1 := by rw [hz]; exact List.drop_eq_nil_iff.1 h3
      obtain ⟨k, rfl⟩ : ∃ j, k = j + 1 := ⟨k - 1, by omega⟩
      rw [vestryref08_number.l0, if_neg (by omega), num_end s from_ (from_ + 1) _ k false [] h3 (by omega) (by simp at hk; omega)]
      rfl
    | cons e r =>
      obtain ⟨e1, e2, e3⟩ := bt_of s (from_ + 1) e r h3
      obtain ⟨k, rfl⟩ : ∃ j, k = j + 1 := ⟨k - 1, by omega⟩
      have hend := num_end s from_ (from_ + 1) ((48 : UInt8).toNat - 48) k false (e :: r) h3 (by omega) (by simp at hk; omega)
      rw [vestryref08_number.l0, if_pos e2, if_pos (by omega), e1, LexRefTok.digit_is]
      simp only [Option.bind_some]
      have e48 : (bt s (from_ : Int) != 48) = false := by rw [bne_eq_false_iff_eq]; exact g48.2 rfl
      by_cases hde : dig e = true
      · rw [if_pos hde, if_neg (by omega), if_pos (by omega), if_pos h2, e48, hend]
        simp [numOut, stands, hde, numTok]
      · rw [if_neg hde, hend]
        by_cases hst : stands (e :: r) = true
        · simp [numOut, hst, numTok]
        · simp [numOut, hst, numTok]
  · rw [num_tail s hs from_ c r h hc r (from_ + 1) _ k false h3 (by omega) (by omega) (by simp only [big]; omega) (by omega)]
    have hnl : numLen (c :: r) = run r + 1 := by unfold numLen; rw [if_neg (by simpa using hc), List.tail_cons]; omega
    have hall : (c :: r.take (run r)).all dig = true := by rw [List.all_cons, hd, take_run]; rfl
    have hps : parseS ((c :: r).take (run r + 1)) = told ((val 0 (c :: r.take (run r)) : Nat) : Int) := by
      rw [List.take_succ_cons]
      unfold parseS
      rw [if_neg (by simpa using hne45)]
      unfold core
      rw [if_neg]
      · rfl
      · rintro (hb | hb | hb)
        · cases hb
        · rw [hall] at hb; cases hb
        · exact hc (by simpa using hb.1)
    have hv : val 0 (c :: r.take (run r)) = val (c.toNat - 48) (r.take (run r)) := by rw [val_cons]; simp
    have hf := foldN_val (r.take (run r)) (c.toNat - 48) (by simp only [big]; omega) (take_run r)
    unfold number
    rw [hnl, hps, hv, List.drop_succ_cons]
    unfold numOut
    by_cases hst : stands (r.drop (run r)) = true
    · rw [if_pos hst, if_pos hst]
      simp [numTok]; omega
    · rw [if_neg hst, if_neg hst]
      unfold told
      by_cases hb : val (c.toNat - 48) (r.take (run r)) ≤ big
      · rw [hf.1 hb, if_pos ((big_In _).1 hb)]
        simp [numTok]; omega
      · rw [if_pos (hf.2 (by omega)), if_neg (fun x => hb ((big_In _).2 x))]
        simp [numTok]
end Go.Proofs.YtafndkgoeabehaaDoor.LexRefNum
namespace Go.Proofs.YtafndkgoeabehaaDoor.LexRefText
open Go Go.RowKit Go.Proofs.YtafndkgoeabehaaDoor.NumPure Go.Proofs.YtafndkgoeabehaaDoor.NumRead Go.Proofs.YtafndkgoeabehaaDoor.LexPure Go.Proofs.YtafndkgoeabehaaDoor.LexGap Go.Proofs.YtafndkgoeabehaaDoor.LexToks Go.Proofs.YtafndkgoeabehaaDoor.LexRise Go.Proofs.YtafndkgoeabehaaDoor.LexRefTok Go.Proofs.YtafndkgoeabehaaDoor.LexRefNum Go.Proofs.YtafndkgoeabehaaDoorW.PrintWords Go.Proofs.YtafndkgoeabehaaDoorW.PrintLast Go.Proofs.YtafndkgoeabehaaDoor.PTokens
def nb (b : List UInt8) : List Int := b.map fun c => (c.toNat : Int)
theorem nb_snoc (b : List UInt8) (c : UInt8) : nb b ++ [(c.toNat : Int)] = nb (b ++ [c]) := by simp [nb]
theorem str_nb (b : List UInt8) : strOfNums (nb b) = ⟨b.toArray⟩ := by
  unfold strOfNums nb
  congr 1
  rw [List.map_map]
  have : ((fun x : Int => UInt8.ofNat x.toNat) ∘ fun c : UInt8 => (c.toNat : Int)) = id := by
    funext c
    simp
  first
    | rw [this, List.map_id]
    | simp
theorem nb_len (b : List UInt8) : (nb b).length = b.length := by simp [nb]
theorem text_cons (b : List UInt8) (i : Nat) (c : UInt8) (r : List UInt8) : text b i (c :: r) = if c = 34 then .tok 3 b 0 (i + 1) else if c = 10 then .bad 7 i else if c = 92 then (match r with | [] => .bad 7 i | d :: r' => match esc d with | none => .bad 7 i | some e => text (b ++ [e]) (i + 2) r') else text (b ++ [c]) (i + 1) r := by
  cases r with
  | nil => rfl
  | cons d r => rfl
theorem text_l0 (s : ByteArray) (hs : s.size ≤ 140737488351232) (from_ : Nat) : ∀ (n : Nat) (l : List UInt8), l.length ≤ n → ∀ (b : List UInt8) (i k : Nat), s.data.toList.drop (from_ + i) = l → from_ + i ≤ s.size → b.length ≤ i → 2 * l.length + 3 < k →
    vestryref08_text.l0 k s from_ (nb b) ((from_ + i : Nat) : Int) = some (numTok from_ (text b i l)) := by
  have hz : s.size = s.data.toList.length := Lib.size_eq s
  intro n
  induction n with
  | zero =>
    intro l hl b i k h hi hb hk
    obtain rfl : l = [] := List.eq_nil_of_length_eq_zero (by omega)
    have : s.size ≤ from_ + i := by rw [hz]; exact List.drop_eq_nil_iff.1 h
    obtain ⟨k, rfl⟩ : ∃ j, k = j + 1 := ⟨k - 1, by omega⟩
    rw [vestryref08_text.l0, if_neg (by omega)]
    rfl
  | succ n ih =>
    intro l hl b i k h hi hb hk
    cases l with
    | nil =>
      have : s.size ≤ from_ + i := by rw [hz]; exact List.drop_eq_nil_iff.1 h
      obtain ⟨k, rfl⟩ : ∃ j, k = j + 1 := ⟨k - 1, by omega⟩
      rw [vestryref08_text.l0, if_neg (by omega)]
      rfl
    | cons c r =>
      obtain ⟨h1, h2, h3⟩ := bt_of s (from_ + i) c r h
      simp only [List.length_cons] at hl hk
      obtain ⟨k, rfl⟩ : ∃ j, k = j + 2 := ⟨k - 2, by omega⟩
      have e34 := bt_byte s (from_ + i) c r h 34
      have e10 := bt_byte s (from_ + i) c r h 10
      have e92 := bt_byte s (from_ + i) c r h 92
      rw [show ((34 : UInt8).toNat : Int) = 34 from rfl] at e34
      rw [show ((10 : UInt8).toNat : Int) = 10 from rfl] at e10
      rw [show ((92 : UInt8).toNat : Int) = 92 from rfl] at e92
      have W1 : Hid (wrap64 (((from_ + i : Nat) : Int) + 1) = ((from_ + (i + 1) : Nat) : Int)) := Lib.hid (up1 (from_ + i) 1 s.size hs (by omega))
      rw [vestryref08_text.l0, if_pos h2, if_pos (by omega), text_cons]
      by_cases hc34 : c = 34
      · rw [if_pos (e34.2 hc34), if_pos hc34, str_nb, W1.out]
        rfl
      · rw [if_neg (fun x => hc34 (e34.1 x)), if_neg hc34]
        by_cases hc10 : c = 10
        · rw [if_pos (e10.2 hc10), if_pos hc10]
          rfl
        · rw [if_neg (fun x => hc10 (e10.1 x)), if_neg hc10]
          by_cases hc92 : c = 92
          · rw [if_pos (e92.2 hc92), if_pos hc92, W1.out]
            cases r with
            | nil =>
              have : s.size ≤ from_ + i + 1 := by rw [hz]; exact List.drop_eq_nil_iff.1 h3
              rw [if_pos (by omega)]
              rfl
            | cons d r' =>
              obtain ⟨g1, g2, g3⟩ := bt_of s (from_ + i + 1) d r' h3
              simp only [List.length_cons] at hl hk
              have d34 := bt_byte s (from_ + i + 1) d r' h3 34
              have d92 := bt_byte s (from_ + i + 1) d r' h3 92
              have d110 := bt_byte s (from_ + i + 1) d r' h3 110
              have d116 := bt_byte s (from_ + i + 1) d r' h3 116
              rw [show ((34 : UInt8).toNat : Int) = 34 from rfl] at d34
              rw [show ((92 : UInt8).toNat : Int) = 92 from rfl] at d92
              rw [show ((110 : UInt8).toNat : Int) = 110 from rfl] at d110
              rw [show ((116 : UInt8).toNat : Int) = 116 from rfl] at d116
              rw [Nat.add_assoc] at d34 d92 d110 d116 g1 g2
              have W2 : Hid (wrap64 (((from_ + (i + 1) : Nat) : Int) + 1) = ((from_ + (i + 2) : Nat) : Int)) := Lib.hid (up1 (from_ + (i + 1)) 1 s.size hs (by omega))
              have hb1 : (nb b).length < 140737488355328 := by rw [nb_len]; omega
              have hi2 : ∀ e : UInt8, vestryref08_text.l0 k s from_ (nb (b ++ [e])) ((from_ + (i + 2) : Nat) : Int) = some (numTok from_ (text (b ++ [e]) (i + 2) r')) := fun e =>
                ih r' (by omega) (b ++ [e]) (i + 2) k (by rw [← Nat.add_assoc]; exact g3) (by omega) (by rw [List.length_append]; simp; omega) (by omega)
              rw [if_neg (by omega), if_pos (by omega), if_pos (by omega), g1]
              have main : ∀ x : Bool, x = decide (d = 34 ∨ d = 92) → vestryref08_text.j1 (k + 1) s (from_ : Int) (nb b) ((from_ + i : Nat) : Int) (d.toNat : Int) x = some (numTok from_ (match esc d with | none => .bad 7 i | some e => text (b ++ [e]) (i + 2) r')) := by
                rintro x rfl
                rw [vestryref08_text.j1, W1.out, W2.out]
                unfold esc
                by_cases hq : d = 34 ∨ d = 92
                · rw [if_pos (by simpa using hq), if_pos (by omega), if_pos (by omega), if_pos hb1, g1, nb_snoc, hi2 d]
                  rcases hq with rfl | rfl
                  · rfl
                  · rfl
                · have n34 : ¬ d = 34 := fun x => hq (.inl x)
                  have n92 : ¬ d = 92 := fun x => hq (.inr x)
                  rw [if_neg (by simpa using hq), if_neg n34, if_neg n92, ← g1]
                  by_cases q110 : d = 110
                  · rw [if_pos (d110.2 q110), if_pos q110, if_pos hb1]
                    have := nb_snoc b 10
                    rw [show ((10 : UInt8).toNat : Int) = 10 from rfl] at this
                    rw [this, hi2 10]
                  · rw [if_neg (fun x => q110 (d110.1 x)), if_neg q110]
                    by_cases q116 : d = 116
                    · rw [if_pos (d116.2 q116), if_pos q116, if_pos hb1]
                      have := nb_snoc b 9
                      rw [show ((9 : UInt8).toNat : Int) = 9 from rfl] at this
                      rw [this, hi2 9]
                    · rw [if_neg (fun x => q116 (d116.1 x)), if_neg q116]
                      rfl
              rw [← g1]
              by_cases q34 : d = 34
              · rw [if_pos (d34.2 q34), g1]
                exact main _ (by subst q34; rfl)
              · rw [if_neg (fun x => q34 (d34.1 x)), g1]
                refine main _ ?_
                rw [← g1, Bool.eq_iff_iff, beq_iff_eq, decide_eq_true_iff, d92]
                exact ⟨fun x => .inr x, fun x => x.resolve_left q34⟩
          · rw [if_neg (fun x => hc92 (e92.1 x)), if_neg hc92, if_pos (by rw [nb_len]; omega), h1, nb_snoc, W1.out]
            exact ih r (by omega) (b ++ [c]) (i + 1) (k + 1) (by rw [← Nat.add_assoc]; exact h3) (by omega) (by rw [List.length_append]; simp; omega) (by omega)
theorem text_f (s : ByteArray) (hs : s.size ≤ 140737488351232) (from_ k : Nat) (c : UInt8) (r : List UInt8) (h : s.data.toList.drop from_ = c :: r) (hk : 2 * r.length + 3 < k) :
    vestryref08_text.f k s from_ = some (numTok from_ (text [] 1 r)) := by
  obtain ⟨_, h2, h3⟩ := bt_of s from_ c r h
  unfold vestryref08_text.f
  rw [show ((from_ : Int) + 1) = ((from_ : Int) + ((1 : Nat) : Int)) from rfl, up1 from_ 1 s.size hs (by omega)]
  exact text_l0 s hs from_ _ r (Nat.le_refl _) [] 1 k h3 (by omega) (by simp) hk
end Go.Proofs.YtafndkgoeabehaaDoor.LexRefText
namespace Go.Proofs.YtafndkgoeabehaaDoor.LexRefTokens
open Go Go.RowKit Go.Proofs.YtafndkgoeabehaaDoor.NumPure Go.Proofs.YtafndkgoeabehaaDoor.NumRead Go.Proofs.YtafndkgoeabehaaDoor.LexPure Go.Proofs.YtafndkgoeabehaaDoor.LexGap Go.Proofs.YtafndkgoeabehaaDoor.LexToks Go.Proofs.YtafndkgoeabehaaDoor.LexRise Go.Proofs.YtafndkgoeabehaaDoor.LexRefTok Go.Proofs.YtafndkgoeabehaaDoor.LexRefNum Go.Proofs.YtafndkgoeabehaaDoor.LexRefText Go.Proofs.YtafndkgoeabehaaDoorW.PrintWords Go.Proofs.YtafndkgoeabehaaDoorW.PrintLast Go.Proofs.YtafndkgoeabehaaDoor.PTokens
def bytes (l : List UInt8) : ByteArray := ⟨l.toArray⟩
theorem rd_drop (ds : List (List UInt8)) (j : Nat) (d : List UInt8) (rest : List (List UInt8)) (h : ds.drop j = d :: rest) : rdOf ByteArray.empty (ds.map bytes) (j : Int) = bytes d ∧ j < ds.length ∧ ds.drop (j + 1) = rest := by
  have hl : j < ds.length := by
    rcases Nat.lt_or_ge j ds.length with h1 | h1
    · exact h1
    · rw [List.drop_eq_nil_of_le h1] at h; cases h
  rw [List.drop_eq_getElem_cons hl] at h
  simp only [List.cons.injEq] at h
  refine ⟨?_, hl, h.2⟩
  unfold rdOf
  rw [Int.toNat_natCast, List.getD_eq_getElem?_getD, List.getElem?_map, List.getElem?_eq_getElem hl, h.1]
  rfl
theorem ones_l2 (s : ByteArray) (hs : s.size ≤ 140737488351232) (i : Nat) (c : UInt8) (r : List UInt8) (h : s.data.toList.drop i = c :: r) (os : List UInt8) (hos : os.length ≤ 100) : ∀ (rest : List UInt8) (j k : Nat), os.drop j = rest → rest.length < k →
    vestryref08_sign.l2 k s i (bytes os) j = some (if rest.contains c = true then bytes [c] else bytes []) := by
  have hz : s.size = s.data.toList.length := Lib.size_eq s
  obtain ⟨h1, h2, h3⟩ := bt_of s i c r h
  have hoz : (bytes os).size = os.length := by rw [Lib.size_eq]; rfl
  intro rest
  induction rest with
  | nil =>
    intro j k hj hk
    have : os.length ≤ j := List.drop_eq_nil_iff.1 hj
    obtain ⟨k, rfl⟩ : ∃ m, k = m + 1 := ⟨k - 1, by omega⟩
    rw [vestryref08_sign.l2, if_neg (by omega)]
    rfl
  | cons d rest ih =>
    intro j k hj hk
    simp only [List.length_cons] at hk
    obtain ⟨g1, g2, g3⟩ := bt_of (bytes os) j d rest hj
    obtain ⟨k, rfl⟩ : ∃ m, k = m + 1 := ⟨k - 1, by omega⟩
    have hjl : j < os.length := by omega
    have W1 : Hid (wrap64 ((i : Int) + 1) = ((i + 1 : Nat) : Int)) := Lib.hid (up1 i 1 s.size hs (by omega))
    have W2 : Hid (wrap64 ((j : Int) + 1) = ((j + 1 : Nat) : Int)) := Lib.hid (up1 j 1 140737488351232 (Nat.le_refl _) (by omega))
    rw [vestryref08_sign.l2, if_pos g2, if_pos (by omega), if_pos h2, if_pos (by omega), h1, g1, W1.out, W2.out]
    by_cases hcd : c = d
    · subst hcd
      rw [if_pos rfl, if_pos (by omega), if_pos (by omega)]
      have : (c :: rest).contains c = true := by simp
      rw [this, if_pos rfl]
      simp only [Int.toNat_natCast]
      refine congrArg some ?_
      have e : (s.extract i (i + 1)).data.toList = [c] := by
        rw [Lib.extract_data, h]
        simp
      show s.extract i (i + 1) = bytes [c]
      have e2 : (s.extract i (i + 1)).data = #[c] := Array.toList_inj.1 e
      show ByteArray.mk (s.extract i (i + 1)).data = ByteArray.mk #[c]
      rw [e2]
    · rw [if_neg (fun x => hcd (UInt8.toNat_inj.mp (by omega))), ih (j + 1) k g3 (by omega)]
      have : (d :: rest).contains c = rest.contains c := by
        rw [List.contains_cons, beq_eq_false_iff_ne.mpr hcd]; rfl
      rw [this]
theorem twos_l1 (s : ByteArray) (hs : s.size ≤ 140737488351232) (i : Nat) (c : UInt8) (r : List UInt8) (h : s.data.toList.drop i = c :: r) (ds : List (List UInt8)) (hds : ds.length ≤ 100) (h2s : ∀ d ∈ ds, d.length = 2) : ∀ (rest : List (List UInt8)) (j k : Nat), ds.drop j = rest → rest.length + 20 < k →
    vestryref08_sign.l1 k s i (ds.map bytes) ((ds.length : Nat) : Int) j = some (if rest.contains ((c :: r).take 2) = true then bytes ((c :: r).take 2) else if ones.contains c = true then bytes [c] else bytes []) := by
  have hz : s.size = s.data.toList.length := Lib.size_eq s
  obtain ⟨h1, h2, h3⟩ := bt_of s i c r h
  intro rest
  induction rest with
  | nil =>
    intro j k hj hk
    have : ds.length ≤ j := List.drop_eq_nil_iff.1 hj
    obtain ⟨k, rfl⟩ : ∃ m, k = m + 1 := ⟨k - 1, by omega⟩
    have hp := ones_l2 s hs i c r h ones (by decide) ones 0 k rfl (by simp at hk; exact Nat.lt_of_lt_of_le (by decide : ones.length < 20) (by omega))
    rw [vestryref08_sign.l1, if_neg (by omega)]
    exact hp
  | cons d rest ih =>
    intro j k hj hk
    simp only [List.length_cons] at hk
    obtain ⟨g1, g2, g3⟩ := rd_drop ds j d rest hj
    obtain ⟨k, rfl⟩ : ∃ m, k = m + 1 := ⟨k - 1, by omega⟩
    have hd2 : d.length = 2 := h2s d (List.mem_of_mem_drop (by rw [hj]; exact List.mem_cons_self))
    have W2 : Hid (wrap64 ((j : Int) + 1) = ((j + 1 : Nat) : Int)) := Lib.hid (up1 j 1 140737488351232 (Nat.le_refl _) (by omega))
    have hat := at_f s (bytes d) hs (by rw [Lib.size_eq]; show d.length ≤ 8; omega) i (by omega)
    rw [h, show (bytes d).data.toList = d from rfl] at hat
    rw [vestryref08_sign.l1, if_pos (by omega), if_pos (by omega), if_pos (by rw [List.length_map]; omega), g1, hat]
    simp only [Option.bind_some]
    by_cases hp : d.isPrefixOf (c :: r) = true
    · have e := List.prefix_iff_eq_take.1 (List.isPrefixOf_iff_prefix.1 hp)
      rw [hd2] at e
      rw [if_pos hp, if_pos (by rw [← e]; simp), ← e]
    · have hne : (c :: r).take 2 ≠ d := by
        intro e
        apply hp
        rw [List.isPrefixOf_iff_prefix, List.prefix_iff_eq_take, hd2, e]
      rw [if_neg hp, W2.out, ih (j + 1) k g3 (by omega)]
      have : (d :: rest).contains ((c :: r).take 2) = rest.contains ((c :: r).take 2) := by
        rw [List.contains_cons, beq_eq_false_iff_ne.mpr hne]; rfl
      rw [this]
def headsOf (rest : List (List UInt8)) (l : List UInt8) : Option (List UInt8) := rest.find? (fun d => d.isPrefixOf l && decide (word l.tail = 4))
theorem heads_l0 (s : ByteArray) (hs : s.size ≤ 140737488351232) (i : Nat) (c : UInt8) (r : List UInt8) (h : s.data.toList.drop i = c :: r) (ds : List (List UInt8)) (hds : ds.length ≤ 100) (h5s : ∀ d ∈ ds, d.length = 5) : ∀ (rest : List (List UInt8)) (j k : Nat), ds.drop j = rest → rest.length + r.length + 30 < k →
    vestryref08_sign.l0 k s i (ds.map bytes) ((ds.length : Nat) : Int) j = some (match headsOf rest (c :: r) with | some d => bytes d | none => if twos.contains ((c :: r).take 2) = true then bytes ((c :: r).take 2) else if ones.contains c = true then bytes [c] else bytes []) := by
  have hz : s.size = s.data.toList.length := Lib.size_eq s
  obtain ⟨h1, h2, h3⟩ := bt_of s i c r h
  have hrl : r.length = s.size - (i + 1) := by rw [← h3, List.length_drop, hz]
  have W1 : Hid (wrap64 ((i : Int) + 1) = ((i + 1 : Nat) : Int)) := Lib.hid (up1 i 1 s.size hs (by omega))
  intro rest
  induction rest with
  | nil =>
    intro j k hj hk
    have : ds.length ≤ j := List.drop_eq_nil_iff.1 hj
    obtain ⟨k, rfl⟩ : ∃ m, k = m + 1 := ⟨k - 1, by omega⟩
    have hp := twos_l1 s hs i c r h twos (by decide) (by decide) twos 0 k rfl (by simp at hk; exact Nat.lt_of_lt_of_le (by decide : twos.length + 20 < 26) (by omega))
    rw [vestryref08_sign.l0, if_neg (by omega)]
    exact hp
  | cons d rest ih =>
    intro j k hj hk
    simp only [List.length_cons] at hk
    obtain ⟨g1, g2, g3⟩ := rd_drop ds j d rest hj
    obtain ⟨k, rfl⟩ : ∃ m, k = m + 1 := ⟨k - 1, by omega⟩
    have hd5 : d.length = 5 := h5s d (List.mem_of_mem_drop (by rw [hj]; exact List.mem_cons_self))
    have W2 : Hid (wrap64 ((j : Int) + 1) = ((j + 1 : Nat) : Int)) := Lib.hid (up1 j 1 140737488351232 (Nat.le_refl _) (by omega))
    have hat := at_f s (bytes d) hs (by rw [Lib.size_eq]; show d.length ≤ 8; omega) i (by omega)
    rw [h, show (bytes d).data.toList = d from rfl] at hat
    have hw := word_f s hs (i + 1) k (by omega) (by omega)
    rw [h3] at hw
    have ih1 := ih (j + 1) k g3 (by omega)
    have hhd : headsOf (d :: rest) (c :: r) = if (d.isPrefixOf (c :: r) && decide (word r = 4)) = true then some d else headsOf rest (c :: r) := by
      unfold headsOf
      rw [List.find?_cons]
      show (match (d.isPrefixOf (c :: r) && decide (word r = 4)) with | true => some d | false => List.find? (fun d => d.isPrefixOf (c :: r) && decide (word (c :: r).tail = 4)) rest) = _
      by_cases hb : (d.isPrefixOf (c :: r) && decide (word r = 4)) = true
      · rw [if_pos hb, hb]
      · rw [if_neg hb, Bool.eq_false_iff.2 hb]
    rw [vestryref08_sign.l0, if_pos (by omega), if_pos (by omega), if_pos (by rw [List.length_map]; omega), g1, hat, hhd]
    simp only [Option.bind_some]
    rw [W1.out, W2.out]
    by_cases hp : d.isPrefixOf (c :: r) = true
    · rw [if_pos hp, hw]
      simp only [Option.bind_some]
      by_cases h4 : word r = 4
      · rw [if_pos (by omega), if_pos (by rw [hp, decide_eq_true h4]; rfl)]
      · rw [if_neg (by omega), if_neg (by rw [decide_eq_false h4]; simp), ih1]
    · rw [if_neg hp, if_neg (by simp [hp]), ih1]
theorem heads_take (l : List UInt8) : ∀ d, headsOf heads l = some d → d = l.take (1 + word l.tail) ∧ 1 + word l.tail = 5 ∧ l.head? = some 46 ∧ heads.contains (l.take (1 + word l.tail)) = true := by
  intro d hd
  unfold headsOf at hd
  have h1 := List.find?_some hd
  have h2 := List.mem_of_find?_eq_some hd
  simp only [Bool.and_eq_true, decide_eq_true_eq] at h1
  have h5 : d.length = 5 ∧ d.head? = some 46 := by
    have : ∀ x ∈ heads, x.length = 5 ∧ x.head? = some 46 := by decide
    exact this d h2
  have e := List.prefix_iff_eq_take.1 (List.isPrefixOf_iff_prefix.1 h1.1)
  rw [h5.1] at e
  have e2 : 1 + word l.tail = 5 := by omega
  rw [e2, ← e]
  refine ⟨rfl, rfl, ?_, by simpa using h2⟩
  have := h5.2
  rw [e] at this
  cases l with
  | nil => simp at this
  | cons a b => simpa using this
theorem heads_none (l : List UInt8) (hn : headsOf heads l = none) : ¬ (l.head? = some 46 ∧ heads.contains (l.take (1 + word l.tail)) = true) := by
  rintro ⟨_, hc⟩
  have hm : l.take (1 + word l.tail) ∈ heads := by simpa using hc
  have h5 : (l.take (1 + word l.tail)).length = 5 := by
    have : ∀ x ∈ heads, x.length = 5 := by decide
    exact this _ hm
  have hw := word_le l.tail
  rw [List.length_take] at h5
  rw [List.length_tail] at hw
  have h4 : word l.tail = 4 := by omega
  unfold headsOf at hn
  rw [List.find?_eq_none] at hn
  refine hn _ hm ?_
  simp only [Bool.and_eq_true, decide_eq_true_eq]
  exact ⟨List.isPrefixOf_iff_prefix.2 (List.take_prefix _ _), h4⟩
theorem sign_f (s : ByteArray) (hs : s.size ≤ 140737488351232) (i k : Nat) (c : UInt8) (r : List UInt8) (h : s.data.toList.drop i = c :: r) (hk : r.length + 40 < k) : vestryref08_sign.f k s i = some (bytes ((c :: r).take (signLen (c :: r)))) := by
  have := heads_l0 s hs i c r h heads (by decide) (by decide) heads 0 k rfl (by exact Nat.lt_of_le_of_lt (by have : heads.length = 4 := rfl; omega) hk)
  unfold vestryref08_sign.f
  simp only [Option.bind_some]
  refine Eq.trans this (congrArg some ?_)
  unfold signLen
  cases hh : headsOf heads (c :: r) with
  | some d =>
    obtain ⟨h1, h2, h3, h4⟩ := heads_take _ d hh
    simp only []
    rw [if_pos ⟨h3, h4⟩, h1]
  | none =>
    simp only []
    rw [if_neg (heads_none _ hh)]
    by_cases h2 : twos.contains ((c :: r).take 2) = true
    · rw [if_pos h2, if_pos h2]
    · rw [if_neg h2, if_neg h2]
      by_cases h1 : ones.contains c = true
      · rw [if_pos h1, if_pos h1]; rfl
      · rw [if_neg h1, if_neg h1]; rfl
theorem toks_gap {f p g : Nat} {l : List UInt8} {acc : List T} (h : gap1 l = g) (hg : 0 < g) : toks (f + 1) p l acc = toks (f + 1) (p + g) (l.drop g) acc := by
  have e := G_some h hg
  by_cases h2 : (G (l.drop g)).2 = true
  · rw [toks_ok (by rw [e]; exact h2), toks_ok h2, e]
    simp only []
    rw [List.drop_drop, Nat.add_assoc]
  · have h3 : (G (l.drop g)).2 = false := by simpa using h2
    rw [toks_bad (by rw [e]; exact h3), toks_bad h3, e]
    simp only []
    rw [Nat.add_assoc]
def tkS (t : T) : S30 := ⟨t.kind, bytes t.text, t.n, (t.at_ : Int)⟩
def told3 (r : List T × Int × Int) : List S30 × Int × Int := (r.1.map tkS, r.2.1, r.2.2)
theorem bytes_nil (l : List UInt8) : (bytes l).toList = ([] : List UInt8) ↔ l = [] := by
  rw [Lib.toList_data]
  exact Iff.rfl
theorem tokens_l0 (s : ByteArray) (hs : s.size ≤ 65536) : ∀ (m : Nat) (l : List UInt8), l.length ≤ m → ∀ (i f k : Nat) (acc : List T), s.data.toList.drop i = l → i ≤ s.size → acc.length ≤ i → l.length < f → 3 * l.length + 60 < k →
    vestryref08_Tokens.l0 k s (acc.map tkS) i = some (told3 (toks f i l acc)) := by
  have hz : s.size = s.data.toList.length := Lib.size_eq s
  have hs4 : s.size ≤ 140737488351232 := by omega
  intro m
  induction m with
  | zero =>
    intro l hl i f k acc h hi ha hf hk
    obtain rfl : l = [] := List.eq_nil_of_length_eq_zero (by omega)
    have : s.size ≤ i := by rw [hz]; exact List.drop_eq_nil_iff.1 h
    obtain ⟨k, rfl⟩ : ∃ j, k = j + 1 := ⟨k - 1, by omega⟩
    obtain ⟨f, rfl⟩ : ∃ j, f = j + 1 := ⟨f - 1, by omega⟩
    rw [vestryref08_Tokens.l0, if_neg (by omega), toks_ok (by rfl)]
    rfl
  | succ m ih =>
    intro l hl i f k acc h hi ha hf hk
    cases l with
    | nil => exact ih [] (by simp) i f k acc h hi ha hf hk
    | cons c r =>
      obtain ⟨h1, h2, h3⟩ := bt_of s i c r h
      obtain ⟨k, rfl⟩ : ∃ j, k = j + 1 := ⟨k - 1, by omega⟩
      obtain ⟨f, rfl⟩ : ∃ j, f = j + 1 := ⟨f - 1, by omega⟩
      have hcl : (c :: r).length = s.size - i := by rw [← h, List.length_drop, hz]
      have hgl := gap1_le (c :: r)
      have hlr : (c :: r).length = r.length + 1 := by simp
      have hg := gap_f s hs4 i k c r h (by omega)
      rw [vestryref08_Tokens.l0, if_pos h2, hg]
      simp only [Option.bind_some]
      by_cases hneg : gap1 (c :: r) < 0
      · rw [if_pos hneg, if_pos (by omega), toks_bad (by rw [G_open hneg]), G_open hneg]
        rfl
      · rw [if_neg hneg, if_neg (by omega)]
        by_cases hpos : 0 < gap1 (c :: r)
        · obtain ⟨g, hgg⟩ : ∃ g : Nat, gap1 (c :: r) = g := ⟨(gap1 (c :: r)).toNat, by omega⟩
          rw [hgg] at hpos hgl ⊢
          rw [if_pos (by omega), toks_gap hgg (by omega)]
          have := ih ((c :: r).drop g) (by rw [List.length_drop]; omega) (i + g) (f + 1) k acc (by rw [← h, List.drop_drop]) (by omega) (by omega) (by rw [List.length_drop]; omega) (by rw [List.length_drop]; omega)
          exact this
        · have h0 : gap1 (c :: r) = 0 := by omega
          have hG := G_none h0
          have hn := name_f s hs4 i k (by omega) (by omega)
          rw [h] at hn
          have hal : (acc.map tkS).length < 3518437208883 := by rw [List.length_map]; omega
          have hstep : ∀ kd tx n len, token (c :: r) = .tok kd tx n len → vestryref08_Tokens.l0 k s (acc.map tkS ++ [(⟨kd, bytes tx, n, (i : Int)⟩ : S30)]) ((i + len : Nat) : Int) = some (told3 (toks (f + 1) i (c :: r) acc)) := by
            intro kd tx n len ht
            have hle := token_le c r _ _ _ _ ht
            have e1 : toks (f + 1) i (c :: r) acc = toks f (i + len) ((c :: r).drop len) (acc ++ [⟨kd, tx, n, i⟩]) := by
              rw [toks_ok (by rw [hG]), hG]
              simp only [Nat.add_zero, List.drop_zero]
              exact aft_tok ht
            rw [e1]
            have := ih ((c :: r).drop len) (by rw [List.length_drop]; omega) (i + len) f k (acc ++ [⟨kd, tx, n, i⟩]) (by rw [← h, List.drop_drop]) (by omega) (by rw [List.length_append]; simp; omega) (by rw [List.length_drop]; omega) (by rw [List.length_drop]; omega)
            rw [← this, List.map_append]
            rfl
          have hbad : ∀ why off, token (c :: r) = .bad why off → toks (f + 1) i (c :: r) acc = ([], why, ((i + off : Nat) : Int)) := by
            intro why off ht
            rw [toks_ok (by rw [hG]), hG]
            simp only [Nat.add_zero, List.drop_zero]
            exact aft_bad ht
          have htc := token_cons c r
          rw [h0, if_neg (by omega), hn]
          simp only [Option.bind_some]
          by_cases h64 : 64 < name (c :: r)
          · rw [if_pos (by omega)]
            rw [if_pos h64] at htc
            rw [hbad _ _ htc]
            rfl
          · rw [if_neg (by omega)]
            rw [if_neg h64] at htc
            by_cases hn0 : 0 < name (c :: r)
            · have hnl := name_le (c :: r)
              have W1 : Hid (wrap64 ((i : Int) + (name (c :: r) : Int)) = ((i + name (c :: r) : Nat) : Int)) := Lib.hid (up1 i (name (c :: r)) s.size hs4 (by omega))
              rw [if_pos hn0] at htc
              rw [if_pos (by omega), if_pos (by omega), W1.out, if_pos (by omega), if_pos (by omega), if_pos hal]
              have e := hstep _ _ _ _ htc
              have e3 : s.extract (i : Int).toNat ((i + name (c :: r) : Nat) : Int).toNat = bytes ((c :: r).take (name (c :: r))) := by
                simp only [Int.toNat_natCast]
                have e5 : (s.extract i (i + name (c :: r))).data.toList = (c :: r).take (name (c :: r)) := by
                  rw [Lib.extract_data, h, Nat.add_sub_cancel_left]
                show ByteArray.mk (s.extract i (i + name (c :: r))).data = ByteArray.mk ((c :: r).take (name (c :: r))).toArray
                congr 1
                rw [← e5]
              rw [e3]
              exact e
            · rw [if_neg (by omega), if_pos (by omega), h1, LexRefTok.digit_is]
              rw [if_neg hn0] at htc
              simp only [Option.bind_some]
              have hfb : ∀ why off, token (c :: r) = .bad why off → (!(why == 0) || !(((i + off : Nat) : Int) == 0)) = true := by
                intro why off ht
                have := (token_bad c r why off ht).1
                simp [this]
              by_cases hd : dig c = true
              · rw [if_pos hd] at htc
                rw [if_pos hd, number_f s hs4 i k c r h hd (by omega)]
                simp only [Option.bind_some]
                cases ho : number (c :: r) with
                | bad why off =>
                  rw [ho] at htc
                  refine (if_pos (hfb _ _ htc)).trans ?_
                  rw [hbad _ _ htc]
                  rfl
                | tok kd tx n len =>
                  rw [ho] at htc
                  refine (if_neg (by simp [numTok])).trans ?_
                  rw [if_pos hal]
                  exact hstep _ _ _ _ htc
              · rw [if_neg hd] at htc
                rw [if_neg hd, ← h1]
                have e34 := bt_byte s i c r h 34
                rw [show ((34 : UInt8).toNat : Int) = 34 from rfl] at e34
                by_cases h34 : c = 34
                · rw [if_pos h34] at htc
                  rw [if_pos (e34.2 h34), text_f s hs4 i k c r h (by omega)]
                  simp only [Option.bind_some]
                  cases ho : text [] 1 r with
                  | bad why off =>
                    rw [ho] at htc
                    refine (if_pos (hfb _ _ htc)).trans ?_
                    rw [hbad _ _ htc]
                    rfl
                  | tok kd tx n len =>
                    rw [ho] at htc
                    refine (if_neg (by simp [numTok])).trans ?_
                    rw [if_pos hal]
                    exact hstep _ _ _ _ htc
                · rw [if_neg h34] at htc
                  rw [if_neg (fun x => h34 (e34.1 x)), sign_f s hs4 i k c r h (by omega)]
                  simp only [Option.bind_some]
                  unfold sign at htc
                  have hsl := signLen_le c r
                  by_cases hs0 : signLen (c :: r) = 0
                  · rw [if_pos hs0] at htc
                    rw [if_pos ((bytes_nil _).2 (by rw [hs0]; rfl))]
                    simp only [vestryref08_fault.f, Option.bind_some]
                    rw [if_pos (by simp), hbad _ _ htc]
                    rfl
                  · rw [if_neg hs0] at htc
                    have hbz : (bytes ((c :: r).take (signLen (c :: r)))).size = signLen (c :: r) := by
                      rw [Lib.size_eq]
                      show ((c :: r).take (signLen (c :: r))).length = _
                      rw [List.length_take]; omega
                    have W1 : Hid (wrap64 ((i : Int) + (signLen (c :: r) : Int)) = ((i + signLen (c :: r) : Nat) : Int)) := Lib.hid (up1 i (signLen (c :: r)) s.size hs4 (by omega))
                    rw [if_neg (fun x => hs0 (by
                      have := (bytes_nil _).1 x
                      have := congrArg List.length this
                      rw [List.length_take] at this
                      simp at this
                      omega)), if_pos hal, hbz, W1.out]
                    exact hstep _ _ _ _ htc
/-- what the document's Tokens answers -/
theorem tokens_f (s : ByteArray) (hs : s.size ≤ 140737488351232) : vestryref08_Tokens.f (3 * s.size + 100) s = some (told3 (lex s.data.toList)) := by
  have hz : s.size = s.data.toList.length := Lib.size_eq s
  unfold vestryref08_Tokens.f lex
  by_cases h : 65536 < s.size
  · rw [if_pos (by omega), if_pos (by omega)]
    rfl
  · rw [if_neg (by omega), if_neg (by omega)]
    exact tokens_l0 s (by omega) _ s.data.toList (Nat.le_refl _) 0 _ _ [] rfl (by omega) (by simp) (by omega) (by omega)
theorem ref_Tokens (s : ByteArray) (hs : s.size ≤ 140737488351232) (w : World) : Calls Tryd.prog 11 #[.string s] w fun e w' => ∃ v, e = .returned (.tuple #[v, .agg #[.int .i64 (lex s.data.toList).2.1, .int .i64 (lex s.data.toList).2.2]]) ∧ Kd.R k30 30 w' w.heap.size (fun _ => True) v ((lex s.data.toList).1.map tkS) ∧ Below w.heap.size w w' :=
  vestryref08_Tokens.calls _ s _ _ _ w (tokens_f s hs)
end Go.Proofs.YtafndkgoeabehaaDoor.LexRefTokens
namespace Go.Proofs.YtafndkgoeabehaaDoor.LexOwn
open Go Go.RowKit Go.Proofs.YtafndkgoeabehaaDoor.NumPure Go.Proofs.YtafndkgoeabehaaDoor.NumParse Go.Proofs.YtafndkgoeabehaaDoor.LexPure Go.Proofs.YtafndkgoeabehaaDoor.LexMem Go.Proofs.YtafndkgoeabehaaDoor.LexGaps Go.Proofs.YtafndkgoeabehaaDoor.LexTokens Go.Proofs.YtafndkgoeabehaaDoor.LexAlive Go.Proofs.YtafndkgoeabehaaDoor.LexRise Go.Proofs.YtafndkgoeabehaaDoor.LexRises Go.Proofs.YtafndkgoeabehaaDoor.LexShaped Go.Proofs.YtafndkgoeabehaaDoor.LexSame Go.Proofs.YtafndkgoeabehaaDoor.LexRefTokens Go.Proofs.YtafndkgoeabehaaDoorW.PrintWords
/-- a row of the call's own, whatever is in it -/
def Mine (w : World) (base : Nat) (v : Value) (n : Nat) : Prop := ∃ xs, w.ownsRow base 30 4 v n xs
theorem Mine.cells {w : World} {base n : Nat} {v : Value} (h : Mine w base v n) (hn : 0 < n) : ∃ g cap, v = .slice (some ⟨g, 0, none⟩) n cap ∧ g < w.heap.size ∧ base ≤ g ∧ (∀ j, j < n * 4 → ∃ u, w.cell? ⟨g, j, none⟩ = some u) ∧ ∀ j, w.frozen? ⟨g, j, none⟩ = false := by
  obtain ⟨xs, h⟩ := h
  obtain ⟨h0, ⟨rfl, h1⟩ | ⟨g, cap, cur, rfl, hg, h3, h4⟩⟩ := id h
  · omega
  · have hB : Blk w g 30 cur := h3
    refine ⟨g, cap, rfl, (h.lt g rfl).2, hg, fun j hj => ?_, hB.frozen⟩
    refine ⟨xs[j]'(by omega), ?_⟩
    rw [h.cellAt j hj, List.getElem?_eq_getElem]
theorem Mine.set {w : World} {base n : Nat} {v : Value} (h : Mine w base v n) (X j : Nat) (u : Value) : Mine (w.setCell ⟨X, j, none⟩ u) base v n := by
  obtain ⟨xs, h⟩ := h
  obtain ⟨h0, h1 | ⟨g, cap, cur, rfl, hg, h3, h4, h5, h6, h7⟩⟩ := id h
  · exact ⟨xs, h0, .inl h1⟩
  · have hB : Blk w g 30 cur := h3
    by_cases hX : g = X
    · subst hX
      exact ⟨(cur.setIfInBounds j u).toList.take (n * 4), by rw [List.length_take, Array.length_toList, Array.size_setIfInBounds, h6]; have := Nat.mul_le_mul_right 4 h4; omega, .inr ⟨g, cap, _, rfl, hg, hB.set_ j u, h4, h5, by rw [Array.size_setIfInBounds]; exact h6, rfl⟩⟩
    · exact ⟨xs, h0, .inr ⟨g, cap, cur, rfl, hg, hB.far (p := ⟨X, j, none⟩) hX u, h4, h5, h6, h7⟩⟩
theorem Mine.alloc {w : World} {base n : Nat} {v : Value} (h : Mine w base v n) (o : Obj) : Mine (w.alloc o) base v n := by
  obtain ⟨xs, h⟩ := h
  exact ⟨xs, h.alloc o⟩
/-- the document's row of tokens -/
theorem row_ref {w : World} {base : Nat} {ok : Nat → Prop} {v : Value} {l : List T} (h : Kd.R PTokens.k30 30 w base ok v (l.map tkS)) : Row w v (l.map tk) := by
  obtain ⟨_, inner, ho, hr⟩ := h
  have ho' : w.ownsRow base 30 4 v (l.map tkS).length inner := ho
  rw [List.length_map] at ho'
  obtain ⟨h0, ⟨rfl, h1⟩ | ⟨g, cap, cur, rfl, hg, h3, h4⟩⟩ := id ho'
  · obtain rfl : l = [] := List.eq_nil_of_length_eq_zero h1
    exact ⟨none, 0, rfl, fun i t ht => by simp at ht⟩
  · refine ⟨some ⟨g, 0, none⟩, cap, by rw [List.length_map], fun i t ht => ⟨g, rfl, (ho'.lt g rfl).2, fun k hk => ?_⟩⟩
    rw [List.getElem?_map] at ht
    obtain ⟨u, hu, rfl⟩ := Option.map_eq_some_iff.1 ht
    have hi : i < l.length := (List.getElem?_eq_some_iff.1 hu).1
    have hM := PTokens.k30_openM (hr.2 i (tkS u) (by rw [List.getElem?_map, hu]; rfl))
    rw [ho'.cellAt (i * 4 + k) (by omega)]
    have e : ((inner.drop (i * 4)).take 4)[k]? = inner[i * 4 + k]? := by
      rw [List.getElem?_take_of_lt hk, List.getElem?_drop]
    rw [← e]
    have e2 : (inner.drop (i * PTokens.k30.sz)).take PTokens.k30.sz = (inner.drop (i * 4)).take 4 := rfl
    rw [← e2, hM]
    rfl
set_option maxRecDepth 100000 in
set_option maxHeartbeats 4000000 in
theorem own_walk (s : ByteArray) (w : World) (hs : s.size ≤ 140737488351232) (h : MaxVar w ∧ ErrVar w) :
    Calls Tryd.prog 6 #[.string s] w fun e w' => e = .returned (.bool true) ∧ Below w.heap.size w w' := by
  have hlaw := lex_law s.data.toList
  rw [← Lib.size_eq] at hlaw
  have HAL := Lib.hid (alive_later w (lt_of_err h.2) h.1 h.2)
  have hT := tokens_later w s hs (lt_of_err h.2) h.1 h.2
  have hR := fun w2 => ref_Tokens s hs w2
  obtain ⟨l, y, a, hL⟩ : ∃ l y a, lex s.data.toList = (l, y, a) := ⟨_, _, _, rfl⟩
  rw [hL] at hT hlaw hR
  simp only [] at hT hlaw hR
  have hl63 : l.length ≤ 65536 := by
    by_cases h6 : 65536 < s.data.toList.length
    · unfold lex at hL
      rw [if_pos h6] at hL
      injection hL with hL _
      rw [← hL]
      decide
    · rw [← Lib.size_eq] at h6
      rcases hlaw with ⟨_, _, hr⟩ | ⟨_, rfl, _⟩
      · have := rise_len l s.size 0 hr.1 (fun t ht => ⟨Nat.zero_le _, hr.2 t ht⟩)
        omega
      · simp
  have HA := Lib.hid hT
  have HR := Lib.hid hR
  have HLX := Lib.hid hL
  have HL63 := Lib.hid hl63
  clear hT hL h hlaw hR hl63
  obtain ⟨n, hn⟩ : ∃ n, l.length = n := ⟨_, rfl⟩
  have HN := Lib.hid hn
  clear hn
  go_enter Tryd.func6, Tryd.ntmps6
  go_wp2_with (first
     | (go_at_call 8; (with_reducible refine (HA.out _ (Below.refl _ _)).mono ?_); rintro e w1 ⟨v, rfl, ho, hb1⟩
        obtain ⟨p, cap, rfl⟩ := row_slice ho
        rw [HN.out] at ho
        rw [HN.out]
        have HM : Hid (Mine w1 w.heap.size (.slice p n cap) n) := Lib.hid ⟨_, ho⟩
        have HB1 := Lib.hid hb1
        clear ho hb1))
  have HM1 := Lib.hid (HM.out.alloc (.cells #[.int .i64 y, .int .i64 a] 25))
  have HB2 := Lib.hid (HB1.out.alloc HB1.out.size (.cells #[.int .i64 y, .int .i64 a] 25))
  go_loopg [5, 17] (n + 1) (fun g v5 v17 wr => ∃ i : Nat, v17 = .int .i64 (i : Int) ∧ Hid (i ≤ n ∧ Mine wr w.heap.size (.slice p n cap) n ∧ Below w.heap.size w wr ∧ n - i < g))
  case atStart => exact ⟨0, rfl, Lib.hid ⟨Nat.zero_le _, HM1.out, HB2.out, by omega⟩⟩
  case round =>
    obtain ⟨i, rfl, HI⟩ := hrel
    by_cases hi : i < n
    · have hib : decide (i < n) = true := decide_eq_true hi
      obtain ⟨g, cap', hv, hgl, hgb, hc, hf⟩ := HI.out.2.1.cells (by omega)
      injection hv with hp _ hcap
      subst hp hcap
      obtain ⟨u0, c0⟩ := hc (i * 4) (by omega)
      obtain ⟨u1, c1⟩ := hc (i * 4 + 1) (by omega)
      obtain ⟨u2, c2⟩ := hc (i * 4 + 2) (by omega)
      obtain ⟨u3, c3⟩ := hc (i * 4 + 3) (by omega)
      have f0 := hf (i * 4)
      have f1 := hf (i * 4 + 1)
      have f2 := hf (i * 4 + 2)
      have f3 := hf (i * 4 + 3)
      have hil : (i : Int) + 1 ≤ 140737488351233 := by have := HL63.out; have := HN.out; omega
      clear hc hf
      go_wp2
      go_roundg (n - i)
      case measure => have := HI.out.2.2.2; omega
      case rel => exact ⟨i + 1, by first | rfl | (rw [wrap_up i (by have := HL63.out; have := HN.out; omega)]) | go_num, Lib.hid ⟨hi, (((HI.out.2.1.set _ _ _).set _ _ _).set _ _ _).set _ _ _, (((HI.out.2.2.1.setCell (p := ⟨g, i * 4, none⟩) hgb _).setCell (p := ⟨g, i * 4 + 1, none⟩) hgb _).setCell (p := ⟨g, i * 4 + 2, none⟩) hgb _).setCell (p := ⟨g, i * 4 + 3, none⟩) hgb _, by omega⟩⟩
    · have hib : decide (i < n) = false := decide_eq_false hi
      obtain ⟨xs, hown⟩ := HI.out.2.1
      have HO := Lib.hid hown
      have HB3 := Lib.hid HI.out.2.2.1
      have HLN : Hid (n ≤ 65536) := Lib.hid (by have := HL63.out; have := HN.out; omega)
      clear HI hown HM HM1 HB1 HB2
      go_wp2_with (first
       | (go_at_call 11; (with_reducible refine (HR.out _).mono ?_); rintro e w4 ⟨v4, rfl, hr4, hb4⟩
          have hK := (Blk.new w3 25 #[.int .i64 y, .int .i64 a]).below hb4 (by simp)
          have x0 := hK.cell 0
          have x1 := hK.cell 1
          simp at x0 x1
          have hlt4 : w3.heap.size < w4.heap.size := (by have := hb4.size; simp at this; omega)
          have HRow4 := Lib.hid (row_ref hr4)
          have HRow34 := Lib.hid ((HRow3.out.below ((Below.refl _ _).alloc (Nat.le_refl _) (.cells #[.int .i64 y, .int .i64 a] 25))).below hb4)
          have HB4 := Lib.hid ((HB3.out.alloc HB3.out.size (.cells #[.int .i64 y, .int .i64 a] 25)).trans (hb4.mono (by have := HB3.out.size; simp; omega)))
          have HS : Hid (∀ w5, Below w4.heap.size w4 w5 → Calls Tryd.prog 10 #[v3, v4, .bool true] w5 fun e w' => e = .returned (.bool true) ∧ Below w5.heap.size w5 w') := Lib.hid (fun w5 hb => same_any w5 _ _ _ _ true (HRow34.out.below hb) (HRow4.out.below hb) (by rw [List.length_map]; have := HL63.out; omega) rfl)
          clear hr4 hb4 hK)
       | (go_at_call 8; (with_reducible refine (HA.out _ HB2.out).mono ?_); rintro e w3 ⟨v3, rfl, ho3, hb3⟩
          have HRow3 := Lib.hid (Row.of_own (l := l.map tk) (by rw [List.length_map]; exact ho3))
          have HB3 := Lib.hid (HB2.out.trans (hb3.mono HB2.out.size))
          clear ho3 hb3 HB2)
       | (go_at_call 10; (with_reducible refine (HS.out _ ((Below.refl _ _).alloc (Nat.le_refl _) _)).mono ?_); rintro e w5 ⟨rfl, hb5⟩
          have hK5 := (Blk.new w4 25 #[.int .i64 y, .int .i64 a]).below hb5 (by simp)
          have z0 := hK5.cell 0
          have z1 := hK5.cell 1
          simp at z0 z1
          have hlt5 : w4.heap.size < w5.heap.size := (by have := hb5.size; simp at this; omega)
          have y0 : w5.cell? ⟨w3.heap.size, 0, none⟩ = some (.int .i64 y) := (hb5.cell (p := ⟨w3.heap.size, 0, none⟩) (by simp; omega)).trans ((((Below.refl w4.heap.size w4).alloc (Nat.le_refl _) _).cell (p := ⟨w3.heap.size, 0, none⟩) hlt4).trans x0)
          have y1 : w5.cell? ⟨w3.heap.size, 1, none⟩ = some (.int .i64 a) := (hb5.cell (p := ⟨w3.heap.size, 1, none⟩) (by simp; omega)).trans ((((Below.refl w4.heap.size w4).alloc (Nat.le_refl _) _).cell (p := ⟨w3.heap.size, 1, none⟩) hlt4).trans x1)
          have HB5 := Lib.hid ((HB4.out.alloc HB4.out.size (.cells #[.int .i64 y, .int .i64 a] 25)).trans (hb5.mono (by have := HB4.out.size; simp; omega)))
          clear hb5 hK5)
       | (go_at_call 9; (with_reducible refine (HAL.out _ HB5.out).mono ?_); rintro e w6 ⟨rfl, hb6⟩)
       | (at_builtin; refine print_append_cells (w0 := w) w.heap.size rfl (.tmp 25) (.tmp 27) 22 30 (.agg #[.int .i64 0, .string ⟨#[]⟩, .int .i64 0, .int .i64 0]) 4 40 rfl Tryd.underlying22 tokInfo rfl (by decide) (by decide) (.slice p n cap) n xs [.int .i64 0, .string ⟨#[]⟩, .int .i64 0, .int .i64 0] ?a1 ?a2 ?a3 ?one HO.out HB3.out HB3.out.size ?lim ?_; (try (case a1 => rfl)); (try (case a2 => rfl)); (case a3 => rfl); (case one => simp [Value.oneCell']); (case lim => have := HLN.out; omega); intro v1 w2 ho2 hb2 hg2 hat2
          have HB2 := Lib.hid hb2
          clear ho2 hb2 hg2 hat2 HB3 HO))
      go_ret
      exact ⟨rfl, HB5.out.trans (hb6.mono HB5.out.size)⟩
end Go.Proofs.YtafndkgoeabehaaDoor.LexOwn
