/- A text cut at a token's end, something blank or nothing behind it: the token is the same. -/
import Derived.Test.YtafndkgoeabehaaDoorLexRise
namespace Go.Proofs.YtafndkgoeabehaaDoor.LexCut
open Go Go.RowKit Go.Proofs.YtafndkgoeabehaaDoor.NumPure Go.Proofs.YtafndkgoeabehaaDoor.NumRead Go.Proofs.YtafndkgoeabehaaDoor.LexPure Go.Proofs.YtafndkgoeabehaaDoor.LexGap Go.Proofs.YtafndkgoeabehaaDoor.LexToks Go.Proofs.YtafndkgoeabehaaDoor.LexRise

/-- nothing, or a blank first -/
def Opn (X : List UInt8) : Prop := ∀ c r, X = c :: r → LexPure.blank c = true
theorem blank_not (c : UInt8) (h : LexPure.blank c = true) : letter c = false ∧ dig c = false ∧ c ≠ 46 ∧ c ≠ 47 ∧ c ≠ 42 ∧ c ≠ 45 ∧ c ≠ 58 ∧ c ≠ 61 := by
  have hh : ∀ n : Fin 256, LexPure.blank (UInt8.ofNat n.val) = true → letter (UInt8.ofNat n.val) = false ∧ dig (UInt8.ofNat n.val) = false ∧ UInt8.ofNat n.val ≠ 46 ∧ UInt8.ofNat n.val ≠ 47 ∧ UInt8.ofNat n.val ≠ 42 ∧ UInt8.ofNat n.val ≠ 45 ∧ UInt8.ofNat n.val ≠ 58 ∧ UInt8.ofNat n.val ≠ 61 := by decide +kernel
  have := hh ⟨c.toNat, c.toNat_lt⟩
  simpa using this (by simpa using h)
theorem wd_open {X : List UInt8} (h : Opn X) (k : Bool) : wd k X = 0 := by
  cases X with
  | nil => rfl
  | cons c r =>
    have := blank_not c (h c r rfl)
    unfold wd inWord
    rw [this.1, this.2.1]
    cases k <;> rfl
theorem wd_cut {X : List UInt8} (h : Opn X) (l : List UInt8) : ∀ k m, wd k l ≤ m → wd k (l.take m ++ X) = wd k l := by
  induction l with
  | nil => intro k m _; rw [List.take_nil, List.nil_append, wd_open h]; rfl
  | cons c r ih =>
    intro k m hm
    cases m with
    | zero => rw [List.take_zero, List.nil_append, wd_open h]; omega
    | succ m =>
      rw [List.take_succ_cons, List.cons_append]
      unfold wd at hm ⊢
      by_cases hc : inWord k c = true
      · rw [if_pos hc] at hm ⊢
        rw [if_pos hc, ih true m (by omega)]
      · rw [if_neg hc, if_neg hc]
theorem word_cut {X : List UInt8} (h : Opn X) (l : List UInt8) (m : Nat) (hm : word l ≤ m) : word (l.take m ++ X) = word l := wd_cut h l false m hm
theorem more_cut {X : List UInt8} (h : Opn X) : ∀ (f : Nat) (l : List UInt8) (m f' : Nat), l.length ≤ f → (l.take m ++ X).length ≤ f' → more f l ≤ m → more f' (l.take m ++ X) = more f l := by
  have hX : ∀ f', more f' X = 0 := fun f' => by
    cases f' with
    | zero => rfl
    | succ f' =>
      cases X with
      | nil => rfl
      | cons c r => unfold more; rw [if_neg (fun x => (blank_not c (h c r rfl)).2.2.1 x.1)]
  intro f
  induction f with
  | zero =>
    intro l m f' hl hf' _
    obtain rfl : l = [] := List.eq_nil_of_length_eq_zero (by omega)
    rw [List.take_nil, List.nil_append, hX]; rfl
  | succ f ih =>
    intro l m f' hl hf' hm
    cases l with
    | nil => rw [List.take_nil, List.nil_append, hX]; rfl
    | cons c r =>
      cases m with
      | zero => rw [List.take_zero, List.nil_append, hX]; omega
      | succ m =>
        rw [List.take_succ_cons, List.cons_append] at hf' ⊢
        obtain ⟨f', rfl⟩ : ∃ j, f' = j + 1 := ⟨f' - 1, by simp at hf'; omega⟩
        unfold more at hm ⊢
        have hwl := word_le r
        by_cases hc : c = 46 ∧ 0 < word r
        · rw [if_pos hc] at hm ⊢
          have hw := word_cut h r m (by omega)
          rw [if_pos ⟨hc.1, by rw [hw]; exact hc.2⟩, hw]
          have hd : (r.take m ++ X).drop (word r) = (r.drop (word r)).take (m - word r) ++ X := by
            rw [List.drop_append_of_le_length (by rw [List.length_take]; omega), List.drop_take]
          rw [hd, ih (r.drop (word r)) (m - word r) f' (by rw [List.length_drop]; simp at hl; omega) (by rw [← hd, List.length_drop]; simp at hf'; simp; omega) (by omega)]
        · rw [if_neg hc]
          by_cases hw0 : word r = 0
          · rw [if_neg (fun x => by rw [word_cut h r m (by omega), hw0] at x; omega)]
          · rw [if_neg (fun x => hc ⟨x.1, by omega⟩)]
theorem name_cut {X : List UInt8} (h : Opn X) (l : List UInt8) (m : Nat) (hm : name l ≤ m) : name (l.take m ++ X) = name l := by
  unfold name at hm ⊢
  have hwl := word_le l
  by_cases h0 : word l = 0
  · rw [if_pos h0, if_pos (by rw [word_cut h l m (by omega), h0])]
  · rw [if_neg h0] at hm ⊢
    have hw := word_cut h l m (by omega)
    have hd : (l.take m ++ X).drop (word l) = (l.drop (word l)).take (m - word l) ++ X := by
      rw [List.drop_append_of_le_length (by rw [List.length_take]; omega), List.drop_take]
    have hml := more_le l.length (l.drop (word l))
    rw [if_neg (by rw [hw]; exact h0), hw, hd, more_cut h l.length (l.drop (word l)) (m - word l) _ (by rw [List.length_drop]; omega) (by rw [← hd, List.length_drop]; omega) (by omega)]
theorem text_cut {X : List UInt8} : ∀ (n : Nat) (r : List UInt8), r.length ≤ n → ∀ b i kd tx k len m, text b i r = .tok kd tx k len → len ≤ i + m → text b i (r.take m ++ X) = .tok kd tx k len := by
  intro n
  induction n with
  | zero =>
    intro r hr b i kd tx k len m h
    obtain rfl : r = [] := List.eq_nil_of_length_eq_zero (by omega)
    simp [text] at h
  | succ n ih =>
    intro r hr b i kd tx k len m h hm
    have hle := text_le _ r (Nat.le_refl _) _ _ _ _ _ _ h
    cases r with
    | nil => simp [text] at h
    | cons c r =>
      obtain ⟨m, rfl⟩ : ∃ j, m = j + 1 := ⟨m - 1, by omega⟩
      rw [List.take_succ_cons, List.cons_append, text_cons]
      rw [text_cons] at h
      simp at hr
      by_cases h34 : c = 34
      · rw [if_pos h34] at h ⊢; exact h
      · rw [if_neg h34] at h ⊢
        by_cases h10 : c = 10
        · rw [if_pos h10] at h; cases h
        · rw [if_neg h10] at h ⊢
          by_cases h92 : c = 92
          · rw [if_pos h92] at h ⊢
            cases r with
            | nil => simp at h
            | cons d r =>
              simp only [] at h
              cases he : esc d with
              | none => rw [he] at h; simp at h
              | some e =>
                rw [he] at h
                simp at hr
                have hl2 := text_le _ r (Nat.le_refl _) _ _ _ _ _ _ h
                obtain ⟨m, rfl⟩ : ∃ j, m = j + 1 := ⟨m - 1, by omega⟩
                rw [List.take_succ_cons, List.cons_append]
                simp only [he]
                exact ih r (by omega) _ _ _ _ _ _ m h (by omega)
          · rw [if_neg h92] at h ⊢
            exact ih r (by omega) _ _ _ _ _ _ m h (by omega)
theorem run_cut {X : List UInt8} (h : Opn X) (l : List UInt8) : ∀ m, run l ≤ m → run (l.take m ++ X) = run l := by
  have hX : run X = 0 := by
    cases X with
    | nil => rfl
    | cons c r => unfold run; rw [List.takeWhile_cons_of_neg (by rw [(blank_not c (h c r rfl)).2.1]; decide)]; rfl
  induction l with
  | nil => intro m _; rw [List.take_nil, List.nil_append, hX]; rfl
  | cons c r ih =>
    intro m hm
    cases m with
    | zero => rw [List.take_zero, List.nil_append, hX]; omega
    | succ m =>
      rw [List.take_succ_cons, List.cons_append]
      by_cases hc : dig c = true
      · have e : ∀ t, run (c :: t) = run t + 1 := fun t => by unfold run; rw [List.takeWhile_cons_of_pos hc]; rfl
        rw [e] at hm ⊢
        rw [e, ih m (by omega)]
      · have e : ∀ t, run (c :: t) = 0 := fun t => by unfold run; rw [List.takeWhile_cons_of_neg hc]; rfl
        rw [e, e]
theorem numLen_cut {X : List UInt8} (h : Opn X) (c : UInt8) (r : List UInt8) (m : Nat) (hm : numLen (c :: r) ≤ m) : numLen ((c :: r).take m ++ X) = numLen (c :: r) := by
  have hb := numLen_bound c r
  obtain ⟨m, rfl⟩ : ∃ j, m = j + 1 := ⟨m - 1, by omega⟩
  rw [List.take_succ_cons, List.cons_append]
  unfold numLen at hm ⊢
  by_cases hc : c = 48
  · rw [if_pos (by rw [hc]; rfl), if_pos (by rw [hc]; rfl)]
  · rw [if_neg (by simpa using hc)] at hm ⊢
    rw [if_neg (by simpa using hc)]
    simp only [List.tail_cons] at hm ⊢
    rw [run_cut h r m (by omega)]
theorem stands_open {X : List UInt8} (h : Opn X) : stands X = false := by
  cases X with
  | nil => rfl
  | cons c r =>
    have := blank_not c (h c r rfl)
    show (dig c || letter c) = false
    rw [this.1, this.2.1]; rfl
theorem number_cut {X : List UInt8} (h : Opn X) (c : UInt8) (r : List UInt8) (m : Nat) (kd : Int) (tx : List UInt8) (k : Int) (len : Nat) (ht : number (c :: r) = .tok kd tx k len) (hm : len ≤ m) : number ((c :: r).take m ++ X) = .tok kd tx k len := by
  have hb := numLen_bound c r
  obtain ⟨N, hN⟩ : ∃ N, numLen (c :: r) = N := ⟨_, rfl⟩
  unfold number at ht ⊢
  rw [hN] at ht hb
  by_cases hs : stands ((c :: r).drop N) = true
  · rw [if_pos hs] at ht; cases ht
  · rw [if_neg hs] at ht
    have hlen : len = N := by
      split at ht
      · injection ht with _ _ _ h4; exact h4.symm
      · cases ht
    have hNm : N ≤ m := by omega
    rw [numLen_cut h c r m (by omega), hN]
    have hd : ((c :: r).take m ++ X).drop N = ((c :: r).drop N).take (m - N) ++ X := by
      rw [List.drop_append_of_le_length (by rw [List.length_take]; omega), List.drop_take]
    have htk : ((c :: r).take m ++ X).take N = (c :: r).take N := by
      rw [List.take_append_of_le_length (by rw [List.length_take]; omega), List.take_take, Nat.min_eq_left hNm]
    have hst : ¬ stands (((c :: r).take m ++ X).drop N) = true := by
      rw [hd]
      cases hq : (c :: r).drop N with
      | nil => rw [List.take_nil, List.nil_append, stands_open h]; decide
      | cons d q =>
        rw [hq] at hs
        cases m - N with
        | zero => rw [List.take_zero, List.nil_append, stands_open h]; decide
        | succ j => rw [List.take_succ_cons, List.cons_append]; exact hs
    rw [if_neg hst, htk]
    exact ht
theorem twos_snd (c d : UInt8) (h : LexPure.blank d = true) : twos.contains [c, d] = false := by
  have := blank_not d h
  simp [twos]
  grind
theorem twos_fst (c d : UInt8) (h : twos.contains [c, d] = true) : c ≠ 46 := by
  simp [twos] at h
  grind
theorem heads_dot : heads.contains [46] = false := rfl
/-- what a sign's length hangs on, of a text that is not empty -/
theorem signLen_cons (c : UInt8) (r : List UInt8) : signLen (c :: r) = if c = 46 ∧ heads.contains ((c :: r).take (1 + word r)) = true then 1 + word r else if twos.contains ((c :: r).take 2) = true then 2 else if ones.contains c = true then 1 else 0 := by
  unfold signLen
  simp only [List.head?_cons, List.tail_cons, Option.some.injEq]
theorem signLen_cut {X : List UInt8} (h : Opn X) (c : UInt8) (r : List UInt8) (m : Nat) (h0 : 0 < signLen (c :: r)) (hm : signLen (c :: r) ≤ m) (hw : m = signLen (c :: r) ∨ signLen (c :: r) + word ((c :: r).drop (signLen (c :: r))) ≤ m) : signLen ((c :: r).take m ++ X) = signLen (c :: r) := by
  obtain ⟨m, rfl⟩ : ∃ j, m = j + 1 := ⟨m - 1, by omega⟩
  rw [List.take_succ_cons, List.cons_append, signLen_cons c r] at *
  rw [signLen_cons c (r.take m ++ X)]
  have hwl := word_le r
  by_cases hA : c = 46 ∧ heads.contains ((c :: r).take (1 + word r)) = true
  · rw [if_pos hA] at hm ⊢
    have hwc := word_cut h r m (by omega)
    have htk : (c :: (r.take m ++ X)).take (1 + word r) = (c :: r).take (1 + word r) := by
      rw [Nat.add_comm 1, List.take_succ_cons, List.take_succ_cons, List.take_append_of_le_length (by rw [List.length_take]; omega), List.take_take, Nat.min_eq_left (by omega)]
    rw [if_pos ⟨hA.1, by rw [hwc, htk]; exact hA.2⟩, hwc]
  · rw [if_neg hA] at hm hw h0 ⊢
    by_cases hB : twos.contains ((c :: r).take 2) = true
    · rw [if_pos hB] at hm ⊢
      cases r with
      | nil => simp [twos] at hB
      | cons d r =>
        have hc46 := twos_fst c d (by simpa using hB)
        obtain ⟨m, rfl⟩ : ∃ j, m = j + 1 := ⟨m - 1, by omega⟩
        rw [if_neg (fun x => hc46 x.1), if_pos (by simpa using hB)]
    · rw [if_neg hB] at hm hw h0 ⊢
      by_cases hC : ones.contains c = true
      · rw [if_pos hC] at hm hw ⊢
        have hA2 : ¬ (c = 46 ∧ heads.contains ((c :: (r.take m ++ X)).take (1 + word (r.take m ++ X))) = true) := by
          rintro ⟨hc, hh⟩
          subst hc
          rcases hw with hw | hw
          · have hm0 : m = 0 := by omega
            subst hm0
            rw [List.take_zero, List.nil_append, show word X = 0 from wd_open h false] at hh
            simp [heads] at hh
          · simp only [List.drop_succ_cons, List.drop_zero] at hw
            have hwc := word_cut h r m (by omega)
            rw [hwc] at hh
            have htk : ((46 : UInt8) :: (r.take m ++ X)).take (1 + word r) = ((46 : UInt8) :: r).take (1 + word r) := by
              rw [Nat.add_comm 1, List.take_succ_cons, List.take_succ_cons, List.take_append_of_le_length (by rw [List.length_take]; omega), List.take_take, Nat.min_eq_left (by omega)]
            rw [htk] at hh
            exact hA ⟨rfl, hh⟩
        have hB2 : ¬ twos.contains ((c :: (r.take m ++ X)).take 2) = true := by
          have hX2 : ¬ twos.contains ((c :: X).take 2) = true := by
            cases X with
            | nil => simp [twos]
            | cons x t =>
              have := twos_snd c x (h x t rfl)
              simp only [List.take_succ_cons, List.take_zero]
              rw [this]; decide
          cases r with
          | nil => rw [List.take_nil, List.nil_append]; exact hX2
          | cons d r =>
            cases m with
            | zero => rw [List.take_zero, List.nil_append]; exact hX2
            | succ m => simpa using hB
        rw [if_neg hA2, if_neg hB2]
      · rw [if_neg hC] at h0; omega
theorem token_cut {X : List UInt8} (h : Opn X) (c : UInt8) (r : List UInt8) (m : Nat) (kd : Int) (tx : List UInt8) (k : Int) (len : Nat) (ht : token (c :: r) = .tok kd tx k len) (hm : len ≤ m) (hw : m = len ∨ len + word ((c :: r).drop len) ≤ m) : token ((c :: r).take m ++ X) = .tok kd tx k len := by
  have hle := token_le c r _ _ _ _ ht
  obtain ⟨j, rfl⟩ : ∃ j, m = j + 1 := ⟨m - 1, by omega⟩
  have hcons : (c :: r).take (j + 1) ++ X = c :: (r.take j ++ X) := by rw [List.take_succ_cons, List.cons_append]
  have hnl := name_le (c :: r)
  rw [hcons, token_cons, ← hcons]
  rw [token_cons] at ht
  by_cases h64 : 64 < name (c :: r)
  · rw [if_pos h64] at ht; cases ht
  · rw [if_neg h64] at ht
    by_cases hn0 : 0 < name (c :: r)
    · rw [if_pos hn0] at ht
      have hlen : name (c :: r) = len := by injection ht
      have hnc := name_cut h (c :: r) (j + 1) (by omega)
      rw [hnc, if_neg h64, if_pos hn0]
      have htk : ((c :: r).take (j + 1) ++ X).take (name (c :: r)) = (c :: r).take (name (c :: r)) := by
        rw [List.take_append_of_le_length (by rw [List.length_take]; omega), List.take_take, Nat.min_eq_left (by omega)]
      rw [htk]
      exact ht
    · rw [if_neg hn0] at ht
      have hnc := name_cut h (c :: r) (j + 1) (by omega)
      rw [hnc, if_neg h64, if_neg hn0]
      by_cases hd : dig c = true
      · rw [if_pos hd] at ht ⊢
        exact number_cut h c r (j + 1) _ _ _ _ ht hm
      · rw [if_neg hd] at ht ⊢
        by_cases h34 : c = 34
        · rw [if_pos h34] at ht ⊢
          exact text_cut _ r (Nat.le_refl _) _ _ _ _ _ _ j ht (by omega)
        · rw [if_neg h34] at ht ⊢
          unfold sign at ht ⊢
          have hs0 : 0 < signLen (c :: r) := by
            rcases Nat.eq_zero_or_pos (signLen (c :: r)) with h0 | h0
            · rw [if_pos h0] at ht; cases ht
            · exact h0
          rw [if_neg (by omega)] at ht
          have hlen : signLen (c :: r) = len := by injection ht
          have hsc := signLen_cut h c r (j + 1) hs0 (by omega) (by rw [hlen]; exact hw)
          have htk : ((c :: r).take (j + 1) ++ X).take (signLen (c :: r)) = (c :: r).take (signLen (c :: r)) := by
            rw [List.take_append_of_le_length (by rw [List.length_take]; omega), List.take_take, Nat.min_eq_left (by omega)]
          rw [hsc, if_neg (by omega), htk]
          exact ht

/-! gaps -/
theorem eol_app (Z : List UInt8) (l : List UInt8) : ∀ m, eol l < m → m ≤ l.length → eol (l.take m ++ Z) = eol l := by
  induction l with
  | nil => intro m h1 h2; simp at h2; omega
  | cons c r ih =>
    intro m h1 h2
    obtain ⟨m, rfl⟩ : ∃ j, m = j + 1 := ⟨m - 1, by omega⟩
    rw [List.take_succ_cons, List.cons_append]
    unfold eol at h1 ⊢
    by_cases hc : c = 10
    · rw [if_pos hc, if_pos hc]
    · rw [if_neg hc] at h1 ⊢
      rw [if_neg hc, ih m (by omega) (by simp at h2; omega)]
theorem close_app (Z : List UInt8) (l : List UInt8) : ∀ m n, close l = some n → n ≤ m → close (l.take m ++ Z) = some n := by
  induction l with
  | nil => intro m n h; simp [close] at h
  | cons c r ih =>
    intro m n h hm
    have hb := close_le _ _ h
    obtain ⟨m, rfl⟩ : ∃ j, m = j + 1 := ⟨m - 1, by omega⟩
    rw [List.take_succ_cons, List.cons_append]
    unfold close at h ⊢
    by_cases hp : [42, 47].isPrefixOf (c :: r) = true
    · rw [if_pos hp] at h
      injection h with h
      obtain ⟨m, rfl⟩ : ∃ j, m = j + 1 := ⟨m - 1, by omega⟩
      cases r with
      | nil => simp [List.isPrefixOf] at hp
      | cons d r =>
        rw [List.take_succ_cons, List.cons_append, if_pos (by simpa [List.isPrefixOf] using hp), h]
    · rw [if_neg hp] at h
      cases hc : close r with
      | none => rw [hc] at h; simp at h
      | some k =>
        rw [hc] at h
        simp at h
        have hk := close_le _ _ hc
        have hp2 : ¬ [42, 47].isPrefixOf (c :: (r.take m ++ Z)) = true := by
          cases r with
          | nil => simp [close] at hc
          | cons d r =>
            obtain ⟨m, rfl⟩ : ∃ j, m = j + 1 := ⟨m - 1, by omega⟩
            rw [List.take_succ_cons, List.cons_append]
            simpa [List.isPrefixOf] using hp
        rw [if_neg hp2, ih m k hc (by omega)]
        simp; omega
/-- a gap stays, whatever stands behind it; a line's comment by the line's end -/
theorem gap1_app (Z : List UInt8) (l : List UInt8) (n m : Nat) (h : gap1 l = n) (hn : 0 < n) (hm : n ≤ m) (hml : m ≤ l.length) (hl : n < m ∨ [47, 47].isPrefixOf l = false) : gap1 (l.take m ++ Z) = n := by
  cases l with
  | nil => simp [gap1] at h; omega
  | cons c r =>
    obtain ⟨m, rfl⟩ : ∃ j, m = j + 1 := ⟨m - 1, by omega⟩
    have hcons : (c :: r).take (m + 1) ++ Z = c :: (r.take m ++ Z) := by rw [List.take_succ_cons, List.cons_append]
    rw [hcons, gap1_cons, ← hcons]
    rw [gap1_cons] at h
    by_cases h1 : LexPure.blank c = true
    · rw [if_pos h1] at h ⊢; exact h
    · rw [if_neg h1] at h ⊢
      by_cases h2 : [47, 47].isPrefixOf (c :: r) = true
      · rw [if_pos h2] at h
        rcases hl with hl | hl
        · have hee : eol (c :: r) = n := by omega
          cases r with
          | nil => simp [List.isPrefixOf] at h2
          | cons d r =>
            obtain ⟨m, rfl⟩ : ∃ j, m = j + 1 := ⟨m - 1, by simp at hml; simp [List.isPrefixOf] at h2; obtain ⟨h2a, h2b⟩ := h2; subst h2a h2b; simp [eol] at hee; omega⟩
            rw [if_pos (by rw [List.take_succ_cons, List.take_succ_cons, List.cons_append, List.cons_append]; simpa [List.isPrefixOf] using h2), eol_app Z (c :: d :: r) (m + 1 + 1) (by omega) hml]
            exact h
        · rw [hl] at h2; cases h2
      · rw [if_neg h2] at h
        by_cases h3 : [47, 42].isPrefixOf (c :: r) = true
        · rw [if_pos h3] at h
          cases r with
          | nil => simp [List.isPrefixOf] at h3
          | cons d r =>
            simp only [List.drop_succ_cons, List.drop_zero] at h
            cases hc : close r with
            | none => rw [hc] at h; simp at h
            | some k =>
              rw [hc] at h
              simp only [] at h
              obtain ⟨m, rfl⟩ : ∃ j, m = j + 1 := ⟨m - 1, by omega⟩
              have e : (c :: d :: r).take (m + 1 + 1) ++ Z = c :: d :: (r.take m ++ Z) := by rw [List.take_succ_cons, List.take_succ_cons, List.cons_append, List.cons_append]
              rw [e, if_neg (by simpa [List.isPrefixOf] using h2), if_pos (by simpa [List.isPrefixOf] using h3), List.take_succ_cons, List.cons_append]
              simp only [List.drop_succ_cons, List.drop_zero]
              rw [close_app Z r m k hc (by omega)]
              exact h
        · rw [if_neg h3] at h; omega
theorem gap1_none {X : List UInt8} (hX : Opn X) (c : UInt8) (r : List UInt8) (m : Nat) (h : gap1 (c :: r) = 0) : gap1 ((c :: r).take (m + 1) ++ X) = 0 := by
  rw [List.take_succ_cons, List.cons_append, gap1_cons]
  rw [gap1_cons] at h
  by_cases h1 : LexPure.blank c = true
  · rw [if_pos h1] at h; omega
  · rw [if_neg h1] at h ⊢
    have hX2 : ∀ x, x = 47 ∨ x = 42 → ¬ [47, x].isPrefixOf (c :: X) = true := by
      intro x hx
      cases X with
      | nil => simp [List.isPrefixOf]
      | cons y t =>
        have := blank_not y (hX y t rfl)
        simp [List.isPrefixOf]
        intro _
        rcases hx with rfl | rfl
        · exact fun e => this.2.2.2.1 e.symm
        · exact fun e => this.2.2.2.2.1 e.symm
    have key : ∀ x, x = 47 ∨ x = 42 → ¬ [47, x].isPrefixOf (c :: r) = true → ¬ [47, x].isPrefixOf (c :: (r.take m ++ X)) = true := by
      intro x hx hp
      cases r with
      | nil => rw [List.take_nil, List.nil_append]; exact hX2 x hx
      | cons d r =>
        cases m with
        | zero => rw [List.take_zero, List.nil_append]; exact hX2 x hx
        | succ m => rw [List.take_succ_cons, List.cons_append]; simpa [List.isPrefixOf] using hp
    by_cases h2 : [47, 47].isPrefixOf (c :: r) = true
    · rw [if_pos h2] at h
      exfalso
      cases r with
      | nil => simp [List.isPrefixOf] at h2
      | cons d r =>
        simp [List.isPrefixOf] at h2
        obtain ⟨h2a, h2b⟩ := h2
        subst h2a h2b
        simp [eol] at h
        omega
    · rw [if_neg h2] at h
      by_cases h3 : [47, 42].isPrefixOf (c :: r) = true
      · rw [if_pos h3] at h
        exfalso
        cases hc : close (r.drop 1) with
        | none => rw [hc] at h; simp at h
        | some k => rw [hc] at h; simp at h; omega
      · rw [if_neg (key 47 (.inl rfl) h2), if_neg (key 42 (.inr rfl) h3)]
/-- a line's comment with something behind the gaps: the gaps go on behind it -/
theorem G_line (l : List UInt8) (n : Nat) (h : gap1 l = n) (hn : 0 < n) (hp : [47, 47].isPrefixOf l = true) (hd : l.drop (G l).1 ≠ []) : n < (G l).1 := by
  have hg := G_some h hn
  rw [hg] at hd ⊢
  simp only [] at hd ⊢
  have hee : eol l = n := by
    cases l with
    | nil => simp [List.isPrefixOf] at hp
    | cons c r =>
      rw [gap1_cons] at h
      have hb : ¬ LexPure.blank c = true := by
        cases r with
        | nil => simp [List.isPrefixOf] at hp
        | cons d r =>
          simp [List.isPrefixOf] at hp
          obtain ⟨h1, h2⟩ := hp
          subst h1
          decide
      rw [if_neg hb, if_pos hp] at h
      omega
  have heol : ∀ (t : List UInt8), t.drop (eol t) = [] ∨ ∃ q, t.drop (eol t) = 10 :: q := by
    intro t
    induction t with
    | nil => exact .inl rfl
    | cons c r ih =>
      unfold eol
      by_cases hc : c = 10
      · rw [if_pos hc]; exact .inr ⟨r, by rw [hc]; rfl⟩
      · rw [if_neg hc]; simpa using ih
  rcases heol l with h1 | ⟨q, h1⟩
  · rw [hee] at h1
    rw [h1] at hd
    exact absurd (by rw [← List.drop_drop, h1]; simp) hd
  · rw [hee] at h1
    have h2 : gap1 (10 :: q) = (1 : Nat) := rfl
    rw [h1, G_some h2 (by decide)]
    simp only []
    omega
/-- the gaps at a cut text's begin: the cut lies behind them -/
theorem G_cut {X : List UInt8} (hX : Opn X) : ∀ (z : Nat) (l : List UInt8) (m : Nat), l.length ≤ z → (G l).2 = true → (G l).1 < m → m ≤ l.length → G (l.take m ++ X) = G l := by
  intro z
  induction z with
  | zero => intro l m hz hk h1 h2; omega
  | succ z ih =>
    intro l m hz hk h1 h2
    have hb := gap1_le l
    have hd : l.drop (G l).1 ≠ [] := fun e => by rw [List.drop_eq_nil_iff] at e; omega
    by_cases h0 : gap1 l = 0
    · cases l with
      | nil => simp at h2; omega
      | cons c r =>
        obtain ⟨m, rfl⟩ : ∃ j, m = j + 1 := ⟨m - 1, by omega⟩
        rw [G_none h0, G_none (gap1_none hX c r m h0)]
    · by_cases hneg : gap1 l < 0
      · rw [G_open hneg] at hk; cases hk
      · obtain ⟨n, hn⟩ : ∃ n : Nat, gap1 l = n := ⟨(gap1 l).toNat, by omega⟩
        have hn0 : 0 < n := by omega
        have hg := G_some hn hn0
        have hg1 : (G l).1 = n + (G (l.drop n)).1 := by rw [hg]
        have hline : n < m ∨ [47, 47].isPrefixOf l = false := .inl (by omega)
        rw [hg] at hk
        have e1 := gap1_app X l n m hn hn0 (by omega) h2 hline
        have hdr : (l.take m ++ X).drop n = (l.drop n).take (m - n) ++ X := by
          rw [List.drop_append_of_le_length (by rw [List.length_take]; omega), List.drop_take]
        rw [G_some e1 hn0, hdr, ih (l.drop n) (m - n) (by rw [List.length_drop]; omega) hk (by omega) (by rw [List.length_drop]; omega), hg]
/-- the cut lies just behind the gaps, something else behind it -/
theorem G_app (Y : List UInt8) : ∀ (z : Nat) (l : List UInt8), l.length ≤ z → (G l).2 = true → l.drop (G l).1 ≠ [] → G (l.take (G l).1 ++ Y) = ((G l).1 + (G Y).1, (G Y).2) := by
  intro z
  induction z with
  | zero =>
    intro l hz _ hd
    obtain rfl : l = [] := List.eq_nil_of_length_eq_zero (by omega)
    simp at hd
  | succ z ih =>
    intro l hz hk hd
    have hb := gap1_le l
    have hgl := G_le l
    by_cases h0 : gap1 l = 0
    · rw [G_none h0]; simp
    · by_cases hneg : gap1 l < 0
      · rw [G_open hneg] at hk; cases hk
      · obtain ⟨n, hn⟩ : ∃ n : Nat, gap1 l = n := ⟨(gap1 l).toNat, by omega⟩
        have hn0 : 0 < n := by omega
        have hg := G_some hn hn0
        have hg1 : (G l).1 = n + (G (l.drop n)).1 := by rw [hg]
        have hline : n < (G l).1 ∨ [47, 47].isPrefixOf l = false := by
          by_cases hp : [47, 47].isPrefixOf l = true
          · exact .inl (G_line l n hn hn0 hp hd)
          · exact .inr (Bool.eq_false_iff.2 hp)
        have hk2 : (G (l.drop n)).2 = true := by rw [hg] at hk; exact hk
        have e1 := gap1_app Y l n (G l).1 hn hn0 (by omega) hgl hline
        have hdr : (l.take (G l).1 ++ Y).drop n = (l.drop n).take (G (l.drop n)).1 ++ Y := by
          rw [List.drop_append_of_le_length (by rw [List.length_take]; omega), List.drop_take, hg1, Nat.add_sub_cancel_left]
        rw [G_some e1 hn0, hdr, ih (l.drop n) (by rw [List.length_drop]; omega) hk2 (by rw [List.drop_drop, ← hg1]; exact hd), hg1, Nat.add_assoc]
end Go.Proofs.YtafndkgoeabehaaDoor.LexCut
