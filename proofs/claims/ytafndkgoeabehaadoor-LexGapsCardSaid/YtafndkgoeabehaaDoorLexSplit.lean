/- A text's tokens at a cut ahead of one of them. -/
import Derived.Test.YtafndkgoeabehaaDoorLexCut
namespace Go.Proofs.YtafndkgoeabehaaDoor.LexSplit
open Go Go.RowKit Go.Proofs.YtafndkgoeabehaaDoor.NumPure Go.Proofs.YtafndkgoeabehaaDoor.NumRead Go.Proofs.YtafndkgoeabehaaDoor.LexPure Go.Proofs.YtafndkgoeabehaaDoor.LexGap Go.Proofs.YtafndkgoeabehaaDoor.LexToks Go.Proofs.YtafndkgoeabehaaDoor.LexRise Go.Proofs.YtafndkgoeabehaaDoor.LexCut

theorem toks_rounds : ∀ (f g p : Nat) (l : List UInt8) (acc : List T), l.length < f → l.length < g → toks f p l acc = toks g p l acc := by
  intro f
  induction f with
  | zero => intro g p l acc hf; omega
  | succ f ih =>
    intro g p l acc hf hg
    obtain ⟨g, rfl⟩ : ∃ j, g = j + 1 := ⟨g - 1, by omega⟩
    by_cases hk : (G l).2 = true
    · rw [toks_ok hk, toks_ok hk]
      cases hd : l.drop (G l).1 with
      | nil => rfl
      | cons c r =>
        have hcl : (c :: r).length = l.length - (G l).1 := by rw [← hd, List.length_drop]
        cases ht : token (c :: r) with
        | bad y off => rw [aft_bad ht, aft_bad ht]
        | tok kd tx n len =>
          have hle := token_le c r _ _ _ _ ht
          rw [aft_tok ht, aft_tok ht]
          exact ih g _ _ _ (by rw [List.length_drop]; omega) (by rw [List.length_drop]; omega)
    · rw [toks_bad (by simpa using hk), toks_bad (by simpa using hk)]

/-- a token further on -/
def sh (d : Nat) (t : T) : T := { t with at_ := t.at_ + d }
theorem toks_tail : ∀ (f p : Nat) (l : List UInt8) (acc : List T), (toks f p l acc).2.1 = 0 → ∃ t, toks f p l acc = (acc ++ t, 0, 0) ∧ ∀ acc' d, toks f (p + d) l acc' = (acc' ++ t.map (sh d), 0, 0) := by
  intro f
  induction f with
  | zero => intro p l acc _; exact ⟨[], by simp [toks], fun acc' d => by simp [toks]⟩
  | succ f ih =>
    intro p l acc h
    by_cases hk : (G l).2 = true
    · rw [toks_ok hk] at h ⊢
      cases hd : l.drop (G l).1 with
      | nil => exact ⟨[], by simp [aft_nil], fun acc' d => by rw [toks_ok hk, hd]; simp [aft_nil]⟩
      | cons c r =>
        rw [hd] at h
        cases ht : token (c :: r) with
        | bad y off => rw [aft_bad ht] at h; exact absurd h (token_bad c r y off ht).1
        | tok kd tx n len =>
          rw [aft_tok ht] at h ⊢
          obtain ⟨t, h1, h2⟩ := ih _ _ _ h
          refine ⟨⟨kd, tx, n, p + (G l).1⟩ :: t, by rw [h1]; simp, fun acc' d => ?_⟩
          rw [toks_ok hk, hd, aft_tok ht]
          have := h2 (acc' ++ [⟨kd, tx, n, p + d + (G l).1⟩]) d
          rw [show p + d + (G l).1 + len = p + (G l).1 + len + d by omega, this]
          simp [sh]
          omega
    · rw [toks_bad (by simpa using hk)] at h
      simp at h

theorem G_rest : ∀ (z : Nat) (l : List UInt8), l.length ≤ z → (G l).2 = true → gap1 (l.drop (G l).1) = 0 := by
  intro z
  induction z with
  | zero =>
    intro l hz _
    obtain rfl : l = [] := List.eq_nil_of_length_eq_zero (by omega)
    simp [gap1]
  | succ z ih =>
    intro l hz hk
    have hb := gap1_le l
    by_cases h0 : gap1 l = 0
    · rw [G_none h0]; exact h0
    · by_cases hneg : gap1 l < 0
      · rw [G_open hneg] at hk; cases hk
      · obtain ⟨n, hn⟩ : ∃ n : Nat, gap1 l = n := ⟨(gap1 l).toNat, by omega⟩
        have hg := G_some hn (by omega)
        rw [hg] at hk ⊢
        simp only [] at hk ⊢
        rw [← List.drop_drop]
        exact ih _ (by rw [List.length_drop]; omega) hk
/-- what begins with a gap begins with no word -/
theorem word_gap (l : List UInt8) (h : (G l).1 ≠ 0) : word l = 0 := by
  cases l with
  | nil => rfl
  | cons c r =>
    have hb : LexPure.blank c = true ∨ c = 47 := by
      by_cases h1 : LexPure.blank c = true
      · exact .inl h1
      · by_cases h2 : c = 47
        · exact .inr h2
        · exfalso
          have : gap1 (c :: r) = 0 := by
            rw [gap1_cons, if_neg h1, if_neg (by simp [List.isPrefixOf]; intro e; exact absurd e.symm h2), if_neg (by simp [List.isPrefixOf]; intro e; exact absurd e.symm h2)]
          rw [G_none this] at h
          exact h rfl
    have hl : letter c = false := by
      rcases hb with hb | rfl
      · exact (blank_not c hb).1
      · decide
    show wd false (c :: r) = 0
    unfold wd inWord
    rw [hl]; rfl
theorem word_token (c : UInt8) (r : List UInt8) (kd : Int) (tx : List UInt8) (n : Int) (len : Nat) (h : token (c :: r) = .tok kd tx n len) : word (c :: r) ≤ len := by
  rcases Nat.eq_zero_or_pos (word (c :: r)) with h0 | h0
  · omega
  · rw [token_cons] at h
    have hn : word (c :: r) ≤ name (c :: r) := by unfold name; rw [if_neg (by omega)]; omega
    split at h
    · cases h
    · rw [if_pos (by omega)] at h
      injection h with _ _ _ h4
      omega

theorem split : ∀ (f p : Nat) (l : List UInt8) (acc res : List T), l.length < f → toks f p l acc = (res, 0, 0) → ∀ k t, acc.length ≤ k → res[k]? = some t →
    p ≤ t.at_ ∧ t.at_ < p + l.length ∧ (t.at_ = p ∨ word l ≤ t.at_ - p) ∧
    (∀ X, Opn X → ∀ F, l.length + X.length < F → toks F p (l.take (t.at_ - p) ++ X) acc = toks F t.at_ X (res.take k)) ∧
    toks f t.at_ (l.drop (t.at_ - p)) (res.take k) = (res, 0, 0) ∧ gap1 (l.drop (t.at_ - p)) = 0 := by
  intro f
  induction f with
  | zero => intro p l acc res hf; omega
  | succ f ih =>
    intro p l acc res hf h k t hk ht
    have hgl := G_le l
    by_cases hg2 : (G l).2 = true
    · have hG : G l = ((G l).1, true) := by rw [← hg2]
      obtain ⟨g, hg⟩ : ∃ g, (G l).1 = g := ⟨_, rfl⟩
      have h' := h
      rw [toks_ok hg2, hg] at h'
      have hrest := G_rest _ l (Nat.le_refl _) hg2
      rw [hg] at hrest hgl hG
      cases hd : l.drop g with
      | nil =>
        rw [hd, aft_nil] at h'
        injection h' with h1 _
        subst h1
        rw [List.getElem?_eq_none hk] at ht
        cases ht
      | cons c r =>
        have hne : l.drop (G l).1 ≠ [] := by rw [hg, hd]; simp
        have hcl : (c :: r).length = l.length - g := by rw [← hd, List.length_drop]
        rw [hd] at h' hrest
        cases hto : token (c :: r) with
        | bad y off =>
          rw [aft_bad hto] at h'
          injection h' with _ h2
          injection h2 with h2 _
          exact absurd h2 (token_bad c r y off hto).1
        | tok kd tx n len =>
          have hle := token_le c r _ _ _ _ hto
          rw [aft_tok hto] at h'
          by_cases hka : k = acc.length
          · subst hka
            obtain ⟨u, hu, _⟩ := toks_tail f _ _ _ (by rw [h'])
            rw [h'] at hu
            injection hu with hu _
            have htt : t = ⟨kd, tx, n, p + g⟩ := by
              rw [hu] at ht
              simpa using ht.symm
            have hat : t.at_ = p + g := by rw [htt]
            have hrt : res.take acc.length = acc := by rw [hu]; simp
            rw [hat, hrt, Nat.add_sub_cancel_left, hd]
            refine ⟨by omega, by simp at hcl; omega, ?_, ?_, ?_, hrest⟩
            · rcases Nat.eq_zero_or_pos g with h0 | h0
              · exact .inl (by omega)
              · exact .inr (by rw [word_gap l (by omega)]; omega)
            · intro X hX F hF
              obtain ⟨F, rfl⟩ : ∃ j, F = j + 1 := ⟨F - 1, by omega⟩
              have ha := G_app X _ l (Nat.le_refl _) hg2 hne
              rw [hg] at ha
              by_cases hX2 : (G X).2 = true
              · rw [toks_ok (by rw [ha]; exact hX2), toks_ok hX2, ha]
                simp only []
                rw [← List.drop_drop, List.drop_left' (by rw [List.length_take]; omega), Nat.add_assoc]
              · have hX3 : (G X).2 = false := by simpa using hX2
                rw [toks_bad (by rw [ha]; exact hX3), toks_bad hX3, ha]
                simp only []
                rw [Nat.add_assoc]
            · have : G (c :: r) = (0, true) := G_none hrest
              rw [toks_ok (by rw [this]), this]
              simp only [Nat.add_zero, List.drop_zero]
              rw [aft_tok hto]
              exact h'
          · have hf1 : ((c :: r).drop len).length < f := by rw [List.length_drop]; omega
            obtain ⟨i1, i2, i3, i4, i5, i6⟩ := ih (p + g + len) ((c :: r).drop len) _ res hf1 h' k t (by simp; omega) ht
            rw [List.length_drop] at i2
            have hdd : l.drop (t.at_ - p) = ((c :: r).drop len).drop (t.at_ - (p + g + len)) := by
              rw [← hd, List.drop_drop, List.drop_drop]
              congr 1
              omega
            refine ⟨by omega, by omega, ?_, ?_, ?_, by rw [hdd]; exact i6⟩
            · right
              rcases Nat.eq_zero_or_pos g with h0 | h0
              · have hl : l = c :: r := by rw [← hd, h0]; rfl
                have := word_token c r _ _ _ _ hto
                rw [hl]
                omega
              · rw [word_gap l (by omega)]; omega
            · intro X hX F hF
              obtain ⟨F, rfl⟩ : ∃ j, F = j + 1 := ⟨F - 1, by omega⟩
              have hc := G_cut hX _ l (t.at_ - p) (Nat.le_refl _) hg2 (by rw [hg]; omega) (by omega)
              rw [hG] at hc
              rw [toks_ok (by rw [hc]), hc]
              simp only []
              have e1 : (l.take (t.at_ - p) ++ X).drop g = (c :: r).take (t.at_ - p - g) ++ X := by
                rw [List.drop_append_of_le_length (by rw [List.length_take]; omega), List.drop_take, hd]
              obtain ⟨j, hj⟩ : ∃ j, t.at_ - p - g = j + 1 := ⟨t.at_ - p - g - 1, by omega⟩
              have hcut := token_cut hX c r (t.at_ - p - g) _ _ _ _ hto (by omega) (by rcases i3 with i3 | i3; exact .inl (by omega); exact .inr (by omega))
              rw [e1]
              rw [hj, List.take_succ_cons, List.cons_append] at hcut ⊢
              rw [aft_tok hcut]
              have e2 : (c :: (r.take j ++ X)).drop len = ((c :: r).drop len).take (t.at_ - (p + g + len)) ++ X := by
                have : c :: (r.take j ++ X) = (c :: r).take (j + 1) ++ X := by rw [List.take_succ_cons, List.cons_append]
                rw [this, List.drop_append_of_le_length (by rw [List.length_take]; omega), List.drop_take]
                congr 2
                omega
              rw [e2, i4 X hX F (by rw [List.length_drop]; omega)]
              exact toks_rounds _ _ _ _ _ (by omega) (by omega)
            · rw [hdd]
              rw [toks_rounds (f + 1) f _ _ _ (by rw [List.length_drop, List.length_drop]; omega) (by rw [List.length_drop, List.length_drop]; omega)]
              exact i5
    · rw [toks_bad (by simpa using hg2)] at h
      simp at h
end Go.Proofs.YtafndkgoeabehaaDoor.LexSplit
