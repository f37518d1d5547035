/- LexHeads, LexGaps: the plain laws. -/
import Derived.Test.YtafndkgoeabehaaDoorLexSplit
namespace Go.Proofs.YtafndkgoeabehaaDoor.LexPlain
open Go Go.RowKit Go.Proofs.YtafndkgoeabehaaDoor.NumPure Go.Proofs.YtafndkgoeabehaaDoor.NumRead Go.Proofs.YtafndkgoeabehaaDoor.LexPure Go.Proofs.YtafndkgoeabehaaDoor.LexGap Go.Proofs.YtafndkgoeabehaaDoor.LexToks Go.Proofs.YtafndkgoeabehaaDoor.LexRise Go.Proofs.YtafndkgoeabehaaDoor.LexCut Go.Proofs.YtafndkgoeabehaaDoor.LexSplit

theorem lex_toks {L : List UInt8} {res : List T} (h : lex L = (res, 0, 0)) : L.length ≤ 65536 ∧ toks (L.length + 1) 0 L [] = (res, 0, 0) := by
  unfold lex at h
  by_cases hl : 65536 < L.length
  · rw [if_pos hl] at h; simp at h
  · rw [if_neg hl] at h; exact ⟨by omega, h⟩
theorem lex_of {L : List UInt8} (hl : L.length ≤ 65536) (f : Nat) (hf : L.length < f) : lex L = toks f 0 L [] := by
  unfold lex
  rw [if_neg (by omega)]
  exact toks_rounds _ _ _ _ _ (by omega) hf
theorem heads_law {L : List UInt8} {res : List T} (h : lex L = (res, 0, 0)) {k : Nat} {t : T} (ht : res[k]? = some t) : t.at_ < L.length ∧ lex (L.take t.at_) = (res.take k, 0, 0) := by
  obtain ⟨hl, h1⟩ := lex_toks h
  obtain ⟨s1, s2, _, s4, _, _⟩ := split _ 0 L [] res (Nat.lt_succ_self _) h1 k t (Nat.zero_le _) ht
  refine ⟨by omega, ?_⟩
  have := s4 [] (fun c r e => by cases e) (L.length + 1) (by simp)
  rw [List.append_nil, Nat.sub_zero] at this
  rw [lex_of (by rw [List.length_take]; omega) (L.length + 1) (by rw [List.length_take]; omega), this]
  have hg : G [] = (0, true) := rfl
  rw [toks_ok (by rw [hg])]
  rfl

/-- the gaps that the law sets in -/
def gapOf (n : Nat) : List UInt8 := match n with | 0 => [32] | 1 => [10] | 2 => [32, 47, 42, 32, 120, 32, 42, 47, 32] | 3 => [32, 47, 47, 32, 121, 10] | _ => [9, 13]
theorem gap_opn (n : Nat) (R : List UInt8) : Opn (gapOf n ++ R) := by
  intro c r h
  unfold gapOf at h
  split at h <;> simp at h <;> (obtain ⟨h, _⟩ := h; subst h; decide)
theorem gap_len (n : Nat) : (gapOf n).length ≤ 9 := by
  unfold gapOf
  split <;> simp
theorem gap_G (n : Nat) (R : List UInt8) (hR : gap1 R = 0) : G (gapOf n ++ R) = ((gapOf n).length, true) := by
  have hr := G_none hR
  have b1 : ∀ c r, LexPure.blank c = true → G (c :: r) = (1 + (G r).1, (G r).2) := fun c r hc => by
    have : gap1 (c :: r) = (1 : Nat) := by rw [gap1_cons, if_pos hc]; rfl
    rw [G_some this (by decide)]; rfl
  unfold gapOf
  split
  · show G (32 :: R) = _
    rw [b1 _ _ (by decide), hr]; rfl
  · show G (10 :: R) = _
    rw [b1 _ _ (by decide), hr]; rfl
  · show G (32 :: 47 :: 42 :: 32 :: 120 :: 32 :: 42 :: 47 :: 32 :: R) = _
    have e : gap1 (47 :: 42 :: 32 :: 120 :: 32 :: 42 :: 47 :: 32 :: R) = (7 : Nat) := by
      rw [gap1_cons]
      simp [LexPure.blank, List.isPrefixOf, close]
    rw [b1 _ _ (by decide), G_some e (by decide)]
    show (1 + (7 + (G (32 :: R)).1), (G (32 :: R)).2) = _
    rw [b1 _ _ (by decide), hr]; rfl
  · show G (32 :: 47 :: 47 :: 32 :: 121 :: 10 :: R) = _
    have e : gap1 (47 :: 47 :: 32 :: 121 :: 10 :: R) = (4 : Nat) := by
      rw [gap1_cons]
      simp [LexPure.blank, List.isPrefixOf, eol]
    rw [b1 _ _ (by decide), G_some e (by decide)]
    show (1 + (4 + (G (10 :: R)).1), (G (10 :: R)).2) = _
    rw [b1 _ _ (by decide), hr]; rfl
  · show G (9 :: 13 :: R) = _
    rw [b1 _ _ (by decide), b1 _ _ (by decide), hr]; rfl
theorem gaps_law {L : List UInt8} {res : List T} (h : lex L = (res, 0, 0)) (hl16 : L.length + 16 ≤ 65536) {k : Nat} {t : T} (ht : res[k]? = some t) (n : Nat) :
    t.at_ < L.length ∧ ∃ res', lex (L.take t.at_ ++ (gapOf n ++ L.drop t.at_)) = (res', 0, 0) ∧ res'.map (fun u => (u.kind, u.text, u.n)) = res.map (fun u => (u.kind, u.text, u.n)) := by
  obtain ⟨hl, h1⟩ := lex_toks h
  obtain ⟨s1, s2, _, s4, s5, s6⟩ := split _ 0 L [] res (Nat.lt_succ_self _) h1 k t (Nat.zero_le _) ht
  rw [Nat.sub_zero] at s4 s5 s6
  refine ⟨by omega, ?_⟩
  have hgl := gap_len n
  have hXl : (gapOf n ++ L.drop t.at_).length = (gapOf n).length + (L.length - t.at_) := by rw [List.length_append, List.length_drop]
  have hG := gap_G n (L.drop t.at_) s6
  have e1 := s4 (gapOf n ++ L.drop t.at_) (gap_opn n _) (2 * L.length + 20) (by omega)
  have hlen : (L.take t.at_ ++ (gapOf n ++ L.drop t.at_)).length = L.length + (gapOf n).length := by rw [List.length_append, hXl, List.length_take]; omega
  obtain ⟨u, hu1, hu2⟩ := toks_tail _ _ _ _ (by rw [s5])
  rw [s5] at hu1
  injection hu1 with hu1 _
  refine ⟨res.take k ++ u.map (sh (gapOf n).length), ?_, ?_⟩
  · rw [lex_of (by omega) (2 * L.length + 20) (by omega), e1, toks_ok (by rw [hG]), hG]
    simp only []
    rw [List.drop_left' rfl]
    have e2 := hu2 (res.take k) (gapOf n).length
    have hd : (L.drop t.at_).length < 2 * L.length + 20 := by rw [List.length_drop]; omega
    rw [toks_rounds (L.length + 1) (2 * L.length + 20) _ _ _ (by rw [List.length_drop]; omega) hd, toks_ok (by rw [G_none s6]), G_none s6] at e2
    exact e2
  · have hs : ∀ v : List T, (v.map (sh (gapOf n).length)).map (fun u => (u.kind, u.text, u.n)) = v.map (fun u => (u.kind, u.text, u.n)) := fun v => by
      rw [List.map_map]; rfl
    rw [List.map_append, hs, ← List.map_append, ← hu1]
end Go.Proofs.YtafndkgoeabehaaDoor.LexPlain
