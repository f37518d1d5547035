/- lex.word, lex.letter, lex.digit (printed) come to the plain words; lex.name, lex.Word, lex.Name walked. -/
import Derived.Test.YtafndkgoeabehaaDoorLexPure
import Derived.Test.YtafndkgoeabehaaDoorPwordx1
import Derived.ScopeJumps
import Derived.WalkMore
import Derived.Lib.IndexBytes
import Derived.Lib.Hide
import Derived.Outline
namespace Go.Proofs.YtafndkgoeabehaaDoor.LexWord
open Go Go.RowKit Go.Proofs.YtafndkgoeabehaaDoor.NumPure Go.Proofs.YtafndkgoeabehaaDoor.NumRead Go.Proofs.YtafndkgoeabehaaDoor.LexPure Go.Proofs.YtafndkgoeabehaaDoor.Pword Go.Proofs.YtafndkgoeabehaaDoorW.PrintWords Go.Proofs.YtafndkgoeabehaaDoorW.PrintLast

theorem bt_of (x : ByteArray) (i : Nat) (c : UInt8) (r : List UInt8) (h : x.data.toList.drop i = c :: r) : bt x (i : Int) = c.toNat ∧ (i : Int) < (x.size : Int) ∧ x.data.toList.drop (i + 1) = r := by
  have hl : i < x.data.toList.length := by
    rcases Nat.lt_or_ge i x.data.toList.length with h1 | h1
    · exact h1
    · rw [List.drop_eq_nil_of_le h1] at h; cases h
  rw [List.drop_eq_getElem_cons hl] at h
  simp only [List.cons.injEq] at h
  have hs : x.size = x.data.toList.length := Lib.size_eq x
  refine ⟨?_, by omega, h.2⟩
  unfold bt
  rw [dif_pos (by simp; omega)]
  rw [← h.1]
  simp
  rfl

theorem letter_is (c : UInt8) : lex_letter.f (c.toNat : Int) = some (letter c) := by
  have e : (c == 95) = decide ((c.toNat : Int) = 95) := by
    by_cases h : c = 95
    · subst h; rfl
    · rw [beq_eq_false_iff_ne.mpr h, decide_eq_false]
      intro x
      exact h (UInt8.toNat_inj.mp (by have e9 : (95 : UInt8).toNat = 95 := rfl; omega))
  unfold lex_letter.f letter
  rw [e]
  have hc := c.toNat_lt
  repeat' split
  all_goals (refine congrArg some (Bool.eq_iff_iff.2 ?_); simp only [Bool.or_eq_true, Bool.and_eq_true, decide_eq_true_eq, true_iff, Bool.false_eq_true, false_iff]; omega)
theorem digit_is (c : UInt8) : lex_digit.f (c.toNat : Int) = some (dig c) := by
  unfold lex_digit.f dig
  split
  all_goals (refine congrArg some (Bool.eq_iff_iff.2 ?_); simp only [decide_eq_true_eq, Bool.false_eq_true, false_iff]; omega)

theorem word_l0 (s : ByteArray) (hs : s.size ≤ 140737488351232) (k : Nat) : ∀ (r : List UInt8) (i : Nat), s.data.toList.drop i = r →
    lex_word.l0 (r.length + 1 + k) s i = some ((i + wd (decide (0 < i)) r : Nat) : Int) := by
  intro r
  have hz : s.size = s.data.toList.length := Lib.size_eq s
  induction r with
  | nil =>
    intro i h
    have hi : s.size ≤ i := by rw [hz]; exact List.drop_eq_nil_iff.1 h
    rw [List.length_nil, Nat.zero_add, Nat.add_comm 1 k, lex_word.l0, if_neg (by omega)]
    simp [wd]
  | cons c r ih =>
    intro i h
    obtain ⟨h1, h2, h3⟩ := bt_of s i c r h
    have hw : wrap64 ((i : Int) + 1) = ((i + 1 : Nat) : Int) := by unfold wrap64; omega
    have ih1 := ih (i + 1) h3
    rw [decide_eq_true (show 0 < i + 1 by omega)] at ih1
    rw [show (c :: r).length + 1 + k = (r.length + 1 + k) + 1 by rw [List.length_cons]; omega, lex_word.l0, if_pos h2, if_pos (by omega), h1, letter_is]
    simp only [Option.bind_some]
    unfold wd inWord
    by_cases hl : letter c = true
    · rw [if_pos hl, hw, ih1, hl]
      simp; omega
    · rw [if_neg hl]
      have hl' : letter c = false := by simpa using hl
      rw [hl', digit_is]
      simp only [Option.bind_some]
      by_cases h0 : 0 < i
      · rw [if_pos (by omega), decide_eq_true h0]
        by_cases hd : dig c = true
        · rw [if_pos hd, hw, ih1, hd]
          simp; omega
        · rw [if_neg hd]
          have hd' : dig c = false := by simpa using hd
          rw [hd']
          simp
      · rw [if_neg (by omega), decide_eq_false h0]
        simp

theorem word_any (s : ByteArray) (hs : s.size ≤ 140737488351232) (w : World) :
    Calls Tryd.prog 25 #[.string s] w fun e w' => e = .returned (.int .i64 (word s.data.toList : Int)) ∧ Drawn0 w w' := by
  have h := word_l0 s hs 0 s.data.toList 0 rfl
  have e : ((0 + wd (decide (0 < 0)) s.data.toList : Nat) : Int) = (word s.data.toList : Int) := by unfold word; simp
  rw [e] at h
  exact lex_word.calls _ s _ w h

theorem drop_data (s : ByteArray) (n : Nat) : (s.extract n s.size).data.toList = s.data.toList.drop n := Lib.extract_to_end s n

/-- more does not hang on its rounds -/
theorem more_rounds : ∀ (f g : Nat) (l : List UInt8), l.length ≤ f → l.length ≤ g → more f l = more g l := by
  intro f
  induction f with
  | zero =>
    intro g l hf hg
    have : l = [] := List.eq_nil_of_length_eq_zero (by omega)
    subst this
    cases g <;> rfl
  | succ f ih =>
    intro g l hf hg
    cases l with
    | nil => cases g <;> rfl
    | cons c r =>
      cases g with
      | zero => simp at hg
      | succ g =>
        simp only [more]
        have h1 : (r.drop (word r)).length ≤ r.length := by rw [List.length_drop]; omega
        simp only [List.length_cons] at hf hg
        rw [ih g _ (by omega) (by omega)]


/-- what is left of a name behind n bytes -/
theorem name_step (l : List UInt8) (n : Nat) :
    more (l.drop n).length (l.drop n) = match l.drop n with | [] => 0 | c :: r => if c = 46 ∧ 0 < word r then 1 + word r + more (l.drop (n + (1 + word r))).length (l.drop (n + (1 + word r))) else 0 := by
  cases h : l.drop n with
  | nil => rfl
  | cons c r =>
    have hr : l.drop (n + 1) = r := by rw [← List.drop_drop, h]; rfl
    have hd : l.drop (n + (1 + word r)) = r.drop (word r) := by rw [← Nat.add_assoc, ← List.drop_drop, hr]
    show more (r.length + 1) (c :: r) = _
    simp only [more]
    split
    · rw [hd, more_rounds r.length (r.drop (word r)).length (r.drop (word r)) (by rw [List.length_drop]; omega) (Nat.le_refl _)]
    · rfl

def Fr (s : ByteArray) (n : Nat) (a : Act) : Prop :=
  ∃ (u1 u4 u5 u6 u7 u8 u9 u10 u11 u12 u13 u14 u15 u16 u17 u18 u19 u20 u21 u22 u23 u24 u25 u26 u27 u28 u29 u30 : Value), a = { tmps := #[.string s, u1, .int .i64 0, .int .i64 (n : Int), u4, u5, u6, u7, u8, u9, u10, u11, u12, u13, u14, u15, u16, u17, u18, u19, u20, u21, u22, u23, u24, u25, u26, u27, u28, u29, u30], defers := [] }

set_option maxRecDepth 100000 in
set_option maxHeartbeats 1000000 in
theorem name_any (s : ByteArray) (hs : s.size ≤ 140737488351232) (w : World) :
    Calls Tryd.prog 27 #[.string s] w fun e w' => e = .returned (.int .i64 (name s.data.toList : Int)) ∧ Drawn0 w w' := by
  have hz : s.size = s.data.toList.length := Lib.size_eq s
  have hwl := word_le s.data.toList
  have HW := Lib.hid (word_any s hs)
  by_cases h0 : word s.data.toList = 0
  · have hn : name s.data.toList = 0 := by unfold name; rw [if_pos h0]
    have HN := Lib.hid hn
    rw [h0] at HW
    clear hn h0 hs hz hwl
    go_enter Tryd.func27, Tryd.ntmps27
    go_wp2
    go_step3
    go_wp2_with (go_at_call 25; (with_reducible refine (HW.out _).mono ?_); rintro e w' ⟨rfl, ⟨nd, rfl⟩⟩)
    rw [Exit.noGoto_ret]
    go_ret
    exact ⟨by rw [HN.out]; rfl, Drawn0.step (Drawn0.refl _) _⟩
  · have h1 : ((word s.data.toList : Int) == 0) = false := beq_eq_false_iff_ne.mpr (by omega)
    have hname : word s.data.toList + more (s.data.toList.drop (word s.data.toList)).length (s.data.toList.drop (word s.data.toList)) = name s.data.toList := by
      unfold name
      rw [if_neg h0, more_rounds _ s.data.toList.length _ (Nat.le_refl _) (by rw [List.length_drop]; omega)]
    have HN := Lib.hid hname
    have HZ := Lib.hid hz
    have HS := Lib.hid hs
    have HL := Lib.hid hwl
    have HP := Lib.hid h0
    clear hname hz hs hwl h0
    go_enter Tryd.func27, Tryd.ntmps27
    go_wp2
    refine wp_scope_jumps 0 (fun a' w' => Drawn0 w w' ∧ ∃ n : Nat, n ≤ s.size ∧ Fr s n a' ∧ n + more (s.data.toList.drop n).length (s.data.toList.drop n) = name s.data.toList) (fun a' _ => s.size - (intOf (a'.tmps.getD 3 undef)).toNat) rfl ?_ ?_
    · go_wp2_with (go_at_call 25; (with_reducible refine (HW.out _).mono ?_); rintro e w' ⟨rfl, ⟨nd, rfl⟩⟩)
      go_step3
      obtain ⟨n, hwn⟩ : ∃ n, word s.data.toList = n := ⟨_, rfl⟩
      have hm : n + more (s.data.toList.drop n).length (s.data.toList.drop n) = name s.data.toList := by rw [← hwn]; exact HN.out
      have hn : n ≤ s.size := by rw [HZ.out, ← hwn]; exact HL.out
      rw [hwn]
      clear h1 HN HL HP HW hwn
      have hstep := name_step s.data.toList n
      cases hdr : s.data.toList.drop n with
      | nil =>
        rw [hdr] at hstep hm
        have hm' : n = name s.data.toList := by rw [← hm]; simp [more]
        have hge : s.size ≤ n := by rw [HZ.out]; exact List.drop_eq_nil_iff.1 hdr
        have hlt : decide (n < s.size) = false := decide_eq_false (by omega)
        have HM := Lib.hid hm'
        clear hm' hm hstep hge hdr
        go_wp2
        (try simp only [Exit.jump])
        go_ret
        exact ⟨by rw [← HM.out]; rfl, by repeat (first | exact Drawn0.refl _ | apply Drawn0.step)⟩
      | cons c r =>
        obtain ⟨b1, b2, b3⟩ := bt_of s n c r hdr
        have hlt : decide (n < s.size) = true := decide_eq_true (by omega)
        have hx : ∀ h : n < s.size, ((s[n]'h).toNat : Int) = bt s n := bt_at s n
        have hnb : (n : Int) + 1 ≤ 140737488351232 := by have := HS.out; omega
        have hwr := word_any (s.extract (n + 1) s.size) (by rw [Lib.size_eq, drop_data, List.length_drop, ← HZ.out]; have := HS.out; omega)
        rw [drop_data, b3] at hwr
        have hrl : r.length = s.size - (n + 1) := by rw [← b3, List.length_drop, ← HZ.out]
        have hwl := word_le r
        rw [hdr] at hstep
        have hstep : more (c :: r).length (c :: r) = if c = 46 ∧ 0 < word r then 1 + word r + more (s.data.toList.drop (n + (1 + word r))).length (s.data.toList.drop (n + (1 + word r))) else 0 := hstep
        by_cases hc : c = 46
        · have hc' : (bt s n == 46) = true := by rw [b1, hc]; rfl
          by_cases hp : 0 < word r
          · have hp' : decide (0 < word r) = true := decide_eq_true hp
            have HWR := Lib.hid hwr
            have hnew : (n + (1 + word r)) + more (s.data.toList.drop (n + (1 + word r))).length (s.data.toList.drop (n + (1 + word r))) = name s.data.toList := by
              rw [if_pos ⟨hc, hp⟩] at hstep
              rw [hdr, hstep] at hm
              omega
            have HNEW := Lib.hid hnew
            have HRL := Lib.hid hrl
            have HWL := Lib.hid hwl
            have hwb : (word r : Int) ≤ 140737488351232 := by have := HS.out; omega
            have hsum : (n : Int) + (1 + (word r : Int)) ≤ 140737488351232 := by have := HS.out; omega
            clear hnew hm hstep hdr b1 b3 hwr hrl hwl hc hp
            go_wp2_with (go_at_call 25; (with_reducible refine (HWR.out _).mono ?_); rintro e w' ⟨rfl, ⟨nd2, rfl⟩⟩)
            go_step3
            exact ⟨rfl, by repeat (first | exact Drawn0.refl _ | apply Drawn0.step), n + (1 + word r), (by have := HRL.out; have := HWL.out; omega), ⟨_, _, _, _, _, _, _, _, _, _, _, _, _, _, _, _, _, _, _, _, _, _, _, _, _, _, _, _, by push_cast; rfl⟩, HNEW.out⟩
          · have hp' : decide (0 < word r) = false := decide_eq_false hp
            have HWR := Lib.hid hwr
            have hm' : n = name s.data.toList := by
              rw [if_neg (fun x => hp x.2)] at hstep
              rw [hdr, hstep] at hm
              omega
            have HM := Lib.hid hm'
            clear hm' hm hstep hdr b1 b3 hwr hrl hwl hc hp
            go_wp2_with (go_at_call 25; (with_reducible refine (HWR.out _).mono ?_); rintro e w' ⟨rfl, ⟨nd2, rfl⟩⟩)
            (try simp only [Exit.jump])
            go_ret
            exact ⟨by rw [← HM.out]; rfl, by repeat (first | exact Drawn0.refl _ | apply Drawn0.step)⟩
        · have hc' : (bt s n == 46) = false := by rw [b1]; exact beq_eq_false_iff_ne.mpr (fun x => hc (UInt8.toNat_inj.mp (by have e : (46 : UInt8).toNat = 46 := rfl; omega)))
          have hm' : n = name s.data.toList := by
            rw [if_neg (fun x => hc x.1)] at hstep
            rw [hdr, hstep] at hm
            omega
          have HM := Lib.hid hm'
          clear hm' hm hstep hdr b1 b3 hwr hrl hwl hc
          go_wp2
          (try simp only [Exit.jump])
          go_ret
          exact ⟨by rw [← HM.out]; rfl, by repeat (first | exact Drawn0.refl _ | apply Drawn0.step)⟩
    · rintro a' w' ⟨hd, n, hn, ⟨u1, u4, u5, u6, u7, u8, u9, u10, u11, u12, u13, u14, u15, u16, u17, u18, u19, u20, u21, u22, u23, u24, u25, u26, u27, u28, u29, u30, rfl⟩, hm⟩
      have hstep := name_step s.data.toList n
      cases hdr : s.data.toList.drop n with
      | nil =>
        rw [hdr] at hstep hm
        have hm' : n = name s.data.toList := by rw [← hm]; simp [more]
        have hge : s.size ≤ n := by rw [HZ.out]; exact List.drop_eq_nil_iff.1 hdr
        have hlt : decide (n < s.size) = false := decide_eq_false (by omega)
        have HM := Lib.hid hm'
        clear hm' hm hstep hge hdr
        go_wp2
        (try simp only [Exit.jump])
        go_ret
        exact ⟨by rw [← HM.out]; rfl, by repeat (first | exact hd | apply Drawn0.step)⟩
      | cons c r =>
        obtain ⟨b1, b2, b3⟩ := bt_of s n c r hdr
        have hlt : decide (n < s.size) = true := decide_eq_true (by omega)
        have hx : ∀ h : n < s.size, ((s[n]'h).toNat : Int) = bt s n := bt_at s n
        have hnb : (n : Int) + 1 ≤ 140737488351232 := by have := HS.out; omega
        have hwr := word_any (s.extract (n + 1) s.size) (by rw [Lib.size_eq, drop_data, List.length_drop, ← HZ.out]; have := HS.out; omega)
        rw [drop_data, b3] at hwr
        have hrl : r.length = s.size - (n + 1) := by rw [← b3, List.length_drop, ← HZ.out]
        have hwl := word_le r
        rw [hdr] at hstep
        have hstep : more (c :: r).length (c :: r) = if c = 46 ∧ 0 < word r then 1 + word r + more (s.data.toList.drop (n + (1 + word r))).length (s.data.toList.drop (n + (1 + word r))) else 0 := hstep
        by_cases hc : c = 46
        · have hc' : (bt s n == 46) = true := by rw [b1, hc]; rfl
          by_cases hp : 0 < word r
          · have hp' : decide (0 < word r) = true := decide_eq_true hp
            have HWR := Lib.hid hwr
            have hnew : (n + (1 + word r)) + more (s.data.toList.drop (n + (1 + word r))).length (s.data.toList.drop (n + (1 + word r))) = name s.data.toList := by
              rw [if_pos ⟨hc, hp⟩] at hstep
              rw [hdr, hstep] at hm
              omega
            have HNEW := Lib.hid hnew
            have HRL := Lib.hid hrl
            have HWL := Lib.hid hwl
            have hwb : (word r : Int) ≤ 140737488351232 := by have := HS.out; omega
            have hsum : (n : Int) + (1 + (word r : Int)) ≤ 140737488351232 := by have := HS.out; omega
            clear hnew hm hstep hdr b1 b3 hwr hrl hwl hc hp
            go_wp2_with (go_at_call 25; (with_reducible refine (HWR.out _).mono ?_); rintro e w' ⟨rfl, ⟨nd2, rfl⟩⟩)
            go_step3
            exact ⟨rfl, ⟨by repeat (first | exact hd | apply Drawn0.step), n + (1 + word r), (by have := HRL.out; have := HWL.out; omega), ⟨_, _, _, _, _, _, _, _, _, _, _, _, _, _, _, _, _, _, _, _, _, _, _, _, _, _, _, _, by push_cast; rfl⟩, HNEW.out⟩, by have := HRL.out; have := HWL.out; simp [intOf]; omega⟩
          · have hp' : decide (0 < word r) = false := decide_eq_false hp
            have HWR := Lib.hid hwr
            have hm' : n = name s.data.toList := by
              rw [if_neg (fun x => hp x.2)] at hstep
              rw [hdr, hstep] at hm
              omega
            have HM := Lib.hid hm'
            clear hm' hm hstep hdr b1 b3 hwr hrl hwl hc hp
            go_wp2_with (go_at_call 25; (with_reducible refine (HWR.out _).mono ?_); rintro e w' ⟨rfl, ⟨nd2, rfl⟩⟩)
            (try simp only [Exit.jump])
            go_ret
            exact ⟨by rw [← HM.out]; rfl, by repeat (first | exact hd | apply Drawn0.step)⟩
        · have hc' : (bt s n == 46) = false := by rw [b1]; exact beq_eq_false_iff_ne.mpr (fun x => hc (UInt8.toNat_inj.mp (by have e : (46 : UInt8).toNat = 46 := rfl; omega)))
          have hm' : n = name s.data.toList := by
            rw [if_neg (fun x => hc x.1)] at hstep
            rw [hdr, hstep] at hm
            omega
          have HM := Lib.hid hm'
          clear hm' hm hstep hdr b1 b3 hwr hrl hwl hc
          go_wp2
          (try simp only [Exit.jump])
          go_ret
          exact ⟨by rw [← HM.out]; rfl, by repeat (first | exact hd | apply Drawn0.step)⟩


set_option maxRecDepth 100000 in
theorem Word_any (s : ByteArray) (hs : s.size ≤ 140737488351232) (w : World) :
    Calls Tryd.prog 12 #[.string s] w fun e w' => e = .returned (.bool (LexPure.Word s.data.toList)) ∧ Drawn0 w w' := by
  have hz : s.size = s.data.toList.length := Lib.size_eq s
  have hl : s.toList = s.data.toList := Lib.toList_data s
  have HW := Lib.hid (word_any s hs)
  by_cases h1 : s.data.toList = []
  · have hp : LexPure.Word s.data.toList = false := by unfold LexPure.Word; rw [decide_eq_false (not_not_intro h1)]; rfl
    have HP := Lib.hid hp
    have e1 : s.toList.isEmpty = true := by rw [hl, h1]; rfl
    clear hp h1 hl hz hs
    go_enter Tryd.func12, Tryd.ntmps12
    go_wp2
    go_ret
    exact ⟨by rw [HP.out]; rfl, Drawn0.refl _⟩
  · have e1 : s.toList.isEmpty = false := by rw [hl]; simpa using h1
    by_cases h2 : s.size ≤ 64
    · have e2 : decide (s.size ≤ 64) = true := decide_eq_true h2
      by_cases h3 : word s.data.toList = s.size
      · have hp : LexPure.Word s.data.toList = true := by unfold LexPure.Word; rw [decide_eq_true h1, decide_eq_true (by omega), decide_eq_true (by omega)]; rfl
        have HP := Lib.hid hp
        rw [h3] at HW
        clear hp h1 hl hz hs h3
        go_enter Tryd.func12, Tryd.ntmps12
        go_wp2_with (go_at_call 25; (with_reducible refine (HW.out _).mono ?_); rintro e w' ⟨rfl, ⟨nd2, rfl⟩⟩)
        go_ret
        exact ⟨by rw [HP.out]; rfl, by repeat (first | exact Drawn0.refl _ | apply Drawn0.step)⟩
      · have hp : LexPure.Word s.data.toList = false := by unfold LexPure.Word; rw [decide_eq_false (show ¬ word s.data.toList = s.data.toList.length by omega)]; simp
        have HP := Lib.hid hp
        have e3 : (((word s.data.toList : Nat) : Int) == (s.size : Int)) = false := beq_eq_false_iff_ne.mpr (by omega)
        obtain ⟨m, hm⟩ : ∃ m, word s.data.toList = m := ⟨_, rfl⟩
        rw [hm] at HW e3
        clear hp h1 hl hz hs h3 hm
        go_enter Tryd.func12, Tryd.ntmps12
        go_wp2_with (go_at_call 25; (with_reducible refine (HW.out _).mono ?_); rintro e w' ⟨rfl, ⟨nd2, rfl⟩⟩)
        go_ret
        exact ⟨by rw [HP.out]; first | rfl | (simp only [e3]; rfl) | (simp [e3]; done), by repeat (first | exact Drawn0.refl _ | apply Drawn0.step)⟩
    · have e2 : decide ((s.size : Int) ≤ 64) = false := decide_eq_false (by omega)
      have hp : LexPure.Word s.data.toList = false := by unfold LexPure.Word; rw [decide_eq_false (show ¬ s.data.toList.length ≤ 64 by omega)]; simp
      have HP := Lib.hid hp
      clear hp h1 hl hz hs h2
      go_enter Tryd.func12, Tryd.ntmps12
      go_wp2
      go_ret
      exact ⟨by rw [HP.out]; rfl, Drawn0.refl _⟩

set_option maxRecDepth 100000 in
theorem Name_any (s : ByteArray) (hs : s.size ≤ 140737488351232) (w : World) :
    Calls Tryd.prog 14 #[.string s] w fun e w' => e = .returned (.bool (LexPure.Name s.data.toList)) ∧ Drawn0 w w' := by
  have hz : s.size = s.data.toList.length := Lib.size_eq s
  have hl : s.toList = s.data.toList := Lib.toList_data s
  have HW := Lib.hid (name_any s hs)
  by_cases h1 : s.data.toList = []
  · have hp : LexPure.Name s.data.toList = false := by unfold LexPure.Name; rw [decide_eq_false (not_not_intro h1)]; rfl
    have HP := Lib.hid hp
    have e1 : s.toList.isEmpty = true := by rw [hl, h1]; rfl
    clear hp h1 hl hz hs
    go_enter Tryd.func14, Tryd.ntmps14
    go_wp2
    go_ret
    exact ⟨by rw [HP.out]; rfl, Drawn0.refl _⟩
  · have e1 : s.toList.isEmpty = false := by rw [hl]; simpa using h1
    by_cases h2 : s.size ≤ 64
    · have e2 : decide (s.size ≤ 64) = true := decide_eq_true h2
      by_cases h3 : name s.data.toList = s.size
      · have hp : LexPure.Name s.data.toList = true := by unfold LexPure.Name; rw [decide_eq_true h1, decide_eq_true (by omega), decide_eq_true (by omega)]; rfl
        have HP := Lib.hid hp
        rw [h3] at HW
        clear hp h1 hl hz hs h3
        go_enter Tryd.func14, Tryd.ntmps14
        go_wp2_with (go_at_call 27; (with_reducible refine (HW.out _).mono ?_); rintro e w' ⟨rfl, ⟨nd2, rfl⟩⟩)
        go_ret
        exact ⟨by rw [HP.out]; rfl, by repeat (first | exact Drawn0.refl _ | apply Drawn0.step)⟩
      · have hp : LexPure.Name s.data.toList = false := by unfold LexPure.Name; rw [decide_eq_false (show ¬ name s.data.toList = s.data.toList.length by omega)]; simp
        have HP := Lib.hid hp
        have e3 : (((name s.data.toList : Nat) : Int) == (s.size : Int)) = false := beq_eq_false_iff_ne.mpr (by omega)
        obtain ⟨m, hm⟩ : ∃ m, name s.data.toList = m := ⟨_, rfl⟩
        rw [hm] at HW e3
        clear hp h1 hl hz hs h3 hm
        go_enter Tryd.func14, Tryd.ntmps14
        go_wp2_with (go_at_call 27; (with_reducible refine (HW.out _).mono ?_); rintro e w' ⟨rfl, ⟨nd2, rfl⟩⟩)
        go_ret
        exact ⟨by rw [HP.out]; first | rfl | (simp only [e3]; rfl) | (simp [e3]; done), by repeat (first | exact Drawn0.refl _ | apply Drawn0.step)⟩
    · have e2 : decide ((s.size : Int) ≤ 64) = false := decide_eq_false (by omega)
      have hp : LexPure.Name s.data.toList = false := by unfold LexPure.Name; rw [decide_eq_false (show ¬ s.data.toList.length ≤ 64 by omega)]; simp
      have HP := Lib.hid hp
      clear hp h1 hl hz hs h2
      go_enter Tryd.func14, Tryd.ntmps14
      go_wp2
      go_ret
      exact ⟨by rw [HP.out]; rfl, Drawn0.refl _⟩
end Go.Proofs.YtafndkgoeabehaaDoor.LexWord
