/- Numbers' texts: what is read of a text, and the text of a number: plain lists and numbers. -/
import Derived.Test.YtafndkgoeabehaaDoorNumPure
import Derived.Lib.AtoiAll
import Derived.Lib.ItoaNum
import Derived.Lib.SlTrimSet
import Derived.Lib.Strings
namespace Go.Proofs.YtafndkgoeabehaaDoor.NumRead
open Go Go.RowKit Go.Proofs.YtafndkgoeabehaaDoor.NumPure

def dig (c : UInt8) : Bool := decide (48 ≤ c.toNat ∧ c.toNat ≤ 57)
def val (a : Nat) (l : List UInt8) : Nat := l.foldl (fun x c => x * 10 + (c.toNat - 48)) a
theorem val_nil (a : Nat) : val a [] = a := by unfold val; rw [List.foldl_nil]
theorem val_cons (a : Nat) (c : UInt8) (r : List UInt8) : val a (c :: r) = val (a * 10 + (c.toNat - 48)) r := by unfold val; rw [List.foldl_cons]
theorem val_ge (l : List UInt8) : ∀ a : Nat, a ≤ val a l := by
  induction l with
  | nil => intro a; rw [val_nil]; exact Nat.le_refl _
  | cons c r ih => intro a; rw [val_cons]; have := ih (a * 10 + (c.toNat - 48)); omega
theorem val_append (l r : List UInt8) : ∀ a : Nat, val a (l ++ r) = val (val a l) r := by
  induction l with
  | nil => intro a; rw [val_nil]; rfl
  | cons c l ih => intro a; rw [List.cons_append, val_cons, val_cons]; exact ih _

def signed (m : Bool) (v : Nat) : Int := if m = true then -(v : Int) else v
def Bad (l d : List UInt8) : Prop := d = [] ∨ d.all dig = false ∨ (d.head? = some 48 ∧ l ≠ [48])
instance (l d : List UInt8) : Decidable (Bad l d) := inferInstanceAs (Decidable (_ ∨ _ ∨ _))
def core (l : List UInt8) (m : Bool) (d : List UInt8) : Int × Int := if Bad l d then (0, 7) else told (signed m (val 0 d))
/-- what a text is read as -/
def parseS (l : List UInt8) : Int × Int := if l.head? = some 45 then core l true l.tail else core l false l
theorem good {l d : List UInt8} (h : ¬ Bad l d) : d ≠ [] ∧ d.all dig = true ∧ (d.head? = some 48 → l = [48]) := by
  refine ⟨fun x => h (.inl x), ?_, fun x => ?_⟩
  · cases hx : d.all dig with
    | true => rfl
    | false => exact absurd (.inr (.inl hx)) h
  · by_cases y : l = [48]
    · exact y
    · exact absurd (.inr (.inr ⟨x, y⟩)) h

theorem uint10 (l : List UInt8) : ∀ a : Nat, l.all dig = true → Lib.parseUint10 a l = if (val a l < 18446744073709551616 ∧ a < 18446744073709551616) ∨ l = [] then .ok (val a l) else .range := by
  induction l with
  | nil => intro a _; rw [if_pos (.inr rfl), val_nil]; rfl
  | cons c r ih =>
    intro a h
    simp only [List.all_cons, Bool.and_eq_true] at h
    have hc : 48 ≤ c.toNat ∧ c.toNat ≤ 57 := by simpa [dig] using h.1
    have hv := val_ge r (a * 10 + (c.toNat - 48))
    have e : Lib.parseUint10 a (c :: r) = if 1844674407370955162 ≤ a then .range else if 18446744073709551616 ≤ a * 10 + (c.toNat - 48) then .range else Lib.parseUint10 (a * 10 + (c.toNat - 48)) r := by
      rw [Lib.parseUint10, if_pos hc]
    rw [e, val_cons]
    have hne : ¬ (c :: r = []) := by simp
    obtain ⟨b, hb⟩ : ∃ b, a * 10 + (c.toNat - 48) = b := ⟨_, rfl⟩
    rw [hb] at hv ⊢
    by_cases h1 : 1844674407370955162 ≤ a
    · rw [if_pos h1, if_neg (by simp only [hne, or_false]; omega)]
    · rw [if_neg h1]
      by_cases h2 : 18446744073709551616 ≤ b
      · rw [if_pos h2, if_neg (by simp only [hne, or_false]; omega)]
      · rw [if_neg h2, ih _ h.2]
        by_cases h4 : val b r < 18446744073709551616
        · rw [if_pos (.inl ⟨h4, by omega⟩), if_pos (.inl ⟨h4, by omega⟩)]
        · have h3 : r ≠ [] := by rintro rfl; rw [val_nil] at h4; omega
          rw [if_neg (by simp only [h3, or_false, h4, false_and, not_false_eq_true]), if_neg (by simp only [hne, or_false, h4, false_and, not_false_eq_true])]

theorem mag (l : List UInt8) (hn : l ≠ []) (h : l.all dig = true) : Lib.parseMag l = if val 0 l < 18446744073709551616 then .ok (val 0 l) else .range := by
  unfold Lib.parseMag
  rw [if_neg hn, uint10 l 0 h]
  by_cases c : val 0 l < 18446744073709551616
  · rw [if_pos c, if_pos (.inl ⟨c, by decide⟩)]
  · rw [if_neg c, if_neg (by simp [hn]; omega)]

/-- where a text has digits behind at most one minus, Atoi's end is its number, or that the number has left the bits -/
theorem atoi_digits (l : List UInt8) (m : Bool) (d : List UInt8) (hl : l = if m = true then 45 :: d else d) (hd : d ≠ []) (h : d.all dig = true) :
    Lib.atoiAll l = if In (signed m (val 0 d)) then .ok (signed m (val 0 d)) else .range := by
  obtain ⟨c, r, rfl⟩ : ∃ c r, d = c :: r := by cases d with | nil => exact absurd rfl hd | cons c r => exact ⟨c, r, rfl⟩
  have hc : 48 ≤ c.toNat ∧ c.toNat ≤ 57 := by simp only [List.all_cons, Bool.and_eq_true] at h; simpa [dig] using h.1
  cases m
  · simp only [Bool.false_eq_true, if_false] at hl
    subst hl
    unfold Lib.atoiAll
    simp only []
    rw [if_neg (show ¬ (c.toNat = 43 ∨ c.toNat = 45) by omega), mag _ hd h]
    have n45 : ¬ c.toNat = 45 := by omega
    simp only [signed, Bool.false_eq_true, if_false, n45, not_false_eq_true, true_and, false_and]
    by_cases h1 : val 0 (c :: r) < 18446744073709551616
    · rw [if_pos h1]
      simp only []
      by_cases h2 : 9223372036854775808 ≤ val 0 (c :: r)
      · rw [if_pos h2, if_neg (by unfold In; omega)]
      · rw [if_neg h2, if_pos (by unfold In; omega)]
    · rw [if_neg h1]
      simp only []
      rw [if_neg (by unfold In; omega)]
  · simp only [if_true] at hl
    subst hl
    unfold Lib.atoiAll
    have e45 : (45 : UInt8).toNat = 45 := rfl
    simp only [e45, or_true, if_true, not_true_eq_false, false_and, if_false, true_and]
    rw [mag _ hd h]
    simp only [signed, if_true]
    by_cases h1 : val 0 (c :: r) < 18446744073709551616
    · rw [if_pos h1]
      simp only []
      by_cases h2 : 9223372036854775808 < val 0 (c :: r)
      · rw [if_pos h2, if_neg (by unfold In; omega)]
      · rw [if_neg h2, if_pos (by unfold In; omega)]
    · rw [if_neg h1]
      simp only []
      rw [if_neg (by unfold In; omega)]

def cs10 : List UInt8 := [48, 49, 50, 51, 52, 53, 54, 55, 56, 57]
theorem cs10_dig (c : UInt8) : cs10.contains c = dig c := by
  have h : ∀ n : Fin 256, cs10.contains (UInt8.ofNat n.val) = dig (UInt8.ofNat n.val) := by decide +kernel
  have := h ⟨c.toNat, c.toNat_lt⟩
  simpa using this

theorem dropWhile_nil {p : UInt8 → Bool} : ∀ l : List UInt8, l.dropWhile p = [] ↔ l.all p = true
  | [] => by simp
  | c :: r => by
    by_cases h : p c = true
    · simp [h, dropWhile_nil r]
    · simp [h]

/-- Trim at the digits leaves nothing just where there are digits alone -/
theorem trim_nil (l : List UInt8) : Lib.trimS l cs10 = [] ↔ l.all dig = true := by
  have e : (fun c : UInt8 => cs10.contains c) = dig := funext cs10_dig
  unfold Lib.trimS Lib.trimLeftS Lib.trimRightS
  simp only [e]
  rw [dropWhile_nil, List.all_reverse]
  constructor
  · intro h
    have h1 : (l.reverse.dropWhile dig).all dig = true := by simpa using h
    have h2 : l.reverse.dropWhile dig = [] := by
      cases hh : l.reverse.dropWhile dig with
      | nil => rfl
      | cons c r =>
        have h3 : dig c = true := by rw [hh] at h1; simp only [List.all_cons, Bool.and_eq_true] at h1; exact h1.1
        have h4 := List.head?_dropWhile_not dig l.reverse
        rw [hh] at h4
        simp only [List.head?_cons] at h4
        rw [h3] at h4
        exact absurd h4 (by simp)
    have := (dropWhile_nil l.reverse).1 h2
    simpa using this
  · intro h
    have : l.reverse.dropWhile dig = [] := (dropWhile_nil _).2 (by simpa using h)
    rw [this]; rfl

/-! the text of a number -/
theorem dec_small {u : Nat} (h : u < 10) : Lib.decDigits u = [UInt8.ofNat (48 + u)] := by rw [Lib.decDigits, dif_pos h]
theorem dec_big {u : Nat} (h : ¬ u < 10) : Lib.decDigits u = Lib.decDigits (u / 10) ++ [UInt8.ofNat (48 + u % 10)] := by rw [Lib.decDigits, dif_neg h]
theorem toNat_dig {k : Nat} (h : k < 10) : (UInt8.ofNat (48 + k)).toNat = 48 + k := by simp; omega
theorem dig_ofNat {k : Nat} (h : k < 10) : dig (UInt8.ofNat (48 + k)) = true := by unfold dig; rw [toNat_dig h]; simp; omega

theorem head_append {l r : List UInt8} (h : l ≠ []) : (l ++ r).head? = l.head? := by cases l with | nil => exact absurd rfl h | cons c l => rfl

theorem dec_facts (u : Nat) : (Lib.decDigits u).all dig = true ∧ val 0 (Lib.decDigits u) = u ∧ Lib.decDigits u ≠ [] ∧ ((Lib.decDigits u).head? = some 48 → u = 0) := by
  induction u using Nat.strongRecOn with
  | _ u ih =>
    by_cases h : u < 10
    · rw [dec_small h]
      refine ⟨by rw [List.all_cons, dig_ofNat h]; rfl, by rw [val_cons, val_nil, toNat_dig h]; omega, by simp, ?_⟩
      intro e
      simp only [List.head?_cons, Option.some.injEq] at e
      have := congrArg UInt8.toNat e
      rw [toNat_dig h] at this
      have e48 : (48 : UInt8).toNat = 48 := rfl
      omega
    · rw [dec_big h]
      obtain ⟨i1, i2, i3, i4⟩ := ih (u / 10) (by omega)
      refine ⟨by rw [List.all_append, i1, List.all_cons, dig_ofNat (show u % 10 < 10 by omega)]; rfl, ?_, by simp, ?_⟩
      · rw [val_append, i2, val_cons, val_nil, toNat_dig (show u % 10 < 10 by omega)]
        omega
      · intro e
        rw [head_append i3] at e
        have := i4 e
        omega

/-- a number's text is read as that number -/
theorem parse_itoa (n : Int) (h : In n) : parseS (Lib.itoa n) = (n, 0) := by
  unfold Lib.itoa
  by_cases hn : n < 0
  · rw [if_pos hn]
    obtain ⟨f1, f2, f3, f4⟩ := dec_facts n.natAbs
    unfold parseS core
    rw [if_pos (show (45 :: Lib.decDigits n.natAbs).head? = some 45 from rfl), if_neg (by
      rintro (x | x | ⟨x, _⟩)
      · exact f3 x
      · rw [List.tail_cons, f1] at x; cases x
      · have := f4 x; omega), List.tail_cons, f2]
    have e : signed true n.natAbs = n := by simp only [signed, if_true]; omega
    rw [e]
    exact if_pos h
  · rw [if_neg hn]
    obtain ⟨f1, f2, f3, f4⟩ := dec_facts n.toNat
    have hm : ¬ (Lib.decDigits n.toNat).head? = some 45 := by
      intro e
      cases hh : Lib.decDigits n.toNat with
      | nil => exact f3 hh
      | cons c r =>
        rw [hh] at e f1
        simp only [List.head?_cons, Option.some.injEq] at e
        subst e
        rw [List.all_cons, show dig 45 = false by decide] at f1
        simp at f1
    unfold parseS core
    rw [if_neg hm, if_neg (by
      rintro (x | x | ⟨x, y⟩)
      · exact f3 x
      · rw [f1] at x; cases x
      · have h0 := f4 x
        rw [h0] at y
        exact y (by rw [dec_small (by decide)]; rfl)), f2]
    have e : signed false n.toNat = n := by simp only [signed, Bool.false_eq_true, if_false]; omega
    rw [e]
    exact if_pos h

/-- digits that do not begin with 0, or are just 0, are the numeral of their value -/
theorem dec_val : ∀ (n : Nat) (l : List UInt8), l.length = n → l ≠ [] → l.all dig = true → (l.head? = some 48 → l = [48]) → Lib.decDigits (val 0 l) = l := by
  intro n
  induction n using Nat.strongRecOn with
  | _ n ih =>
    intro l hl hne ha h0
    obtain ⟨r, c, rfl⟩ : ∃ r c, l = r ++ [c] := ⟨l.dropLast, l.getLast hne, (List.dropLast_concat_getLast hne).symm⟩
    have hc : 48 ≤ c.toNat ∧ c.toNat ≤ 57 := by
      simp only [List.all_append, List.all_cons, List.all_nil, Bool.and_true, Bool.and_eq_true] at ha
      simpa [dig] using ha.2
    have har : r.all dig = true := by simp only [List.all_append, Bool.and_eq_true] at ha; exact ha.1
    have ec : UInt8.ofNat (48 + (c.toNat - 48)) = c := by
      rw [show 48 + (c.toNat - 48) = c.toNat by omega]
      exact UInt8.ofNat_toNat
    rw [val_append]
    by_cases hr : r = []
    · subst hr
      rw [val_nil, val_cons, val_nil, dec_small (by omega), show 0 * 10 + (c.toNat - 48) = c.toNat - 48 by omega, ec]; rfl
    · have h0' : r.head? ≠ some 48 := by
        intro e
        have := h0 (by rw [head_append hr]; exact e)
        have hlen := congrArg List.length this
        simp at hlen
        exact hr hlen
      have ih1 := ih r.length (by rw [← hl]; simp) r rfl hr har (fun e => absurd e h0')
      have hpos : 0 < val 0 r := by
        obtain ⟨_, _, _, _⟩ := dec_facts (val 0 r)
        rcases Nat.eq_zero_or_pos (val 0 r) with z | z
        · rw [z, dec_small (by decide)] at ih1
          exact absurd (by rw [← ih1]; rfl) h0'
        · exact z
      rw [val_cons, val_nil, dec_big (by omega), show (val 0 r * 10 + (c.toNat - 48)) / 10 = val 0 r by omega, ih1, show (val 0 r * 10 + (c.toNat - 48)) % 10 = c.toNat - 48 by omega, ec]

/-- what is read has just that text -/
theorem itoa_parse (l : List UInt8) (k : Int) (h : parseS l = (k, 0)) : Lib.itoa k = l := by
  unfold parseS core at h
  by_cases hm : l.head? = some 45
  · rw [if_pos hm] at h
    obtain ⟨r, rfl⟩ : ∃ r, l = 45 :: r := by
      cases l with
      | nil => simp at hm
      | cons c r => simp at hm; exact ⟨r, by rw [hm]⟩
    by_cases hc : Bad (45 :: r) (List.tail (45 :: r))
    · rw [if_pos hc] at h; simp at h
    · rw [if_neg hc, List.tail_cons] at h
      obtain ⟨c1, c2, c3⟩ := good hc
      rw [List.tail_cons] at c1 c2 c3
      have c3' : r.head? ≠ some 48 := fun x => by have := c3 x; simp at this
      unfold told at h
      split at h
      · simp only [Prod.mk.injEq, and_true] at h
        subst h
        have dv := dec_val r.length r rfl c1 c2 (fun x => absurd x c3')
        have vp : val 0 r ≠ 0 := by
          intro z
          rw [z, dec_small (by decide)] at dv
          exact c3' (by rw [← dv]; rfl)
        simp only [signed, if_true]
        unfold Lib.itoa
        rw [if_pos (by omega), show (-(val 0 r : Int)).natAbs = val 0 r by omega, dv]
      · simp at h
  · rw [if_neg hm] at h
    by_cases hc : Bad l l
    · rw [if_pos hc] at h; simp at h
    · rw [if_neg hc] at h
      obtain ⟨c1, c2, c3⟩ := good hc
      unfold told at h
      split at h
      · simp only [Prod.mk.injEq, and_true] at h
        subst h
        have dv := dec_val l.length l rfl c1 c2 c3
        simp only [signed, Bool.false_eq_true, if_false]
        unfold Lib.itoa
        rw [if_neg (by omega), show ((val 0 l : Nat) : Int).toNat = val 0 l by omega, dv]
      · simp at h
end Go.Proofs.YtafndkgoeabehaaDoor.NumRead
