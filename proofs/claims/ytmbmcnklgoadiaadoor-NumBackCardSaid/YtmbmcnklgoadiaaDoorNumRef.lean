/- What the reference's printed Parse and Text come to: the same plain answers. -/
import Derived.Test.YtmbmcnklgoadiaaDoorNumRead
import Derived.Test.YtmbmcnklgoadiaaDoorQParsex1
import Derived.Test.YtmbmcnklgoadiaaDoorPTextx1
import Derived.Lib.IndexBytes
namespace Go.Proofs.YtmbmcnklgoadiaaDoor.NumRef
open Go Go.RowKit Go.Proofs.YtmbmcnklgoadiaaDoor.NumPure Go.Proofs.YtmbmcnklgoadiaaDoor.NumRead Go.Proofs.YtmbmcnklgoadiaaDoorW.PrintWords Go.Proofs.YtmbmcnklgoadiaaDoorW.PrintLast Go.Proofs.YtmbmcnklgoadiaaDoor.QParse Go.Proofs.YtmbmcnklgoadiaaDoor.PText

theorem bt_of (x : ByteArray) (i : Nat) (c : UInt8) (r : List UInt8) (h : x.data.toList.drop i = c :: r) : bt x (i : Int) = c.toNat ∧ (i : Int) < (x.size : Int) ∧ x.data.toList.drop (i + 1) = r := by
  have hl : i < x.data.toList.length := by
    rcases Nat.lt_or_ge i x.data.toList.length with h1 | h1
    · exact h1
    · rw [List.drop_eq_nil_of_le h1] at h; cases h
  rw [List.drop_eq_getElem_cons hl] at h
  simp only [List.cons.injEq] at h
  have hs : x.size = x.data.toList.length := Lib.size_eq x
  refine ⟨?_, by omega, h.2⟩
  unfold bt
  rw [dif_pos (by simp; omega)]
  rw [← h.1]
  simp
  rfl

theorem wrap_up {i : Nat} (h : (i : Int) < 140737488351232) : wrap64 ((i : Int) + 1) = ((i + 1 : Nat) : Int) := by unfold wrap64; omega

theorem l0_is (x : ByteArray) (m : Bool) (hx : x.size ≤ 140737488351232) (k : Nat) : ∀ (r : List UInt8) (i : Nat), x.data.toList.drop i = r →
    vestryref01_Parse.l0 (r.length + 1 + k) x m i = if r.all dig = true then vestryref01_Parse.l1 k x m 0 0 else some (0, 7) := by
  intro r
  have hs : x.size = x.data.toList.length := Lib.size_eq x
  induction r with
  | nil =>
    intro i h
    have hi : x.size ≤ i := by rw [hs]; exact List.drop_eq_nil_iff.1 h
    rw [List.length_nil, Nat.zero_add, Nat.add_comm 1 k]
    rw [vestryref01_Parse.l0, if_neg (by omega)]; rfl
  | cons c r ih =>
    intro i h
    obtain ⟨h1, h2, h3⟩ := bt_of x i c r h
    rw [show (c :: r).length + 1 + k = (r.length + 1 + k) + 1 by rw [List.length_cons]; omega, vestryref01_Parse.l0, if_pos h2, if_pos (by omega), h1, wrap_up (by omega), ih (i + 1) h3, List.all_cons]
    unfold dig
    by_cases c1 : (c.toNat : Int) < 48
    · rw [if_pos c1, if_neg (by simp; omega)]
    · rw [if_neg c1]
      by_cases c2 : (c.toNat : Int) > 57
      · rw [if_pos c2, if_neg (by simp; omega)]
      · rw [if_neg c2]
        have : decide (48 ≤ c.toNat ∧ c.toNat ≤ 57) = true := decide_eq_true (by omega)
        rw [this, Bool.true_and]

theorem told_out {x : Int} (h : ¬ In x) : told x = (0, 8) := if_neg h
theorem told_in {x : Int} (h : In x) : told x = (x, 0) := if_pos h

theorem l1_is (x : ByteArray) (m : Bool) (hx : x.size ≤ 140737488351232) (k : Nat) : ∀ (r : List UInt8) (i n : Nat), x.data.toList.drop i = r → r.all dig = true → In (signed m n) →
    vestryref01_Parse.l1 (2 * r.length + 1 + k) x m (signed m n) i = some (told (signed m (val n r))) := by
  intro r
  have hs : x.size = x.data.toList.length := Lib.size_eq x
  induction r with
  | nil =>
    intro i n h _ hin
    have hi : x.size ≤ i := by rw [hs]; exact List.drop_eq_nil_iff.1 h
    rw [List.length_nil, show 2 * 0 + 1 + k = k + 1 by omega, vestryref01_Parse.l1, if_neg (by omega), val_nil, told_in hin]
  | cons c r ih =>
    intro i n h ha hin
    obtain ⟨h1, h2, h3⟩ := bt_of x i c r h
    simp only [List.all_cons, Bool.and_eq_true] at ha
    have hc : 48 ≤ c.toNat ∧ c.toNat ≤ 57 := by simpa [dig] using ha.1
    have hd : ((c.toNat : Int) - 48) % 256 = ((c.toNat - 48 : Nat) : Int) := by omega
    have hv := val_ge r (n * 10 + (c.toNat - 48))
    rw [show 2 * (c :: r).length + 1 + k = (2 * r.length + 1 + k + 1) + 1 by rw [List.length_cons]; omega, vestryref01_Parse.l1, if_pos h2, if_pos (by omega), h1, tdiv_bare, hd, val_cons]
    have hq : Int.tdiv ((-9223372036854775808) + ((c.toNat - 48 : Nat) : Int)) 10 = - ((9223372036854775808 - ((c.toNat - 48 : Nat) : Int)) / 10) := by
      rw [show (-9223372036854775808) + ((c.toNat - 48 : Nat) : Int) = -(9223372036854775808 - ((c.toNat - 48 : Nat) : Int)) by omega, Int.neg_tdiv, Int.tdiv_eq_ediv_of_nonneg (by omega)]
    rw [hq]
    have hbig : ∀ b, vestryref01_Parse.j5 (2 * r.length + 1 + k + 1) x m (signed m n) i ((c.toNat - 48 : Nat) : Int) b = if b = true then some (0, 8) else (if m = true then (vestryref01_Parse.l1 (2 * r.length + 1 + k) x m (wrap64 ((wrap64 (signed m n * 10)) - ((c.toNat - 48 : Nat) : Int))) (wrap64 ((i : Int) + 1))) else (vestryref01_Parse.l1 (2 * r.length + 1 + k) x m (wrap64 ((wrap64 (signed m n * 10)) + ((c.toNat - 48 : Nat) : Int))) (wrap64 ((i : Int) + 1)))) := fun b => by rw [vestryref01_Parse.j5]
    rw [hbig, hbig, hbig, wrap_up (by omega)]
    have go := ih (i + 1) (n * 10 + (c.toNat - 48)) h3 ha.2
    clear hbig ih hq hd h h1 h3
    generalize hb : c.toNat - 48 = d at *
    have hd9 : d ≤ 9 := by omega
    cases m
    · simp only [Bool.false_eq_true, if_false, signed] at *
      by_cases c1 : (n : Int) > (9223372036854775807 - (d : Int)) / 10
      · rw [decide_eq_true c1, if_pos rfl, told_out (by unfold In; omega)]
      · rw [decide_eq_false c1, if_neg (by simp)]
        have hin2 : In (((n * 10 + d : Nat) : Int)) := by unfold In; omega
        have w1 : wrap64 (wrap64 ((n : Int) * 10) + (d : Int)) = ((n * 10 + d : Nat) : Int) := by
          rw [wrap_in (show In ((n : Int) * 10) by unfold In at *; omega), wrap_in (show In ((n : Int) * 10 + (d : Int)) by unfold In at *; omega)]; omega
        rw [w1]
        exact go hin2
    · simp only [if_true, signed] at *
      by_cases c1 : (-(n : Int)) < -((9223372036854775808 - (d : Int)) / 10)
      · rw [if_pos c1, told_out (by unfold In; omega)]
      · rw [if_neg c1]
        simp only [Bool.false_eq_true, if_false]
        have hin2 : In (-((n * 10 + d : Nat) : Int)) := by unfold In; omega
        have w1 : wrap64 (wrap64 (-(n : Int) * 10) - (d : Int)) = -((n * 10 + d : Nat) : Int) := by
          rw [wrap_in (show In (-(n : Int) * 10) by unfold In at *; omega), wrap_in (show In (-(n : Int) * 10 - (d : Int)) by unfold In at *; omega)]; omega
        rw [w1]
        exact go hin2

theorem j2_is (x : ByteArray) (m : Bool) (hx : x.size ≤ 140737488351232) (k : Nat) (b : Bool) :
    vestryref01_Parse.j2 (x.size + 1 + (2 * x.size + 1 + k) + 1) x m b = if b = true ∨ x.data.toList.all dig = false then some (0, 7) else some (told (signed m (val 0 x.data.toList))) := by
  rw [vestryref01_Parse.j2]
  cases b
  · have hs : x.size = x.data.toList.length := Lib.size_eq x
    have h0 := l0_is x m hx (2 * x.size + 1 + k) x.data.toList 0 rfl
    have h1 := l1_is x m hx k x.data.toList 0 0 rfl
    rw [← hs] at h0 h1
    rw [if_neg (by simp), show (0 : Int) = ((0 : Nat) : Int) from rfl, h0]
    cases ha : x.data.toList.all dig
    · simp
    · have e0 : signed m 0 = 0 := by cases m <;> rfl
      have := h1 ha (by rw [e0]; simp [In])
      rw [e0] at this
      simp only [if_true, Bool.false_eq_true, or_self, if_false, Bool.true_eq_false]
      exact this
  · simp

theorem j1_is (s x : ByteArray) (m : Bool) (hx : x.size ≤ 140737488351232) (k : Nat) :
    vestryref01_Parse.j1 (x.size + 1 + (2 * x.size + 1 + k) + 2) s x m = some (core s.data.toList m x.data.toList) := by
  have hs : x.size = x.data.toList.length := Lib.size_eq x
  rw [vestryref01_Parse.j1]
  unfold core
  have hsl : s.toList = s.data.toList := Lib.toList_data s
  cases hl : x.data.toList with
  | nil =>
    rw [hl, List.length_nil] at hs
    rw [if_pos (by omega), j2_is x m hx k true, if_pos (.inl rfl), if_pos (.inl rfl)]
  | cons c r =>
    have hne : ¬ ((x.size : Int) = 0) := by rw [hs, hl, List.length_cons]; omega
    obtain ⟨h1, h2, _⟩ := bt_of x 0 c r hl
    have h1' : bt x 0 = c.toNat := h1
    have h2' : 0 < (x.size : Int) := h2
    rw [if_neg hne, if_pos h2', h1']
    by_cases c48 : (c.toNat : Int) = 48
    · have ec : c = 48 := UInt8.toNat_inj.mp (by have e48 : (48 : UInt8).toNat = 48 := rfl; omega)
      rw [if_pos c48, j2_is x m hx k, hsl, hl]
      by_cases hz : s.data.toList = [48]
      · have : (s.data.toList != [48]) = false := bne_eq_false_iff_eq.mpr hz
        rw [this]
        by_cases ha : (c :: r).all dig = false
        · rw [if_pos (.inr ha), if_pos (.inr (.inl ha))]
        · rw [if_neg (by rintro (y | y); exact absurd y (by simp); exact ha y), if_neg (by
            rintro (y | y | y)
            · cases y
            · exact ha y
            · exact y.2 hz)]
      · have : (s.data.toList != [48]) = true := bne_iff_ne.mpr hz
        rw [this, if_pos (.inl rfl), if_pos (.inr (.inr ⟨by rw [ec]; rfl, hz⟩))]
    · rw [if_neg c48, j2_is x m hx k, hl]
      by_cases ha : (c :: r).all dig = false
      · rw [if_pos (.inr ha), if_pos (.inr (.inl ha))]
      · rw [if_neg (by rintro (y | y); exact absurd y (by simp); exact ha y), if_neg (by
          rintro (y | y | y)
          · cases y
          · exact ha y
          · have := y.1
            simp only [List.head?_cons, Option.some.injEq] at this
            rw [this] at c48
            exact c48 rfl)]

theorem ref_parse (s : ByteArray) (hs : s.size ≤ 140737488351232) : ∃ k, vestryref01_Parse.f k s = some (parseS s.data.toList) := by
  have hsz : s.size = s.data.toList.length := Lib.size_eq s
  unfold vestryref01_Parse.f parseS
  cases hl : s.data.toList with
  | nil =>
    rw [hl, List.length_nil] at hsz
    refine ⟨s.size + 1 + (2 * s.size + 1 + 0) + 2 + 1, ?_⟩
    rw [if_neg (by omega), vestryref01_Parse.j0, if_neg (by simp), j1_is s s false hs 0, hl]; rfl
  | cons c r =>
    have hne : (s.size : Int) > 0 := by rw [hsz, hl, List.length_cons]; omega
    obtain ⟨h1, h2, _⟩ := bt_of s 0 c r hl
    have h1' : bt s 0 = c.toNat := h1
    by_cases c45 : c = 45
    · subst c45
      have hx : (s.extract 1 s.size).data.toList = r := by
        rw [show (s.extract 1 s.size).data.toList = s.data.toList.drop 1 from Lib.extract_to_end s 1, hl]; rfl
      have hxs : (s.extract 1 s.size).size ≤ 140737488351232 := by rw [Lib.size_eq, hx]; rw [hsz, hl] at hs; simp at hs; omega
      refine ⟨(s.extract 1 s.size).size + 1 + (2 * (s.extract 1 s.size).size + 1 + 0) + 2 + 1, ?_⟩
      have e45 : ((45 : UInt8).toNat : Int) = 45 := rfl
      rw [if_pos hne, if_pos hne, h1', e45, vestryref01_Parse.j0, if_pos (by decide), if_pos (by omega), show ((45 : Int) == 45) = true by decide, j1_is s _ true hxs 0, hx, hl]; rfl
    · have hn : ((c.toNat : Int) == 45) = false := beq_eq_false_iff_ne.mpr (fun x => c45 (UInt8.toNat_inj.mp (by have e : (45 : UInt8).toNat = 45 := rfl; omega)))
      refine ⟨s.size + 1 + (2 * s.size + 1 + 0) + 2 + 1, ?_⟩
      rw [if_pos hne, if_pos hne, h1', hn, vestryref01_Parse.j0, if_neg (by simp), j1_is s s false hs 0, hl, if_neg (by simpa using c45)]

/-! the reference's Text -/
def nums8 (l : List UInt8) : List Int := l.map fun b => (b.toNat : Int)
theorem strOfNums_nums8 (l : List UInt8) : strOfNums (nums8 l) = ⟨l.toArray⟩ := by
  unfold strOfNums nums8
  have : ((fun n : Int => UInt8.ofNat n.toNat) ∘ fun b : UInt8 => (b.toNat : Int)) = id := by funext b; simp
  rw [List.map_map, this, List.map_id]

theorem digit_byte (d : Nat) (h : d < 10) : (wrap64 (48 + (d : Int))) % 256 = ((UInt8.ofNat (48 + d)).toNat : Int) := by
  rw [toNat_dig h]; unfold wrap64; omega

theorem l0_step (x0 x4 : Int) (ds : List Int) (k : Nat) (h4 : In x4) (h0 : x4 ≠ 0) (hl : ds.length < 1000) :
    vestryref01_Text.l0 (k + 1) x0 ds x4 = vestryref01_Text.l0 k x0 (((UInt8.ofNat (48 + x4.natAbs % 10)).toNat : Int) :: ds) (Int.tdiv x4 10) := by
  rw [vestryref01_Text.l0, if_neg h0]
  have hb : (Int.tmod x4 10).natAbs = x4.natAbs % 10 := by rw [Int.natAbs_tmod]; rfl
  have hq : wrap64 (Int.tdiv x4 10) = Int.tdiv x4 10 := by
    apply wrap_in
    have h3 : (Int.tdiv x4 10).natAbs ≤ x4.natAbs / 10 := by rw [Int.natAbs_tdiv]; exact Nat.le_refl _
    unfold In at *
    omega
  rw [hq]
  have hlen : ∀ y : Int, ([y] : List Int).length + ds.length < 140737488355328 := fun y => by simp; omega
  by_cases hn : Int.tmod x4 10 < 0
  · rw [if_pos hn]
    have e : wrap64 (-(Int.tmod x4 10)) = ((x4.natAbs % 10 : Nat) : Int) := by rw [wrap_in (by unfold In; omega)]; omega
    rw [e, digit_byte _ (by omega)]
    simp only [Option.bind_some]
    rw [if_pos (hlen _)]; rfl
  · rw [if_neg hn]
    have e : Int.tmod x4 10 = ((x4.natAbs % 10 : Nat) : Int) := by omega
    rw [e, digit_byte _ (by omega)]
    simp only [Option.bind_some]
    rw [if_pos (hlen _)]; rfl

/-- the loop lays the digits of what is left ahead of what is there -/
theorem text_loop (x0 : Int) (k : Nat) : ∀ (n : Nat) (x4 : Int) (ds : List Int), x4.natAbs = n → In x4 → x4 ≠ 0 → ds.length + (Lib.decDigits n).length ≤ 1000 →
    vestryref01_Text.l0 ((Lib.decDigits n).length + k) x0 ds x4 = vestryref01_Text.l0 k x0 (nums8 (Lib.decDigits n) ++ ds) 0 := by
  intro n
  induction n using Nat.strongRecOn with
  | _ n ih =>
    intro x4 ds hn hin h0 hl
    have hb : (Int.tdiv x4 10).natAbs = n / 10 := by rw [Int.natAbs_tdiv, hn]; rfl
    by_cases h : n < 10
    · rw [dec_small h] at hl ⊢
      have hz : Int.tdiv x4 10 = 0 := by omega
      rw [show ([UInt8.ofNat (48 + n)] : List UInt8).length + k = k + 1 by simp; omega, l0_step x0 x4 ds k hin h0 (by simp at hl; omega), hz, hn, Nat.mod_eq_of_lt h]
      rfl
    · have hd := dec_big h
      rw [hd] at hl ⊢
      rw [List.length_append] at hl ⊢
      have hl1 : ([UInt8.ofNat (48 + n % 10)] : List UInt8).length = 1 := rfl
      rw [hl1] at hl ⊢
      have hqn : Int.tdiv x4 10 ≠ 0 := by omega
      have hqi : In (Int.tdiv x4 10) := by unfold In at *; omega
      rw [show (Lib.decDigits (n / 10)).length + 1 + k = ((Lib.decDigits (n / 10)).length + k) + 1 by omega, l0_step x0 x4 ds _ hin h0 (by omega), hn,
        ih (n / 10) (by omega) (Int.tdiv x4 10) _ hb hqi hqn (by simp; omega)]
      unfold nums8
      simp

theorem dec_len (n : Nat) (h : n ≤ 9223372036854775808) : (Lib.decDigits n).length ≤ 20 := by
  have : ∀ k n : Nat, n < 10 ^ (k + 1) → (Lib.decDigits n).length ≤ k + 1 := by
    intro k
    induction k with
    | zero => intro n hn; rw [dec_small (by simpa using hn)]; simp
    | succ k ih =>
      intro n hn
      by_cases h : n < 10
      · rw [dec_small h]; simp
      · rw [dec_big h]
        have := ih (n / 10) (by rw [Nat.pow_succ] at hn; omega)
        simp; omega
  exact this 19 n (by have : (10 : Nat) ^ (19 + 1) = 100000000000000000000 := by decide
                      omega)

theorem ref_text (n : Int) (h : In n) : ∃ k, vestryref01_Text.f k n = some ⟨(Lib.itoa n).toArray⟩ := by
  unfold vestryref01_Text.f
  by_cases h0 : n = 0
  · subst h0
    refine ⟨0, ?_⟩
    rw [if_pos rfl]
    have : Lib.itoa 0 = [48] := by unfold Lib.itoa; rw [if_neg (by decide)]; exact dec_small (by decide)
    rw [this]
  · refine ⟨(Lib.decDigits n.natAbs).length + 1, ?_⟩
    have hl := dec_len n.natAbs (by unfold In at h; omega)
    rw [if_neg h0, text_loop n 1 n.natAbs n [] rfl h h0 (by simp; omega), vestryref01_Text.l0, if_pos rfl, List.append_nil, strOfNums_nums8]
    unfold Lib.itoa
    by_cases hn : n < 0
    · rw [if_pos hn, if_pos hn, if_pos (by
        have : (⟨(Lib.decDigits n.natAbs).toArray⟩ : ByteArray).size = (Lib.decDigits n.natAbs).length := by simp [ByteArray.size]
        rw [this]; omega)]
      congr 1
    · rw [if_neg hn, if_neg hn, show n.natAbs = n.toNat by omega]
end Go.Proofs.YtmbmcnklgoadiaaDoor.NumRef
