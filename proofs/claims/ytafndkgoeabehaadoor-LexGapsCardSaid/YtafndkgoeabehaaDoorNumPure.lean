/- The arithmetic that the Num statements need: Go's overflow tests on 64 bits say what the whole numbers say. No program in sight. -/
import Derived.RowKit
import Derived.Laws.Entries
import Derived.Laws.BitsLemmas
import Derived.Lib.Mul64
import Derived.Laws.Bits64b
import Derived.Shelf.Bits.Mul64
namespace Go.Proofs.YtafndkgoeabehaaDoor.NumPure
open Go Go.RowKit

theorem wrap_i64_bv (b : BitVec 64) : IntKind.i64.wrap (b.toNat : Int) = b.toInt := by
  rw [IntKind.wrap_i64, BitVec.toInt_eq_toNat_cond]
  have := b.isLt
  split <;> omega

theorem bits_xor_bv (x y : Int) : bits .xor .i64 x y = (BitVec.ofInt 64 x ^^^ BitVec.ofInt 64 y).toInt :=
  (rfl : bits .xor .i64 x y = IntKind.i64.wrap ((BitVec.ofInt 64 x ^^^ BitVec.ofInt 64 y).toNat : Int)).trans (wrap_i64_bv _)
theorem bits_and_bv (x y : Int) : bits .and .i64 x y = (BitVec.ofInt 64 x &&& BitVec.ofInt 64 y).toInt :=
  (rfl : bits .and .i64 x y = IntKind.i64.wrap ((BitVec.ofInt 64 x &&& BitVec.ofInt 64 y).toNat : Int)).trans (wrap_i64_bv _)

theorem toInt_neg (b : BitVec 64) : b.toInt < 0 ↔ b.msb = true := by rw [BitVec.msb_eq_toInt]; simp

theorem msb_ofInt (x : Int) (h0 : -9223372036854775808 ≤ x) (h1 : x ≤ 9223372036854775807) : (BitVec.ofInt 64 x).msb = decide (x < 0) := by
  rw [BitVec.msb_eq_toInt, BitVec.toInt_ofInt]
  rw [Int.bmod_eq_of_le (by omega) (by omega)]

theorem xor_neg (x y : Int) (hx0 : -9223372036854775808 ≤ x) (hx1 : x ≤ 9223372036854775807) (hy0 : -9223372036854775808 ≤ y) (hy1 : y ≤ 9223372036854775807) :
    (bits .xor .i64 x y < 0) ↔ ((x < 0) ↔ ¬ (y < 0)) := by
  rw [bits_xor_bv, toInt_neg, BitVec.msb_xor, msb_ofInt x hx0 hx1, msb_ofInt y hy0 hy1]
  by_cases h1 : x < 0 <;> by_cases h2 : y < 0 <;> simp [h1, h2]

theorem and_neg (x y : Int) (hx0 : -9223372036854775808 ≤ x) (hx1 : x ≤ 9223372036854775807) (hy0 : -9223372036854775808 ≤ y) (hy1 : y ≤ 9223372036854775807) :
    (bits .and .i64 x y < 0) ↔ (x < 0 ∧ y < 0) := by
  rw [bits_and_bv, toInt_neg, BitVec.msb_and, msb_ofInt x hx0 hx1, msb_ofInt y hy0 hy1]
  by_cases h1 : x < 0 <;> by_cases h2 : y < 0 <;> simp [h1, h2]

theorem xor_rng (x y : Int) : -9223372036854775808 ≤ bits .xor .i64 x y ∧ bits .xor .i64 x y ≤ 9223372036854775807 := by
  rw [bits_xor_bv]
  have h1 := BitVec.toInt_lt (x := BitVec.ofInt 64 x ^^^ BitVec.ofInt 64 y)
  have h2 := BitVec.le_toInt (x := BitVec.ofInt 64 x ^^^ BitVec.ofInt 64 y)
  omega

/-- a sum's overflow test -/
theorem add_test (a b : Int) (ha0 : -9223372036854775808 ≤ a) (ha1 : a ≤ 9223372036854775807) (hb0 : -9223372036854775808 ≤ b) (hb1 : b ≤ 9223372036854775807) :
    (bits .and .i64 (bits .xor .i64 a (wrap64 (a + b))) (bits .xor .i64 b (wrap64 (a + b))) < 0) ↔ (a + b < -9223372036854775808 ∨ 9223372036854775807 < a + b) := by
  have hw : -9223372036854775808 ≤ wrap64 (a + b) ∧ wrap64 (a + b) ≤ 9223372036854775807 := by unfold wrap64; omega
  have r1 := xor_rng a (wrap64 (a + b))
  have r2 := xor_rng b (wrap64 (a + b))
  rw [and_neg _ _ r1.1 r1.2 r2.1 r2.2, xor_neg _ _ ha0 ha1 hw.1 hw.2, xor_neg _ _ hb0 hb1 hw.1 hw.2]
  unfold wrap64
  omega

theorem sub_test (a b : Int) (ha0 : -9223372036854775808 ≤ a) (ha1 : a ≤ 9223372036854775807) (hb0 : -9223372036854775808 ≤ b) (hb1 : b ≤ 9223372036854775807) :
    (bits .and .i64 (bits .xor .i64 a b) (bits .xor .i64 a (wrap64 (a - b))) < 0) ↔ (a - b < -9223372036854775808 ∨ 9223372036854775807 < a - b) := by
  have hw : -9223372036854775808 ≤ wrap64 (a - b) ∧ wrap64 (a - b) ≤ 9223372036854775807 := by unfold wrap64; omega
  have r1 := xor_rng a b
  have r2 := xor_rng a (wrap64 (a - b))
  rw [and_neg _ _ r1.1 r1.2 r2.1 r2.2, xor_neg _ _ ha0 ha1 hb0 hb1, xor_neg _ _ ha0 ha1 hw.1 hw.2]
  unfold wrap64
  omega

/-- is a number one of 64 bits? -/
def In (x : Int) : Prop := -9223372036854775808 ≤ x ∧ x ≤ 9223372036854775807
instance (x : Int) : Decidable (In x) := inferInstanceAs (Decidable (_ ∧ _))
def told (x : Int) : Int × Int := if In x then (x, 0) else (0, 8)
def divS (a b : Int) : Int × Int := if b = 0 then (0, 9) else told (Int.tdiv a b)
def remS (a b : Int) : Int × Int := if b = 0 then (0, 9) else (Int.tmod a b, 0)

theorem wrap_in {x : Int} (h : In x) : wrap64 x = x := by unfold In at h; unfold wrap64; omega

theorem mul64_form (x y : Nat) (hx : x < 18446744073709551616) (hy : y < 18446744073709551616) :
  (IntKind.u64.wrap ((IntKind.u64.wrap ((IntKind.u64.wrap (((x : Int) / 4294967296) * ((y : Int) / 4294967296))) + ((IntKind.u64.wrap ((IntKind.u64.wrap (((x : Int) / 4294967296) * (Go.bits .and .u64 (y : Int) 4294967295))) + ((IntKind.u64.wrap ((Go.bits .and .u64 (x : Int) 4294967295) * (Go.bits .and .u64 (y : Int) 4294967295))) / 4294967296))) / 4294967296))) + ((IntKind.u64.wrap ((Go.bits .and .u64 (IntKind.u64.wrap ((IntKind.u64.wrap (((x : Int) / 4294967296) * (Go.bits .and .u64 (y : Int) 4294967295))) + ((IntKind.u64.wrap ((Go.bits .and .u64 (x : Int) 4294967295) * (Go.bits .and .u64 (y : Int) 4294967295))) / 4294967296))) 4294967295) + (IntKind.u64.wrap ((Go.bits .and .u64 (x : Int) 4294967295) * ((y : Int) / 4294967296))))) / 4294967296)), IntKind.u64.wrap ((x : Int) * (y : Int)))
   = (((x * y / 18446744073709551616 : Nat) : Int), ((x * y % 18446744073709551616 : Nat) : Int)) := by
  obtain ⟨bd, bt, bw, hhi⟩ := Lib.mul64_hi x y hx hy
  have ba := Lib.half_mul_le (a := x / 4294967296) (b := y / 4294967296) (by omega) (by omega)
  have bb := Lib.half_mul_le (a := x / 4294967296) (b := y % 4294967296) (by omega) (by omega)
  have bc := Lib.half_mul_le (a := x % 4294967296) (b := y / 4294967296) (by omega) (by omega)
  have ba' : x / 4294967296 * (y / 4294967296) < 18446744073709551616 := by omega
  have bb' : x / 4294967296 * (y % 4294967296) < 18446744073709551616 := by omega
  have bc' : x % 4294967296 * (y / 4294967296) < 18446744073709551616 := by omega
  have bh1 : x / 4294967296 * (y / 4294967296) + (x / 4294967296 * (y % 4294967296) + x % 4294967296 * (y % 4294967296) / 4294967296) / 4294967296 < 18446744073709551616 := by omega
  have bh : x / 4294967296 * (y / 4294967296) + (x / 4294967296 * (y % 4294967296) + x % 4294967296 * (y % 4294967296) / 4294967296) / 4294967296 + ((x / 4294967296 * (y % 4294967296) + x % 4294967296 * (y % 4294967296) / 4294967296) % 4294967296 + x % 4294967296 * (y / 4294967296)) / 4294967296 < 18446744073709551616 := by omega
  simp only [Mul64.maskN x hx, Mul64.maskN y hy, Mul64.divN, Mul64.mulN, Mul64.addN, Mul64.wrapN _ bd, Mul64.wrapN _ bb', Mul64.wrapN _ bt, Mul64.maskN _ bt, Mul64.wrapN _ bc', Mul64.wrapN _ bw, Mul64.wrapN _ ba', Mul64.wrapN _ bh1, Mul64.wrapN _ bh, Mul64.wrapM (x * y)]
  rw [hhi]

theorem natAbs_le {a : Int} (h : In a) : a.natAbs ≤ 9223372036854775808 := by unfold In at h; omega

theorem size_form (a : Int) (h : In a) : (if a < 0 then IntKind.u64.wrap (-(IntKind.u64.wrap a)) else IntKind.u64.wrap a) = (a.natAbs : Int) := by
  unfold In at h
  simp only [IntKind.wrap_u64]
  split <;> omega

/-- the truncated quotient of a product by a factor is the other factor; else the product has left the bits -/
theorem ref_mul (a b : Int) (ha : In a) (hb : In b) (h0 : b ≠ 0) (h1 : ¬ (a = -1 ∧ b = -9223372036854775808)) (h2 : ¬ (b = -1 ∧ a = -9223372036854775808)) :
    wrap64 (Int.tdiv (wrap64 (a * b)) b) = a ↔ In (a * b) := by
  constructor
  · intro h
    by_cases hin : In (a * b)
    · exact hin
    · exfalso
      have hc : In (wrap64 (a * b)) := by unfold In wrap64; omega
      have hmod : ∃ k : Int, wrap64 (a * b) = a * b - 18446744073709551616 * k := by
        refine ⟨(a * b + 9223372036854775808) / 18446744073709551616, ?_⟩
        unfold wrap64; omega
      obtain ⟨k, hk⟩ := hmod
      have hk0 : k ≠ 0 := by
        intro e; rw [e] at hk; apply hin; rw [show a * b = wrap64 (a * b) by omega]; exact hc
      generalize wrap64 (a * b) = c at *
      -- |c| < 2^63 .. and tdiv c b = a up to a wrap
      have hq : Int.tdiv c b = a ∨ (b = -1 ∧ c = -9223372036854775808) := by
        by_cases hb1 : b = -1 ∧ c = -9223372036854775808
        · exact .inr hb1
        · left
          have : In (Int.tdiv c b) := by
            unfold In at *
            have h3 : (Int.tdiv c b).natAbs ≤ c.natAbs := by
              rw [Int.natAbs_tdiv]; exact Nat.div_le_self _ _
            by_cases hbb : b = -1
            · subst hbb; rw [Int.tdiv_neg, Int.tdiv_one]; omega
            · by_cases hcc : c = -9223372036854775808
              · by_cases hb1' : b = 1
                · subst hb1'; rw [Int.tdiv_one]; omega
                · have h4 : (Int.tdiv c b).natAbs ≤ c.natAbs / 2 := by
                    rw [Int.natAbs_tdiv]
                    exact Nat.div_le_div_left (by omega) (by omega)
                  omega
              · omega
          rw [wrap_in this] at h
          exact h
      rcases hq with hq | ⟨rfl, rfl⟩
      · have h5 := Int.tdiv_mul_add_tmod c b
        rw [hq] at h5
        have h6 : (Int.tmod c b).natAbs < b.natAbs := by
          rw [Int.natAbs_tmod]; exact Nat.mod_lt _ (by omega)
        unfold In at *
        omega
      · rw [Int.tdiv_neg, Int.tdiv_one] at h
        have : wrap64 (-(-9223372036854775808)) = -9223372036854775808 := by unfold wrap64; omega
        rw [this] at h
        exact h2 ⟨rfl, h.symm⟩
  · intro hin
    rw [wrap_in hin, Int.mul_tdiv_cancel _ h0, wrap_in ha]
def mulK (na nb : Bool) (hi lo : Int) : Int × Int :=
  if hi = 0 then (if 9223372036854775808 < lo then (0, 8) else if lo = 9223372036854775808 then (if (na != nb) = true then (wrap64 (IntKind.u64.wrap (-lo)), 0) else (0, 8)) else if (na != nb) = true then (wrap64 (IntKind.u64.wrap (-lo)), 0) else (wrap64 lo, 0)) else (0, 8)

/-- the product, out of the sizes' product -/
theorem prod_in (a b : Int) : In (a * b) ↔ (if (decide (a < 0) != decide (b < 0)) = true then a.natAbs * b.natAbs ≤ 9223372036854775808 else a.natAbs * b.natAbs < 9223372036854775808) ∨ (a = 0 ∨ b = 0) := by
  have e := Int.natAbs_mul a b
  by_cases ha : a = 0
  · subst ha; simp [In]
  by_cases hb : b = 0
  · subst hb; simp [In]
  have hs : (a * b < 0) ↔ ((decide (a < 0) != decide (b < 0)) = true) := by
    rcases Int.lt_or_lt_of_ne ha with h1 | h1 <;> rcases Int.lt_or_lt_of_ne hb with h2 | h2
    · have := Int.mul_pos_of_neg_of_neg h1 h2; simp [h1, h2]; omega
    · have := Int.mul_neg_of_neg_of_pos h1 h2; simp [h1, this]; omega
    · have := Int.mul_neg_of_pos_of_neg h1 h2; simp [h2, this]; omega
    · have := Int.mul_pos h1 h2; simp; omega
  unfold In
  rw [← e]
  by_cases h : (decide (a < 0) != decide (b < 0)) = true
  · have := hs.2 h; rw [if_pos h]; omega
  · have : ¬ a * b < 0 := fun x => h (hs.1 x)
    rw [if_neg h]; omega


theorem mulK_told (a b : Int) :
    mulK (decide (a < 0)) (decide (b < 0)) ((a.natAbs * b.natAbs / 18446744073709551616 : Nat) : Int) ((a.natAbs * b.natAbs % 18446744073709551616 : Nat) : Int) = told (a * b) := by
  have pi := prod_in a b
  have e := Int.natAbs_mul a b
  have sg : (decide (a < 0) != decide (b < 0)) = true → a * b ≤ 0 := by
    intro h
    by_cases h1 : a < 0 <;> by_cases h2 : b < 0 <;> simp [h1, h2] at h
    · exact Int.mul_nonpos_of_nonpos_of_nonneg (by omega) (by omega)
    · exact Int.mul_nonpos_of_nonneg_of_nonpos (by omega) (by omega)
  have sg' : ¬ (decide (a < 0) != decide (b < 0)) = true → 0 ≤ a * b := by
    intro h
    by_cases h1 : a < 0 <;> by_cases h2 : b < 0 <;> simp [h1, h2] at h
    · exact Int.mul_nonneg_of_nonpos_of_nonpos (by omega) (by omega)
    · exact Int.mul_nonneg (by omega) (by omega)
  unfold mulK
  generalize hM : (decide (a < 0) != decide (b < 0)) = M at *
  rw [← e] at *
  clear hM e
  generalize a * b = p at *
  clear pi
  unfold told
  by_cases h1 : ((p.natAbs / 18446744073709551616 : Nat) : Int) = 0
  · rw [if_pos h1]
    have hm : ((p.natAbs % 18446744073709551616 : Nat) : Int) = p.natAbs := by omega
    rw [hm]
    by_cases h2 : 9223372036854775808 < (p.natAbs : Int)
    · rw [if_pos h2, if_neg (by unfold In; omega)]
    · rw [if_neg h2]
      by_cases h3 : (p.natAbs : Int) = 9223372036854775808
      · rw [if_pos h3]
        cases M
        · have := sg' (by simp)
          simp only [Bool.false_eq_true, if_false]
          rw [if_neg (by unfold In; omega)]
        · have := sg rfl
          simp only [if_true]
          rw [if_pos (by unfold In; omega)]
          have : p = -9223372036854775808 := by omega
          subst this
          rw [h3, IntKind.wrap_u64]
          unfold wrap64
          congr 1
      · rw [if_neg h3]
        cases M
        · have := sg' (by simp)
          simp only [Bool.false_eq_true, if_false]
          rw [if_pos (by unfold In; omega), wrap_in (by unfold In; omega)]
          congr 1; omega
        · have := sg rfl
          simp only [if_true]
          rw [if_pos (by unfold In; omega), IntKind.wrap_u64]
          unfold wrap64
          congr 1; omega
  · rw [if_neg h1, if_neg (by unfold In; omega)]
end Go.Proofs.YtafndkgoeabehaaDoor.NumPure
