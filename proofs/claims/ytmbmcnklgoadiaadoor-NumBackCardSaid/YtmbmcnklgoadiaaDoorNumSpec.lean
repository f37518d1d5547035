/- What the printed functions of the layer num, and of its reference, come to: one plain answer each. -/
import Derived.Test.YtmbmcnklgoadiaaDoorNumPure
import Derived.Test.YtmbmcnklgoadiaaDoorPOpx1
import Derived.Test.YtmbmcnklgoadiaaDoorPDivx1
import Derived.Test.YtmbmcnklgoadiaaDoorPAddx1
import Derived.Test.YtmbmcnklgoadiaaDoorPRemx1
import Derived.Test.YtmbmcnklgoadiaaDoorPCmpx1
namespace Go.Proofs.YtmbmcnklgoadiaaDoor.NumSpec
open Go Go.RowKit Go.Proofs.YtmbmcnklgoadiaaDoor.NumPure Go.Proofs.YtmbmcnklgoadiaaDoor.POp Go.Proofs.YtmbmcnklgoadiaaDoor.PDiv Go.Proofs.YtmbmcnklgoadiaaDoor.PAdd Go.Proofs.YtmbmcnklgoadiaaDoor.PRem Go.Proofs.YtmbmcnklgoadiaaDoor.PCmp

theorem num_add (a b : Int) (ha : In a) (hb : In b) : num_Add.f a b = some (told (a + b)) := by
  unfold num_Add.f told
  have t := add_test a b ha.1 ha.2 hb.1 hb.2
  by_cases h : In (a + b)
  · rw [if_neg (by rw [t]; unfold In at h; omega), if_pos h, wrap_in h]
  · rw [if_pos (by rw [t]; unfold In at h; omega), if_neg h]

theorem num_sub (a b : Int) (ha : In a) (hb : In b) : num_Sub.f a b = some (told (a - b)) := by
  unfold num_Sub.f told
  have t := sub_test a b ha.1 ha.2 hb.1 hb.2
  by_cases h : In (a - b)
  · rw [if_neg (by rw [t]; unfold In at h; omega), if_pos h, wrap_in h]
  · rw [if_pos (by rw [t]; unfold In at h; omega), if_neg h]

theorem ref_add (a b : Int) (ha : In a) (hb : In b) : vestryref01_Add.f a b = some (told (a + b)) := by
  unfold vestryref01_Add.f told
  have w1 : b > 0 → wrap64 (9223372036854775807 - b) = 9223372036854775807 - b := fun h => by unfold In at hb; unfold wrap64; omega
  have w2 : b < 0 → wrap64 ((-9223372036854775808) - b) = (-9223372036854775808) - b := fun h => by unfold In at hb; unfold wrap64; omega
  by_cases p : b > 0
  · rw [if_pos p, w1 p, if_neg (show ¬ b < 0 by omega)]
    by_cases h : In (a + b)
    · rw [if_pos h, if_neg (by unfold In at h; omega), wrap_in h]
    · rw [if_neg h, if_pos (by unfold In at h ha; omega)]
  · rw [if_neg p]
    by_cases n : b < 0
    · rw [if_pos n, w2 n]
      by_cases h : In (a + b)
      · rw [if_pos h, if_neg (by unfold In at h; omega), wrap_in h]
      · rw [if_neg h, if_pos (by unfold In at h ha; omega)]
    · obtain rfl : b = 0 := by omega
      have h : In (a + 0) := by simpa using ha
      rw [if_neg n, if_pos h, wrap_in h]

theorem ref_sub (a b : Int) (ha : In a) (hb : In b) : vestryref01_Sub.f a b = some (told (a - b)) := by
  unfold vestryref01_Sub.f told
  have w1 : b < 0 → wrap64 (9223372036854775807 + b) = 9223372036854775807 + b := fun h => by unfold In at hb; unfold wrap64; omega
  have w2 : b > 0 → wrap64 ((-9223372036854775808) + b) = (-9223372036854775808) + b := fun h => by unfold In at hb; unfold wrap64; omega
  by_cases p : b < 0
  · rw [if_pos p, w1 p, if_neg (show ¬ b > 0 by omega)]
    by_cases h : In (a - b)
    · rw [if_pos h, if_neg (by unfold In at h; omega), wrap_in h]
    · rw [if_neg h, if_pos (by unfold In at h ha; omega)]
  · rw [if_neg p]
    by_cases n : b > 0
    · rw [if_pos n, w2 n]
      by_cases h : In (a - b)
      · rw [if_pos h, if_neg (by unfold In at h; omega), wrap_in h]
      · rw [if_neg h, if_pos (by unfold In at h ha; omega)]
    · obtain rfl : b = 0 := by omega
      have h : In (a - 0) := by simpa using ha
      rw [if_neg n, if_pos h, wrap_in h]

theorem ref_mul_is (a b : Int) (ha : In a) (hb : In b) (k : Nat) : vestryref01_Mul.f (k + 2) a b = some (told (a * b)) := by
  unfold vestryref01_Mul.f
  by_cases a0 : a = 0
  · subst a0
    rw [if_pos rfl]; simp [vestryref01_Mul.j0, told, In]
  rw [if_neg a0]
  by_cases b0 : b = 0
  · subst b0
    simp [vestryref01_Mul.j0, told, In]
  have j1 : ∀ x, vestryref01_Mul.j1 (k + 1) a b x = if x = true then (some (0, 8)) else (if b = 0 then (none) else (if (wrap64 (Int.tdiv (wrap64 (a * b)) b)) = a then (some (wrap64 (a * b), 0)) else (some (0, 8)))) := fun x => by rw [vestryref01_Mul.j1]
  rw [beq_eq_false_iff_ne.mpr b0, vestryref01_Mul.j0]
  simp only [Bool.false_eq_true, if_false, j1, if_neg b0]
  unfold told
  by_cases c1 : a = -1 ∧ b = -9223372036854775808
  · obtain ⟨rfl, rfl⟩ := c1
    simp [In]
  by_cases c2 : b = -1 ∧ a = -9223372036854775808
  · obtain ⟨rfl, rfl⟩ := c2
    simp [In]
  have key := ref_mul a b ha hb b0 c1 c2
  have fin : (if wrap64 (Int.tdiv (wrap64 (a * b)) b) = a then some (wrap64 (a * b), (0 : Int)) else some (0, 8)) = some (if In (a * b) then (a * b, 0) else (0, 8)) := by
    by_cases h : In (a * b)
    · rw [if_pos (key.2 h), if_pos h, wrap_in h]
    · rw [if_neg (fun x => h (key.1 x)), if_neg h]
  have c2' : b = -1 → (a == -9223372036854775808) = false := fun h => beq_eq_false_iff_ne.mpr (fun x => c2 ⟨h, x⟩)
  by_cases d1 : a = -1
  · rw [if_pos d1, if_neg (fun x => c1 ⟨d1, x⟩)]
    by_cases d2 : b = -1
    · rw [if_pos d2, c2' d2]; simpa using fin
    · rw [if_neg d2]; simpa using fin
  · rw [if_neg d1]
    by_cases d2 : b = -1
    · rw [if_pos d2, c2' d2]; simpa using fin
    · rw [if_neg d2]; simpa using fin

theorem tdiv_in (a b : Int) (ha : In a) (hb : b ≠ 0) (h : ¬ (a = -9223372036854775808 ∧ b = -1)) : In (Int.tdiv a b) := by
  have h3 : (Int.tdiv a b).natAbs ≤ a.natAbs := by rw [Int.natAbs_tdiv]; exact Nat.div_le_self _ _
  by_cases hbb : b = -1
  · subst hbb; rw [Int.tdiv_neg, Int.tdiv_one]; unfold In at *; omega
  · by_cases hcc : a = -9223372036854775808
    · by_cases hb1' : b = 1
      · subst hb1'; rw [Int.tdiv_one]; exact ha
      · have h4 : (Int.tdiv a b).natAbs ≤ a.natAbs / 2 := by
          rw [Int.natAbs_tdiv]; exact Nat.div_le_div_left (by omega) (by omega)
        unfold In at *; omega
    · unfold In at *; omega

theorem num_div (a b : Int) (ha : In a) (hb : In b) : num_Div.f a b = some (divS a b) := by
  unfold num_Div.f divS
  by_cases b0 : b = 0
  · rw [if_pos b0, if_pos b0]
  rw [if_neg b0, if_neg b0]
  by_cases b1 : b = -1
  · subst b1
    rw [if_pos rfl, num_sub 0 a (by simp [In]) ha]
    simp only [Option.bind_some]
    rw [Int.tdiv_neg, Int.tdiv_one, Int.zero_sub]
  · rw [if_neg b1]
    have := tdiv_in a b ha b0 (fun x => b1 x.2)
    unfold told
    rw [if_pos this, wrap_in this]

theorem ref_div (a b : Int) (ha : In a) (hb : In b) : vestryref01_Div.f a b = some (divS a b) := by
  unfold vestryref01_Div.f divS
  by_cases b0 : b = 0
  · rw [if_pos b0, if_pos b0]
  rw [if_neg b0, if_neg b0]
  unfold told
  by_cases c : a = -9223372036854775808 ∧ b = -1
  · obtain ⟨rfl, rfl⟩ := c
    rw [if_pos rfl, if_pos rfl, if_neg (by decide)]
  · have := tdiv_in a b ha b0 c
    rw [if_pos this, wrap_in this]
    by_cases c1 : a = -9223372036854775808
    · rw [if_pos c1, if_neg (fun x => c ⟨c1, x⟩)]
    · rw [if_neg c1]

theorem num_rem (a b : Int) : num_Rem.f a b = some (remS a b) := by
  unfold num_Rem.f remS
  by_cases b0 : b = 0
  · rw [if_pos b0, if_pos b0]
  rw [if_neg b0, if_neg b0]
  by_cases b1 : b = -1
  · subst b1; rw [if_pos rfl, Int.tmod_neg, Int.tmod_one]
  · rw [if_neg b1]

theorem ref_rem (a b : Int) : vestryref01_Rem.f a b = some (remS a b) := by
  unfold vestryref01_Rem.f remS
  by_cases b0 : b = 0
  · rw [if_pos b0, if_pos b0]
  rw [if_neg b0, if_neg b0]
  by_cases b1 : b = -1
  · subst b1; rw [if_pos rfl, Int.tmod_neg, Int.tmod_one]
  · rw [if_neg b1]

end Go.Proofs.YtmbmcnklgoadiaaDoor.NumSpec
