-- PRINTED BY print.sh 35421559b90ae4d0a3588c463048766b98c2df88dd9212a6774a882060cdf62d: not written by this session
import Derived.Test.YtmbmcnklgoadiaaDoorPCmpx0
namespace Go.Proofs.YtmbmcnklgoadiaaDoor.PCmp
open Go.RowKit Go.Proofs.YtmbmcnklgoadiaaDoorW.PrintWords Go.Proofs.YtmbmcnklgoadiaaDoorW.PrintLast Go.Proofs.YtmbmcnklgoadiaaDoorW.PrintMore
attribute [local go_sem] max2_int min2_int max_two min_two max_three min_three max_four min_four   -- for this text's walks alone
set_option linter.unusedVariables false
set_option linter.unusedSimpArgs false

/-! ### num_Cmp: function 24 -/
def num_Cmp.f (a0 : ByteArray) (a1 : Int) (a2 : Int) : Option (Bool × Int) := if a0.toList = ([61] : List UInt8) then (some ((a1 == a2), 0)) else (if a0.toList = ([33, 61] : List UInt8) then (some ((a1 != a2), 0)) else (if a0.toList = ([60] : List UInt8) then (some (decide (a1 < a2), 0)) else (if a0.toList = ([60, 61] : List UInt8) then (some (decide (a1 ≤ a2), 0)) else (if a0.toList = ([62] : List UInt8) then (some (decide (a1 > a2), 0)) else (if a0.toList = ([62, 61] : List UInt8) then (some (decide (a1 ≥ a2), 0)) else (some (false, 1)))))))
set_option maxHeartbeats 8000000 in
set_option maxRecDepth 100000 in
theorem num_Cmp.calls (a0 : ByteArray) (a1 : Int) (a2 : Int) (r1 : Bool) (r2 : Int) (w : World) (h : num_Cmp.f a0 a1 a2 = some (r1, r2)) :
    Calls Tryd.prog 24 #[.string a0, .int .i64 a1, .int .i64 a2] w fun e w' => e = .returned (.tuple #[.bool r1, .int .i64 r2]) ∧ Drawn0 w w' := by
  have H : (if a0.toList = ([61] : List UInt8) then (some ((a1 == a2), 0)) else (if a0.toList = ([33, 61] : List UInt8) then (some ((a1 != a2), 0)) else (if a0.toList = ([60] : List UInt8) then (some (decide (a1 < a2), 0)) else (if a0.toList = ([60, 61] : List UInt8) then (some (decide (a1 ≤ a2), 0)) else (if a0.toList = ([62] : List UInt8) then (some (decide (a1 > a2), 0)) else (if a0.toList = ([62, 61] : List UInt8) then (some (decide (a1 ≥ a2), 0)) else (some (false, 1)))))))) = some (r1, r2) := h
  clear h
  by_cases c4 : a0.toList = ([61] : List UInt8)
  · rw [if_pos c4] at H
    have c4b0 : (a0.toList == ([61] : List UInt8)) = true := beq_iff_eq.mpr c4
    have c4b1 : (a0.toList != ([61] : List UInt8)) = false := bne_eq_false_iff_eq.mpr c4
    clear c4
    simp only [Option.some.injEq, Prod.mk.injEq] at H
    obtain ⟨rfl, rfl⟩ := H
    go_enter Tryd.func24, Tryd.ntmps24
    go_wp2
    go_ret2
    exact ⟨by first | rfl | (simp; done) | (simp [*]; done), by repeat (first | exact Drawn0.refl _ | apply Drawn0.step)⟩
  · rw [if_neg c4] at H
    have c4b0 : (a0.toList == ([61] : List UInt8)) = false := beq_eq_false_iff_ne.mpr c4
    have c4b1 : (a0.toList != ([61] : List UInt8)) = true := bne_iff_ne.mpr c4
    by_cases c5 : a0.toList = ([33, 61] : List UInt8)
    · rw [if_pos c5] at H
      have c5b0 : (a0.toList == ([33, 61] : List UInt8)) = true := beq_iff_eq.mpr c5
      have c5b1 : (a0.toList != ([33, 61] : List UInt8)) = false := bne_eq_false_iff_eq.mpr c5
      clear c5
      simp only [Option.some.injEq, Prod.mk.injEq] at H
      obtain ⟨rfl, rfl⟩ := H
      go_enter Tryd.func24, Tryd.ntmps24
      go_wp2
      go_ret2
      exact ⟨by first | rfl | (simp; done) | (simp [*]; done), by repeat (first | exact Drawn0.refl _ | apply Drawn0.step)⟩
    · rw [if_neg c5] at H
      have c5b0 : (a0.toList == ([33, 61] : List UInt8)) = false := beq_eq_false_iff_ne.mpr c5
      have c5b1 : (a0.toList != ([33, 61] : List UInt8)) = true := bne_iff_ne.mpr c5
      by_cases c6 : a0.toList = ([60] : List UInt8)
      · rw [if_pos c6] at H
        have c6b0 : (a0.toList == ([60] : List UInt8)) = true := beq_iff_eq.mpr c6
        have c6b1 : (a0.toList != ([60] : List UInt8)) = false := bne_eq_false_iff_eq.mpr c6
        clear c6
        simp only [Option.some.injEq, Prod.mk.injEq] at H
        obtain ⟨rfl, rfl⟩ := H
        go_enter Tryd.func24, Tryd.ntmps24
        go_wp2
        go_ret2
        exact ⟨by first | rfl | (simp; done) | (simp [*]; done), by repeat (first | exact Drawn0.refl _ | apply Drawn0.step)⟩
      · rw [if_neg c6] at H
        have c6b0 : (a0.toList == ([60] : List UInt8)) = false := beq_eq_false_iff_ne.mpr c6
        have c6b1 : (a0.toList != ([60] : List UInt8)) = true := bne_iff_ne.mpr c6
        by_cases c7 : a0.toList = ([60, 61] : List UInt8)
        · rw [if_pos c7] at H
          have c7b0 : (a0.toList == ([60, 61] : List UInt8)) = true := beq_iff_eq.mpr c7
          have c7b1 : (a0.toList != ([60, 61] : List UInt8)) = false := bne_eq_false_iff_eq.mpr c7
          clear c7
          simp only [Option.some.injEq, Prod.mk.injEq] at H
          obtain ⟨rfl, rfl⟩ := H
          go_enter Tryd.func24, Tryd.ntmps24
          go_wp2
          go_ret2
          exact ⟨by first | rfl | (simp; done) | (simp [*]; done), by repeat (first | exact Drawn0.refl _ | apply Drawn0.step)⟩
        · rw [if_neg c7] at H
          have c7b0 : (a0.toList == ([60, 61] : List UInt8)) = false := beq_eq_false_iff_ne.mpr c7
          have c7b1 : (a0.toList != ([60, 61] : List UInt8)) = true := bne_iff_ne.mpr c7
          by_cases c8 : a0.toList = ([62] : List UInt8)
          · rw [if_pos c8] at H
            have c8b0 : (a0.toList == ([62] : List UInt8)) = true := beq_iff_eq.mpr c8
            have c8b1 : (a0.toList != ([62] : List UInt8)) = false := bne_eq_false_iff_eq.mpr c8
            clear c8
            simp only [Option.some.injEq, Prod.mk.injEq] at H
            obtain ⟨rfl, rfl⟩ := H
            go_enter Tryd.func24, Tryd.ntmps24
            go_wp2
            go_ret2
            exact ⟨by first | rfl | (simp; done) | (simp [*]; done), by repeat (first | exact Drawn0.refl _ | apply Drawn0.step)⟩
          · rw [if_neg c8] at H
            have c8b0 : (a0.toList == ([62] : List UInt8)) = false := beq_eq_false_iff_ne.mpr c8
            have c8b1 : (a0.toList != ([62] : List UInt8)) = true := bne_iff_ne.mpr c8
            by_cases c9 : a0.toList = ([62, 61] : List UInt8)
            · rw [if_pos c9] at H
              have c9b0 : (a0.toList == ([62, 61] : List UInt8)) = true := beq_iff_eq.mpr c9
              have c9b1 : (a0.toList != ([62, 61] : List UInt8)) = false := bne_eq_false_iff_eq.mpr c9
              clear c9
              simp only [Option.some.injEq, Prod.mk.injEq] at H
              obtain ⟨rfl, rfl⟩ := H
              go_enter Tryd.func24, Tryd.ntmps24
              go_wp2
              go_ret2
              exact ⟨by first | rfl | (simp; done) | (simp [*]; done), by repeat (first | exact Drawn0.refl _ | apply Drawn0.step)⟩
            · rw [if_neg c9] at H
              have c9b0 : (a0.toList == ([62, 61] : List UInt8)) = false := beq_eq_false_iff_ne.mpr c9
              have c9b1 : (a0.toList != ([62, 61] : List UInt8)) = true := bne_iff_ne.mpr c9
              simp only [Option.some.injEq, Prod.mk.injEq] at H
              obtain ⟨rfl, rfl⟩ := H
              go_enter Tryd.func24, Tryd.ntmps24
              go_wp2
              go_ret2
              exact ⟨by first | rfl | (simp; done) | (simp [*]; done), by repeat (first | exact Drawn0.refl _ | apply Drawn0.step)⟩

end Go.Proofs.YtmbmcnklgoadiaaDoor.PCmp
