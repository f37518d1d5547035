/- The law NumSigns: operators and comparisons by any sign. -/
import Derived.Test.YtmbmcnklgoadiaaDoorNumOp
namespace Go.Proofs.YtmbmcnklgoadiaaDoor.NumSigns
open Go Go.RowKit Go.Sort Go.Proofs.YtmbmcnklgoadiaaDoor.NumPure Go.Proofs.YtmbmcnklgoadiaaDoor.NumSpec Go.Proofs.YtmbmcnklgoadiaaDoor.NumAlive Go.Proofs.YtmbmcnklgoadiaaDoor.NumLaws Go.Proofs.YtmbmcnklgoadiaaDoor.NumOp Go.Proofs.YtmbmcnklgoadiaaDoorW.PrintWords

def cmpS (o : List UInt8) (a b : Int) : Bool × Int :=
  if o = [61] then (a == b, 0) else if o = [33, 61] then (a != b, 0) else if o = [60] then (decide (a < b), 0) else if o = [60, 61] then (decide (a ≤ b), 0) else if o = [62] then (decide (a > b), 0) else if o = [62, 61] then (decide (a ≥ b), 0) else (false, 1)
theorem num_cmp (o : ByteArray) (a b : Int) : PCmp.num_Cmp.f o a b = some (cmpS o.toList a b) := by
  unfold PCmp.num_Cmp.f cmpS
  repeat' split
  all_goals rfl
def ref_Cmp.f (a0 : ByteArray) (a1 : Int) (a2 : Int) : Option (Bool × Int) := if a0.toList = ([61] : List UInt8) then (some ((a1 == a2), 0)) else (if a0.toList = ([33, 61] : List UInt8) then (some ((a1 != a2), 0)) else (if a0.toList = ([60] : List UInt8) then (some (decide (a1 < a2), 0)) else (if a0.toList = ([60, 61] : List UInt8) then (some (decide (a1 ≤ a2), 0)) else (if a0.toList = ([62] : List UInt8) then (some (decide (a1 > a2), 0)) else (if a0.toList = ([62, 61] : List UInt8) then (some (decide (a1 ≥ a2), 0)) else (some (false, 1)))))))
set_option maxHeartbeats 8000000 in
set_option maxRecDepth 100000 in
theorem ref_Cmp.calls (a0 : ByteArray) (a1 : Int) (a2 : Int) (r1 : Bool) (r2 : Int) (w : World) (h : ref_Cmp.f a0 a1 a2 = some (r1, r2)) :
    Calls Tryd.prog 25 #[.string a0, .int .i64 a1, .int .i64 a2] w fun e w' => e = .returned (.tuple #[.bool r1, .int .i64 r2]) ∧ Drawn0 w w' := by
  have H : (if a0.toList = ([61] : List UInt8) then (some ((a1 == a2), 0)) else (if a0.toList = ([33, 61] : List UInt8) then (some ((a1 != a2), 0)) else (if a0.toList = ([60] : List UInt8) then (some (decide (a1 < a2), 0)) else (if a0.toList = ([60, 61] : List UInt8) then (some (decide (a1 ≤ a2), 0)) else (if a0.toList = ([62] : List UInt8) then (some (decide (a1 > a2), 0)) else (if a0.toList = ([62, 61] : List UInt8) then (some (decide (a1 ≥ a2), 0)) else (some (false, 1)))))))) = some (r1, r2) := h
  clear h
  by_cases c4 : a0.toList = ([61] : List UInt8)
  · rw [if_pos c4] at H
    have c4b0 : (a0.toList == ([61] : List UInt8)) = true := beq_iff_eq.mpr c4
    have c4b1 : (a0.toList != ([61] : List UInt8)) = false := bne_eq_false_iff_eq.mpr c4
    clear c4
    simp only [Option.some.injEq, Prod.mk.injEq] at H
    obtain ⟨rfl, rfl⟩ := H
    go_enter Tryd.func25, Tryd.ntmps25
    go_wp2
    go_ret2
    exact ⟨by first | rfl | (simp; done) | (simp [*]; done), by repeat (first | exact Drawn0.refl _ | apply Drawn0.step)⟩
  · rw [if_neg c4] at H
    have c4b0 : (a0.toList == ([61] : List UInt8)) = false := beq_eq_false_iff_ne.mpr c4
    have c4b1 : (a0.toList != ([61] : List UInt8)) = true := bne_iff_ne.mpr c4
    by_cases c5 : a0.toList = ([33, 61] : List UInt8)
    · rw [if_pos c5] at H
      have c5b0 : (a0.toList == ([33, 61] : List UInt8)) = true := beq_iff_eq.mpr c5
      have c5b1 : (a0.toList != ([33, 61] : List UInt8)) = false := bne_eq_false_iff_eq.mpr c5
      clear c5
      simp only [Option.some.injEq, Prod.mk.injEq] at H
      obtain ⟨rfl, rfl⟩ := H
      go_enter Tryd.func25, Tryd.ntmps25
      go_wp2
      go_ret2
      exact ⟨by first | rfl | (simp; done) | (simp [*]; done), by repeat (first | exact Drawn0.refl _ | apply Drawn0.step)⟩
    · rw [if_neg c5] at H
      have c5b0 : (a0.toList == ([33, 61] : List UInt8)) = false := beq_eq_false_iff_ne.mpr c5
      have c5b1 : (a0.toList != ([33, 61] : List UInt8)) = true := bne_iff_ne.mpr c5
      by_cases c6 : a0.toList = ([60] : List UInt8)
      · rw [if_pos c6] at H
        have c6b0 : (a0.toList == ([60] : List UInt8)) = true := beq_iff_eq.mpr c6
        have c6b1 : (a0.toList != ([60] : List UInt8)) = false := bne_eq_false_iff_eq.mpr c6
        clear c6
        simp only [Option.some.injEq, Prod.mk.injEq] at H
        obtain ⟨rfl, rfl⟩ := H
        go_enter Tryd.func25, Tryd.ntmps25
        go_wp2
        go_ret2
        exact ⟨by first | rfl | (simp; done) | (simp [*]; done), by repeat (first | exact Drawn0.refl _ | apply Drawn0.step)⟩
      · rw [if_neg c6] at H
        have c6b0 : (a0.toList == ([60] : List UInt8)) = false := beq_eq_false_iff_ne.mpr c6
        have c6b1 : (a0.toList != ([60] : List UInt8)) = true := bne_iff_ne.mpr c6
        by_cases c7 : a0.toList = ([60, 61] : List UInt8)
        · rw [if_pos c7] at H
          have c7b0 : (a0.toList == ([60, 61] : List UInt8)) = true := beq_iff_eq.mpr c7
          have c7b1 : (a0.toList != ([60, 61] : List UInt8)) = false := bne_eq_false_iff_eq.mpr c7
          clear c7
          simp only [Option.some.injEq, Prod.mk.injEq] at H
          obtain ⟨rfl, rfl⟩ := H
          go_enter Tryd.func25, Tryd.ntmps25
          go_wp2
          go_ret2
          exact ⟨by first | rfl | (simp; done) | (simp [*]; done), by repeat (first | exact Drawn0.refl _ | apply Drawn0.step)⟩
        · rw [if_neg c7] at H
          have c7b0 : (a0.toList == ([60, 61] : List UInt8)) = false := beq_eq_false_iff_ne.mpr c7
          have c7b1 : (a0.toList != ([60, 61] : List UInt8)) = true := bne_iff_ne.mpr c7
          by_cases c8 : a0.toList = ([62] : List UInt8)
          · rw [if_pos c8] at H
            have c8b0 : (a0.toList == ([62] : List UInt8)) = true := beq_iff_eq.mpr c8
            have c8b1 : (a0.toList != ([62] : List UInt8)) = false := bne_eq_false_iff_eq.mpr c8
            clear c8
            simp only [Option.some.injEq, Prod.mk.injEq] at H
            obtain ⟨rfl, rfl⟩ := H
            go_enter Tryd.func25, Tryd.ntmps25
            go_wp2
            go_ret2
            exact ⟨by first | rfl | (simp; done) | (simp [*]; done), by repeat (first | exact Drawn0.refl _ | apply Drawn0.step)⟩
          · rw [if_neg c8] at H
            have c8b0 : (a0.toList == ([62] : List UInt8)) = false := beq_eq_false_iff_ne.mpr c8
            have c8b1 : (a0.toList != ([62] : List UInt8)) = true := bne_iff_ne.mpr c8
            by_cases c9 : a0.toList = ([62, 61] : List UInt8)
            · rw [if_pos c9] at H
              have c9b0 : (a0.toList == ([62, 61] : List UInt8)) = true := beq_iff_eq.mpr c9
              have c9b1 : (a0.toList != ([62, 61] : List UInt8)) = false := bne_eq_false_iff_eq.mpr c9
              clear c9
              simp only [Option.some.injEq, Prod.mk.injEq] at H
              obtain ⟨rfl, rfl⟩ := H
              go_enter Tryd.func25, Tryd.ntmps25
              go_wp2
              go_ret2
              exact ⟨by first | rfl | (simp; done) | (simp [*]; done), by repeat (first | exact Drawn0.refl _ | apply Drawn0.step)⟩
            · rw [if_neg c9] at H
              have c9b0 : (a0.toList == ([62, 61] : List UInt8)) = false := beq_eq_false_iff_ne.mpr c9
              have c9b1 : (a0.toList != ([62, 61] : List UInt8)) = true := bne_iff_ne.mpr c9
              simp only [Option.some.injEq, Prod.mk.injEq] at H
              obtain ⟨rfl, rfl⟩ := H
              go_enter Tryd.func25, Tryd.ntmps25
              go_wp2
              go_ret2
              exact ⟨by first | rfl | (simp; done) | (simp [*]; done), by repeat (first | exact Drawn0.refl _ | apply Drawn0.step)⟩


theorem ref_cmp (o : ByteArray) (a b : Int) : ref_Cmp.f o a b = some (cmpS o.toList a b) := num_cmp o a b

set_option maxHeartbeats 1000000 in
set_option maxRecDepth 100000 in
theorem signs_core (o : ByteArray) (a b r1 r2 c2 : Int) (c1 : Bool) (w : World) (t : Tab w)
    (ha : ∀ w, Calls Tryd.prog 22 #[.string o, .int .i64 a, .int .i64 b] w fun e w' => e = .returned (.tuple #[.int .i64 r1, .int .i64 r2]) ∧ Below w.heap.size w w')
    (hA : ∀ w, Calls Tryd.prog 23 #[.string o, .int .i64 a, .int .i64 b] w fun e w' => e = .returned (.tuple #[.int .i64 r1, .int .i64 r2]) ∧ Drawn0 w w')
    (hc : ∀ w, Calls Tryd.prog 24 #[.string o, .int .i64 a, .int .i64 b] w fun e w' => e = .returned (.tuple #[.bool c1, .int .i64 c2]) ∧ Drawn0 w w')
    (hC : ∀ w, Calls Tryd.prog 25 #[.string o, .int .i64 a, .int .i64 b] w fun e w' => e = .returned (.tuple #[.bool c1, .int .i64 c2]) ∧ Drawn0 w w') :
    Calls Tryd.prog 6 #[.string o, .int .i64 a, .int .i64 b] w fun e w' => e = .returned (.bool true) ∧ Below w.heap.size w w' := by
  have H := Lib.hid t
  have Ha := Lib.hid ha
  have HA := Lib.hid hA
  have Hc := Lib.hid hc
  have HC := Lib.hid hC
  clear t ha hA hc hC
  go_enter Tryd.func6, Tryd.ntmps6
  go_wp2_with (first
    | (go_at_call 22; (with_reducible refine (Ha.out _).mono ?_); rintro e w1 ⟨rfl, hb1⟩; have HB := Lib.hid hb1; clear hb1)
    | (go_at_call 23; (with_reducible refine (HA.out _).mono ?_); rintro e w' ⟨rfl, ⟨nd, rfl⟩⟩)
    | (go_at_call 24; (with_reducible refine (Hc.out _).mono ?_); rintro e w' ⟨rfl, ⟨nd, rfl⟩⟩)
    | (go_at_call 25; (with_reducible refine (HC.out _).mono ?_); rintro e w' ⟨rfl, ⟨nd, rfl⟩⟩)
    | (go_at_call 11; (with_reducible refine (same_yes _ _ _).mono ?_); rintro e w' ⟨rfl, ⟨nd, rfl⟩⟩)
    | (go_at_call 20; refine (alive_any _ (tab_drewN _ (tab_below HB.out H.out))).mono ?_; rintro e w' ⟨rfl, hb⟩))
  go_ret
  exact ⟨rfl, HB.out.trans (ring_end0 hb |>.mono HB.out.size)⟩

theorem signs_walk (o : ByteArray) (a b : Int) (w : World) (_ho : o.size ≤ 140737488351232) (ha : (Lit.int .i64 a).wf = true) (hb : (Lit.int .i64 b).wf = true) (t : Tab w) :
    Calls Tryd.prog 6 #[.string o, .int .i64 a, .int .i64 b] w fun e w' => e = .returned (.bool true) ∧ Below w.heap.size w w' := by
  have ia := in_of_wf ha
  have ib := in_of_wf hb
  exact signs_core o a b _ _ _ _ w t (fun w => op_any o a b w ia ib) (fun w => POp.vestryref01_Op.calls 2 o a b _ _ w (ref_op o a b ia ib)) (fun w => PCmp.num_Cmp.calls o a b _ _ w (num_cmp o a b)) (fun w => ref_Cmp.calls o a b _ _ w (ref_cmp o a b))
end Go.Proofs.YtmbmcnklgoadiaaDoor.NumSigns
