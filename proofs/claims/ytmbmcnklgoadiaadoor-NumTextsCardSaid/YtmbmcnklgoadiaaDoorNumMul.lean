/- num.size and num.Mul: what they answer. The world is the old one, some orders having been drawn. -/
import Derived.Test.YtmbmcnklgoadiaaDoorNumPure
import Derived.Test.YtmbmcnklgoadiaaDoorShelf
import Derived.Test.YtmbmcnklgoadiaaDoorWWords
import Derived.Lib.Hide
namespace Go.Proofs.YtmbmcnklgoadiaaDoor.NumMul
open Go Go.RowKit Go.Proofs.YtmbmcnklgoadiaaDoor.NumPure Go.Proofs.YtmbmcnklgoadiaaDoorW.PrintWords

theorem size_any (a : Int) (h : In a) (w : World) :
    Calls Tryd.prog 31 #[.int .i64 a] w fun e w' => e = .returned (.int .u64 (a.natAbs : Int)) ∧ w' = w := by
  have e := size_form a h
  by_cases n : a < 0
  · rw [if_pos n] at e
    have c : decide (a < 0) = true := decide_eq_true n
    have E := Lib.hid e
    clear e h n
    go_enter Tryd.func31, Tryd.ntmps31
    go_wp2
    go_ret
    exact ⟨by rw [E.out]; rfl, rfl⟩
  · rw [if_neg n] at e
    have c : decide (a < 0) = false := decide_eq_false n
    have E := Lib.hid e
    clear e h n
    go_enter Tryd.func31, Tryd.ntmps31
    go_wp2
    go_ret
    exact ⟨by rw [E.out]; rfl, rfl⟩

theorem tup {r1 r2 x1 x2 : Int} (h : (r1, r2) = (x1, x2)) : Ending.returned (.tuple #[.int .i64 x1, .int .i64 x2]) = Ending.returned (.tuple #[.int .i64 r1, .int .i64 r2]) := by
  simp only [Prod.mk.injEq] at h; rw [h.1, h.2]

set_option maxHeartbeats 1000000 in
set_option maxRecDepth 100000 in
theorem mul_walk (a b x y hi lo : Int) (na nb : Bool) (ha : decide (a < 0) = na) (hb : decide (b < 0) = nb) (w : World)
    (sa : ∀ w, Calls Tryd.prog 31 #[.int .i64 a] w fun e w' => e = .returned (.int .u64 x) ∧ w' = w)
    (sb : ∀ w, Calls Tryd.prog 31 #[.int .i64 b] w fun e w' => e = .returned (.int .u64 y) ∧ w' = w)
    (sm : ∀ w, Calls Tryd.prog 30 #[.int .u64 x, .int .u64 y] w fun e w' => e = .returned (.tuple #[.int .u64 hi, .int .u64 lo]) ∧ w' = w)
    (r1 r2 : Int) (hr : (r1, r2) = mulK na nb hi lo) :
    Calls Tryd.prog 14 #[.int .i64 a, .int .i64 b] w fun e w' => e = .returned (.tuple #[.int .i64 r1, .int .i64 r2]) ∧ Drawn0 w w' := by
  have SA := Lib.hid sa
  have SB := Lib.hid sb
  have SM := Lib.hid sm
  clear sa sb sm
  unfold mulK at hr
  by_cases c1 : hi = 0
  · rw [if_pos c1] at hr
    have c1b0 : (hi == 0) = true := beq_iff_eq.mpr c1
    have c1b1 : (hi != 0) = false := bne_eq_false_iff_eq.mpr c1
    clear c1
    by_cases c2 : 9223372036854775808 < lo
    · rw [if_pos c2] at hr
      have c2b : decide (9223372036854775808 < lo) = true := decide_eq_true c2
      clear c2
      simp only [Prod.mk.injEq] at hr
      obtain ⟨rfl, rfl⟩ := hr
      go_enter Tryd.func14, Tryd.ntmps14
      go_wp2_with (first | (go_at_call 31; (with_reducible refine (SA.out _).mono ?_); rintro e w' ⟨rfl, rfl⟩) | (go_at_call 31; (with_reducible refine (SB.out _).mono ?_); rintro e w' ⟨rfl, rfl⟩) | (go_at_call 30; (with_reducible refine (SM.out _).mono ?_); rintro e w' ⟨rfl, rfl⟩))
      all_goals go_ret2
      all_goals exact ⟨by first | rfl | (simp; done) | (simp [*]; done), by repeat (first | exact Drawn0.refl _ | apply Drawn0.step)⟩
    · rw [if_neg c2] at hr
      have c2b : decide (9223372036854775808 < lo) = false := decide_eq_false c2
      clear c2
      by_cases c3 : lo = 9223372036854775808
      · rw [if_pos c3] at hr
        have c3b : (lo == 9223372036854775808) = true := beq_iff_eq.mpr c3
        clear c3
        cases na <;> cases nb
        all_goals simp only [bne_self_eq_false, Bool.false_eq_true, if_false, if_true, show (false != true) = true from rfl, show (true != false) = true from rfl] at hr
        all_goals
          simp only [Prod.mk.injEq] at hr
          obtain ⟨rfl, rfl⟩ := hr
          go_enter Tryd.func14, Tryd.ntmps14
          go_wp2_with (first | (go_at_call 31; (with_reducible refine (SA.out _).mono ?_); rintro e w' ⟨rfl, rfl⟩) | (go_at_call 31; (with_reducible refine (SB.out _).mono ?_); rintro e w' ⟨rfl, rfl⟩) | (go_at_call 30; (with_reducible refine (SM.out _).mono ?_); rintro e w' ⟨rfl, rfl⟩))
          all_goals go_ret2
          all_goals exact ⟨by first | rfl | (simp; done) | (simp [*]; done), by repeat (first | exact Drawn0.refl _ | apply Drawn0.step)⟩
      · rw [if_neg c3] at hr
        have c3b : (lo == 9223372036854775808) = false := beq_eq_false_iff_ne.mpr c3
        clear c3
        cases na <;> cases nb
        all_goals simp only [bne_self_eq_false, Bool.false_eq_true, if_false, if_true, show (false != true) = true from rfl, show (true != false) = true from rfl] at hr
        all_goals
          simp only [Prod.mk.injEq] at hr
          obtain ⟨rfl, rfl⟩ := hr
          go_enter Tryd.func14, Tryd.ntmps14
          go_wp2_with (first | (go_at_call 31; (with_reducible refine (SA.out _).mono ?_); rintro e w' ⟨rfl, rfl⟩) | (go_at_call 31; (with_reducible refine (SB.out _).mono ?_); rintro e w' ⟨rfl, rfl⟩) | (go_at_call 30; (with_reducible refine (SM.out _).mono ?_); rintro e w' ⟨rfl, rfl⟩))
          all_goals go_ret2
          all_goals exact ⟨by first | rfl | (simp; done) | (simp [*]; done), by repeat (first | exact Drawn0.refl _ | apply Drawn0.step)⟩
  · rw [if_neg c1] at hr
    have c1b0 : (hi == 0) = false := beq_eq_false_iff_ne.mpr c1
    have c1b1 : (hi != 0) = true := bne_iff_ne.mpr c1
    clear c1
    simp only [Prod.mk.injEq] at hr
    obtain ⟨rfl, rfl⟩ := hr
    go_enter Tryd.func14, Tryd.ntmps14
    go_wp2_with (first | (go_at_call 31; (with_reducible refine (SA.out _).mono ?_); rintro e w' ⟨rfl, rfl⟩) | (go_at_call 31; (with_reducible refine (SB.out _).mono ?_); rintro e w' ⟨rfl, rfl⟩) | (go_at_call 30; (with_reducible refine (SM.out _).mono ?_); rintro e w' ⟨rfl, rfl⟩))
    all_goals go_ret2
    all_goals exact ⟨by first | rfl | (simp; done) | (simp [*]; done), by repeat (first | exact Drawn0.refl _ | apply Drawn0.step)⟩


theorem mul_any (a b : Int) (ha : In a) (hb : In b) (w : World) :
    Calls Tryd.prog 14 #[.int .i64 a, .int .i64 b] w fun e w' => e = .returned (.tuple #[.int .i64 (told (a * b)).1, .int .i64 (told (a * b)).2]) ∧ Drawn0 w w' := by
  have na := natAbs_le ha
  have nb := natAbs_le hb
  exact mul_walk a b a.natAbs b.natAbs _ _ _ _ rfl rfl w (size_any a ha) (size_any b hb) (fun w => Tryd.bits_Mul64 a.natAbs b.natAbs (by omega) (by omega) w) _ _ (by rw [mulK_told a b])
end Go.Proofs.YtmbmcnklgoadiaaDoor.NumMul
