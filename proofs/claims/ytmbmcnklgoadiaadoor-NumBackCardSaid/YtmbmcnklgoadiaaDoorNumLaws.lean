/- The walks of the laws NumOps, NumRing, NumRest: out of the layers' contracts. -/
import Derived.Test.YtmbmcnklgoadiaaDoorNumAlive
import Derived.Test.YtmbmcnklgoadiaaDoorPsamex1
namespace Go.Proofs.YtmbmcnklgoadiaaDoor.NumLaws
open Go Go.RowKit Go.Sort Go.Proofs.YtmbmcnklgoadiaaDoor.NumPure Go.Proofs.YtmbmcnklgoadiaaDoor.NumSpec Go.Proofs.YtmbmcnklgoadiaaDoor.NumAlive Go.Proofs.YtmbmcnklgoadiaaDoorW.PrintWords

theorem tab_of_drawn {w : World} {n : Nat} (t : Tab w) : Tab (w.drewN n) := tab_drewN n t

theorem in_of_wf {a : Int} (h : (Lit.int .i64 a).wf = true) : In a := by
  have h2 := h
  simp [Lit.wf, IntKind.min, IntKind.max, IntKind.signed, IntKind.bits] at h2
  unfold In
  omega

/-- a contract over printed words, its pair by name -/
theorem pair {o : Option (Int × Int)} {p : Int × Int} (h : o = some p) : o = some (p.1, p.2) := h

theorem same_yes (n e : Int) (w : World) : Calls Tryd.prog 11 #[.int .i64 n, .int .i64 e, .int .i64 n, .int .i64 e] w fun e w' => e = .returned (.bool true) ∧ Drawn0 w w' :=
  Psame.vestrylaw01_same.calls n e n e true w (by simp [Psame.vestrylaw01_same.f])

set_option maxHeartbeats 2000000 in
set_option maxRecDepth 100000 in
theorem ops_core (a b s1 s2 d1 d2 m1 m2 q1 q2 r1 r2 : Int) (w : World) (t : Tab w)
    (ha : ∀ w, Calls Tryd.prog 9 #[.int .i64 a, .int .i64 b] w fun e w' => e = .returned (.tuple #[.int .i64 s1, .int .i64 s2]) ∧ Drawn0 w w')
    (hA : ∀ w, Calls Tryd.prog 10 #[.int .i64 a, .int .i64 b] w fun e w' => e = .returned (.tuple #[.int .i64 s1, .int .i64 s2]) ∧ Drawn0 w w')
    (hs : ∀ w, Calls Tryd.prog 12 #[.int .i64 a, .int .i64 b] w fun e w' => e = .returned (.tuple #[.int .i64 d1, .int .i64 d2]) ∧ Drawn0 w w')
    (hS : ∀ w, Calls Tryd.prog 13 #[.int .i64 a, .int .i64 b] w fun e w' => e = .returned (.tuple #[.int .i64 d1, .int .i64 d2]) ∧ Drawn0 w w')
    (hm : ∀ w, Calls Tryd.prog 14 #[.int .i64 a, .int .i64 b] w fun e w' => e = .returned (.tuple #[.int .i64 m1, .int .i64 m2]) ∧ Drawn0 w w')
    (hM : ∀ w, Calls Tryd.prog 15 #[.int .i64 a, .int .i64 b] w fun e w' => e = .returned (.tuple #[.int .i64 m1, .int .i64 m2]) ∧ Drawn0 w w')
    (hq : ∀ w, Calls Tryd.prog 16 #[.int .i64 a, .int .i64 b] w fun e w' => e = .returned (.tuple #[.int .i64 q1, .int .i64 q2]) ∧ Drawn0 w w')
    (hQ : ∀ w, Calls Tryd.prog 17 #[.int .i64 a, .int .i64 b] w fun e w' => e = .returned (.tuple #[.int .i64 q1, .int .i64 q2]) ∧ Drawn0 w w')
    (hr : ∀ w, Calls Tryd.prog 18 #[.int .i64 a, .int .i64 b] w fun e w' => e = .returned (.tuple #[.int .i64 r1, .int .i64 r2]) ∧ Drawn0 w w')
    (hR : ∀ w, Calls Tryd.prog 19 #[.int .i64 a, .int .i64 b] w fun e w' => e = .returned (.tuple #[.int .i64 r1, .int .i64 r2]) ∧ Drawn0 w w') :
    Calls Tryd.prog 3 #[.int .i64 a, .int .i64 b] w fun e w' => e = .returned (.bool true) ∧ Below w.heap.size w w' := by
  have H := Lib.hid t
  have Ha := Lib.hid ha
  have HA := Lib.hid hA
  have Hs := Lib.hid hs
  have HS := Lib.hid hS
  have Hm := Lib.hid hm
  have HM := Lib.hid hM
  have Hq := Lib.hid hq
  have HQ := Lib.hid hQ
  have Hr := Lib.hid hr
  have HR := Lib.hid hR
  clear t ha hA hs hS hm hM hq hQ hr hR
  go_enter Tryd.func3, Tryd.ntmps3
  go_wp2_with (first
    | (go_at_call 9; (with_reducible refine (Ha.out _).mono ?_); rintro e w' ⟨rfl, ⟨nd, rfl⟩⟩)
    | (go_at_call 10; (with_reducible refine (HA.out _).mono ?_); rintro e w' ⟨rfl, ⟨nd, rfl⟩⟩)
    | (go_at_call 12; (with_reducible refine (Hs.out _).mono ?_); rintro e w' ⟨rfl, ⟨nd, rfl⟩⟩)
    | (go_at_call 13; (with_reducible refine (HS.out _).mono ?_); rintro e w' ⟨rfl, ⟨nd, rfl⟩⟩)
    | (go_at_call 14; (with_reducible refine (Hm.out _).mono ?_); rintro e w' ⟨rfl, ⟨nd, rfl⟩⟩)
    | (go_at_call 15; (with_reducible refine (HM.out _).mono ?_); rintro e w' ⟨rfl, ⟨nd, rfl⟩⟩)
    | (go_at_call 16; (with_reducible refine (Hq.out _).mono ?_); rintro e w' ⟨rfl, ⟨nd, rfl⟩⟩)
    | (go_at_call 17; (with_reducible refine (HQ.out _).mono ?_); rintro e w' ⟨rfl, ⟨nd, rfl⟩⟩)
    | (go_at_call 18; (with_reducible refine (Hr.out _).mono ?_); rintro e w' ⟨rfl, ⟨nd, rfl⟩⟩)
    | (go_at_call 19; (with_reducible refine (HR.out _).mono ?_); rintro e w' ⟨rfl, ⟨nd, rfl⟩⟩)
    | (go_at_call 11; (with_reducible refine (same_yes _ _ _).mono ?_); rintro e w' ⟨rfl, ⟨nd, rfl⟩⟩)
    | (go_at_call 20; refine (alive_any _ (tab_drewN _ H.out)).mono ?_; rintro e w' ⟨rfl, hb⟩))
  go_ret
  exact ⟨rfl, (below_drewN (Below.refl _ _) _).trans (hb.mono (Nat.le_refl _))⟩

theorem ops_walk (a b : Int) (w : World) (ha : (Lit.int .i64 a).wf = true) (hb : (Lit.int .i64 b).wf = true) (t : Tab w) :
    Calls Tryd.prog 3 #[.int .i64 a, .int .i64 b] w fun e w' => e = .returned (.bool true) ∧ Below w.heap.size w w' := by
  have ia := in_of_wf ha
  have ib := in_of_wf hb
  exact ops_core a b _ _ _ _ _ _ _ _ _ _ w t
    (fun w => PAdd.num_Add.calls a b _ _ w (num_add a b ia ib)) (fun w => POp.vestryref01_Add.calls a b _ _ w (ref_add a b ia ib))
    (fun w => PDiv.num_Sub.calls a b _ _ w (num_sub a b ia ib)) (fun w => POp.vestryref01_Sub.calls a b _ _ w (ref_sub a b ia ib))
    (fun w => NumMul.mul_any a b ia ib w) (fun w => POp.vestryref01_Mul.calls 2 a b _ _ w (ref_mul_is a b ia ib 0))
    (fun w => PDiv.num_Div.calls a b _ _ w (num_div a b ia ib)) (fun w => POp.vestryref01_Div.calls a b _ _ w (ref_div a b ia ib))
    (fun w => PRem.num_Rem.calls a b _ _ w (num_rem a b)) (fun w => POp.vestryref01_Rem.calls a b _ _ w (ref_rem a b))

theorem add_calls (a b : Int) (ia : In a) (ib : In b) (w : World) : Calls Tryd.prog 9 #[.int .i64 a, .int .i64 b] w fun e w' => e = .returned (.tuple #[.int .i64 (told (a + b)).1, .int .i64 (told (a + b)).2]) ∧ Drawn0 w w' :=
  PAdd.num_Add.calls a b _ _ w (num_add a b ia ib)
theorem sub_calls (a b : Int) (ia : In a) (ib : In b) (w : World) : Calls Tryd.prog 12 #[.int .i64 a, .int .i64 b] w fun e w' => e = .returned (.tuple #[.int .i64 (told (a - b)).1, .int .i64 (told (a - b)).2]) ∧ Drawn0 w w' :=
  PDiv.num_Sub.calls a b _ _ w (num_sub a b ia ib)
theorem div_calls (a b : Int) (ia : In a) (ib : In b) (w : World) : Calls Tryd.prog 16 #[.int .i64 a, .int .i64 b] w fun e w' => e = .returned (.tuple #[.int .i64 (divS a b).1, .int .i64 (divS a b).2]) ∧ Drawn0 w w' :=
  PDiv.num_Div.calls a b _ _ w (num_div a b ia ib)
theorem rem_calls (a b : Int) (w : World) : Calls Tryd.prog 18 #[.int .i64 a, .int .i64 b] w fun e w' => e = .returned (.tuple #[.int .i64 (remS a b).1, .int .i64 (remS a b).2]) ∧ Drawn0 w w' :=
  PRem.num_Rem.calls a b _ _ w (num_rem a b)

set_option maxRecDepth 100000 in
theorem divides_yes (p b a : Int) (w : World)
    (hq : ∀ w, Calls Tryd.prog 16 #[.int .i64 p, .int .i64 b] w fun e w' => e = .returned (.tuple #[.int .i64 a, .int .i64 0]) ∧ Drawn0 w w')
    (hr : ∀ w, Calls Tryd.prog 18 #[.int .i64 p, .int .i64 b] w fun e w' => e = .returned (.tuple #[.int .i64 0, .int .i64 0]) ∧ Drawn0 w w') :
    Calls Tryd.prog 21 #[.int .i64 p, .int .i64 b, .int .i64 a] w fun e w' => e = .returned (.bool true) ∧ Drawn0 w w' := by
  have Hq := Lib.hid hq
  have Hr := Lib.hid hr
  clear hq hr
  go_enter Tryd.func21, Tryd.ntmps21
  go_wp2_with (first
    | (go_at_call 16; (with_reducible refine (Hq.out _).mono ?_); rintro e w' ⟨rfl, ⟨nd, rfl⟩⟩)
    | (go_at_call 18; (with_reducible refine (Hr.out _).mono ?_); rintro e w' ⟨rfl, ⟨nd, rfl⟩⟩))
  go_ret
  exact ⟨rfl, by repeat (first | exact Drawn0.refl _ | apply Drawn0.step)⟩

theorem ring_end {w w1 : World} {n m : Nat} (h : Below (w.drewN n).heap.size (w.drewN n) w1) : Below w.heap.size w (w1.drewN m) :=
  below_drewN ((below_drewN (Below.refl _ _) n).trans (h.mono (Nat.le_refl _))) m
theorem ring_end0 {w w1 : World} {n : Nat} (h : Below (w.drewN n).heap.size (w.drewN n) w1) : Below w.heap.size w w1 :=
  (below_drewN (Below.refl _ _) n).trans (h.mono (Nat.le_refl _))

/-- the ways of NumRing: where the sum is in the bits, and where the product is and b is not 0 -/
theorem ring_core (a b s1 s2 m1 m2 : Int) (w : World) (t : Tab w)
    (ha : ∀ w, Calls Tryd.prog 9 #[.int .i64 a, .int .i64 b] w fun e w' => e = .returned (.tuple #[.int .i64 s1, .int .i64 s2]) ∧ Drawn0 w w')
    (hA : ∀ w, Calls Tryd.prog 9 #[.int .i64 b, .int .i64 a] w fun e w' => e = .returned (.tuple #[.int .i64 s1, .int .i64 s2]) ∧ Drawn0 w w')
    (hm : ∀ w, Calls Tryd.prog 14 #[.int .i64 a, .int .i64 b] w fun e w' => e = .returned (.tuple #[.int .i64 m1, .int .i64 m2]) ∧ Drawn0 w w')
    (hM : ∀ w, Calls Tryd.prog 14 #[.int .i64 b, .int .i64 a] w fun e w' => e = .returned (.tuple #[.int .i64 m1, .int .i64 m2]) ∧ Drawn0 w w')
    (hs : s2 = 0 → ∀ w, Calls Tryd.prog 12 #[.int .i64 s1, .int .i64 b] w fun e w' => e = .returned (.tuple #[.int .i64 a, .int .i64 0]) ∧ Drawn0 w w')
    (hd : m2 = 0 → b ≠ 0 → ∀ w, Calls Tryd.prog 21 #[.int .i64 m1, .int .i64 b, .int .i64 a] w fun e w' => e = .returned (.bool true) ∧ Drawn0 w w') :
    Calls Tryd.prog 4 #[.int .i64 a, .int .i64 b] w fun e w' => e = .returned (.bool true) ∧ Below w.heap.size w w' := by
  have H := Lib.hid t
  have Ha := Lib.hid ha
  have HA := Lib.hid hA
  have Hm := Lib.hid hm
  have HM := Lib.hid hM
  clear t ha hA hm hM
  by_cases c1 : s2 = 0
  · subst c1
    have Hs := Lib.hid (hs rfl)
    clear hs
    by_cases c2 : m2 = 0
    · subst c2
      by_cases c3 : b = 0
      · have c3b : (b == 0) = true := beq_iff_eq.mpr c3
        have c3c : (b != 0) = false := bne_eq_false_iff_eq.mpr c3
        clear c3 hd
        go_enter Tryd.func4, Tryd.ntmps4
        go_wp2_with (first
    | (go_at_call 9; (with_reducible refine (Ha.out _).mono ?_); rintro e w' ⟨rfl, ⟨nd, rfl⟩⟩)
    | (go_at_call 9; (with_reducible refine (HA.out _).mono ?_); rintro e w' ⟨rfl, ⟨nd, rfl⟩⟩)
    | (go_at_call 14; (with_reducible refine (Hm.out _).mono ?_); rintro e w' ⟨rfl, ⟨nd, rfl⟩⟩)
    | (go_at_call 14; (with_reducible refine (HM.out _).mono ?_); rintro e w' ⟨rfl, ⟨nd, rfl⟩⟩)
    | (go_at_call 12; (with_reducible refine (Hs.out _).mono ?_); rintro e w' ⟨rfl, ⟨nd, rfl⟩⟩)
    | (go_at_call 21; (with_reducible refine (Hd.out _).mono ?_); rintro e w' ⟨rfl, ⟨nd, rfl⟩⟩)
    | (go_at_call 20; refine (alive_any _ (tab_drewN _ H.out)).mono ?_; rintro e w' ⟨rfl, hb⟩))
        go_ret
        exact ⟨rfl, by first | exact ring_end0 hb | exact ring_end hb⟩
      · have Hd := Lib.hid (hd rfl c3)
        have c3b : (b == 0) = false := beq_eq_false_iff_ne.mpr c3
        have c3c : (b != 0) = true := bne_iff_ne.mpr c3
        clear c3 hd
        go_enter Tryd.func4, Tryd.ntmps4
        go_wp2_with (first
    | (go_at_call 9; (with_reducible refine (Ha.out _).mono ?_); rintro e w' ⟨rfl, ⟨nd, rfl⟩⟩)
    | (go_at_call 9; (with_reducible refine (HA.out _).mono ?_); rintro e w' ⟨rfl, ⟨nd, rfl⟩⟩)
    | (go_at_call 14; (with_reducible refine (Hm.out _).mono ?_); rintro e w' ⟨rfl, ⟨nd, rfl⟩⟩)
    | (go_at_call 14; (with_reducible refine (HM.out _).mono ?_); rintro e w' ⟨rfl, ⟨nd, rfl⟩⟩)
    | (go_at_call 12; (with_reducible refine (Hs.out _).mono ?_); rintro e w' ⟨rfl, ⟨nd, rfl⟩⟩)
    | (go_at_call 21; (with_reducible refine (Hd.out _).mono ?_); rintro e w' ⟨rfl, ⟨nd, rfl⟩⟩)
    | (go_at_call 20; refine (alive_any _ (tab_drewN _ H.out)).mono ?_; rintro e w' ⟨rfl, hb⟩))
        go_ret
        exact ⟨rfl, by first | exact ring_end0 hb | exact ring_end hb⟩
    · have c2b : (m2 == 0) = false := beq_eq_false_iff_ne.mpr c2
      have c2c : (m2 != 0) = true := bne_iff_ne.mpr c2
      clear c2 hd
      go_enter Tryd.func4, Tryd.ntmps4
      go_wp2_with (first
    | (go_at_call 9; (with_reducible refine (Ha.out _).mono ?_); rintro e w' ⟨rfl, ⟨nd, rfl⟩⟩)
    | (go_at_call 9; (with_reducible refine (HA.out _).mono ?_); rintro e w' ⟨rfl, ⟨nd, rfl⟩⟩)
    | (go_at_call 14; (with_reducible refine (Hm.out _).mono ?_); rintro e w' ⟨rfl, ⟨nd, rfl⟩⟩)
    | (go_at_call 14; (with_reducible refine (HM.out _).mono ?_); rintro e w' ⟨rfl, ⟨nd, rfl⟩⟩)
    | (go_at_call 12; (with_reducible refine (Hs.out _).mono ?_); rintro e w' ⟨rfl, ⟨nd, rfl⟩⟩)
    | (go_at_call 21; (with_reducible refine (Hd.out _).mono ?_); rintro e w' ⟨rfl, ⟨nd, rfl⟩⟩)
    | (go_at_call 20; refine (alive_any _ (tab_drewN _ H.out)).mono ?_; rintro e w' ⟨rfl, hb⟩))
      go_ret
      exact ⟨rfl, by first | exact ring_end0 hb | exact ring_end hb⟩
  · have c1b : (s2 == 0) = false := beq_eq_false_iff_ne.mpr c1
    have c1c : (s2 != 0) = true := bne_iff_ne.mpr c1
    clear c1 hs
    by_cases c2 : m2 = 0
    · subst c2
      by_cases c3 : b = 0
      · have c3b : (b == 0) = true := beq_iff_eq.mpr c3
        have c3c : (b != 0) = false := bne_eq_false_iff_eq.mpr c3
        clear c3 hd
        go_enter Tryd.func4, Tryd.ntmps4
        go_wp2_with (first
    | (go_at_call 9; (with_reducible refine (Ha.out _).mono ?_); rintro e w' ⟨rfl, ⟨nd, rfl⟩⟩)
    | (go_at_call 9; (with_reducible refine (HA.out _).mono ?_); rintro e w' ⟨rfl, ⟨nd, rfl⟩⟩)
    | (go_at_call 14; (with_reducible refine (Hm.out _).mono ?_); rintro e w' ⟨rfl, ⟨nd, rfl⟩⟩)
    | (go_at_call 14; (with_reducible refine (HM.out _).mono ?_); rintro e w' ⟨rfl, ⟨nd, rfl⟩⟩)
    | (go_at_call 12; (with_reducible refine (Hs.out _).mono ?_); rintro e w' ⟨rfl, ⟨nd, rfl⟩⟩)
    | (go_at_call 21; (with_reducible refine (Hd.out _).mono ?_); rintro e w' ⟨rfl, ⟨nd, rfl⟩⟩)
    | (go_at_call 20; refine (alive_any _ (tab_drewN _ H.out)).mono ?_; rintro e w' ⟨rfl, hb⟩))
        go_ret
        exact ⟨rfl, by first | exact ring_end0 hb | exact ring_end hb⟩
      · have Hd := Lib.hid (hd rfl c3)
        have c3b : (b == 0) = false := beq_eq_false_iff_ne.mpr c3
        have c3c : (b != 0) = true := bne_iff_ne.mpr c3
        clear c3 hd
        go_enter Tryd.func4, Tryd.ntmps4
        go_wp2_with (first
    | (go_at_call 9; (with_reducible refine (Ha.out _).mono ?_); rintro e w' ⟨rfl, ⟨nd, rfl⟩⟩)
    | (go_at_call 9; (with_reducible refine (HA.out _).mono ?_); rintro e w' ⟨rfl, ⟨nd, rfl⟩⟩)
    | (go_at_call 14; (with_reducible refine (Hm.out _).mono ?_); rintro e w' ⟨rfl, ⟨nd, rfl⟩⟩)
    | (go_at_call 14; (with_reducible refine (HM.out _).mono ?_); rintro e w' ⟨rfl, ⟨nd, rfl⟩⟩)
    | (go_at_call 12; (with_reducible refine (Hs.out _).mono ?_); rintro e w' ⟨rfl, ⟨nd, rfl⟩⟩)
    | (go_at_call 21; (with_reducible refine (Hd.out _).mono ?_); rintro e w' ⟨rfl, ⟨nd, rfl⟩⟩)
    | (go_at_call 20; refine (alive_any _ (tab_drewN _ H.out)).mono ?_; rintro e w' ⟨rfl, hb⟩))
        go_ret
        exact ⟨rfl, by first | exact ring_end0 hb | exact ring_end hb⟩
    · have c2b : (m2 == 0) = false := beq_eq_false_iff_ne.mpr c2
      have c2c : (m2 != 0) = true := bne_iff_ne.mpr c2
      clear c2 hd
      go_enter Tryd.func4, Tryd.ntmps4
      go_wp2_with (first
    | (go_at_call 9; (with_reducible refine (Ha.out _).mono ?_); rintro e w' ⟨rfl, ⟨nd, rfl⟩⟩)
    | (go_at_call 9; (with_reducible refine (HA.out _).mono ?_); rintro e w' ⟨rfl, ⟨nd, rfl⟩⟩)
    | (go_at_call 14; (with_reducible refine (Hm.out _).mono ?_); rintro e w' ⟨rfl, ⟨nd, rfl⟩⟩)
    | (go_at_call 14; (with_reducible refine (HM.out _).mono ?_); rintro e w' ⟨rfl, ⟨nd, rfl⟩⟩)
    | (go_at_call 12; (with_reducible refine (Hs.out _).mono ?_); rintro e w' ⟨rfl, ⟨nd, rfl⟩⟩)
    | (go_at_call 21; (with_reducible refine (Hd.out _).mono ?_); rintro e w' ⟨rfl, ⟨nd, rfl⟩⟩)
    | (go_at_call 20; refine (alive_any _ (tab_drewN _ H.out)).mono ?_; rintro e w' ⟨rfl, hb⟩))
      go_ret
      exact ⟨rfl, by first | exact ring_end0 hb | exact ring_end hb⟩

theorem told_ok {x : Int} (h : (told x).2 = 0) : In x ∧ (told x).1 = x := by
  unfold told at h ⊢
  by_cases i : In x
  · rw [if_pos i]; exact ⟨i, rfl⟩
  · rw [if_neg i] at h; simp at h

theorem ring_walk (a b : Int) (w : World) (ha : (Lit.int .i64 a).wf = true) (hb : (Lit.int .i64 b).wf = true) (t : Tab w) :
    Calls Tryd.prog 4 #[.int .i64 a, .int .i64 b] w fun e w' => e = .returned (.bool true) ∧ Below w.heap.size w w' := by
  have ia := in_of_wf ha
  have ib := in_of_wf hb
  refine ring_core a b _ _ _ _ w t (add_calls a b ia ib) (fun w => by have := add_calls b a ib ia w; rw [Int.add_comm b a] at this; exact this)
    (NumMul.mul_any a b ia ib) (fun w => by have := NumMul.mul_any b a ib ia w; rw [Int.mul_comm b a] at this; exact this) ?_ ?_
  · intro h w
    obtain ⟨h1, h2⟩ := told_ok h
    rw [h2]
    have := sub_calls (a + b) b h1 ib w
    rw [show a + b - b = a by omega, show told a = (a, 0) from if_pos ia] at this
    exact this
  · intro h hb0 w
    obtain ⟨h1, h2⟩ := told_ok h
    rw [h2]
    refine divides_yes (a * b) b a w (fun w => ?_) (fun w => ?_)
    · have := div_calls (a * b) b h1 ib w
      rw [show divS (a * b) b = (a, 0) by unfold divS; rw [if_neg hb0, Int.mul_tdiv_cancel _ hb0]; exact if_pos ia] at this
      exact this
    · have := rem_calls (a * b) b w
      rw [show remS (a * b) b = (0, 0) by unfold remS; rw [if_neg hb0, Int.mul_tmod_left]] at this
      exact this

set_option maxRecDepth 100000 in
theorem rest_zero (a : Int) (w : World) (t : Tab w)
    (hq : ∀ w, Calls Tryd.prog 16 #[.int .i64 a, .int .i64 0] w fun e w' => e = .returned (.tuple #[.int .i64 0, .int .i64 9]) ∧ Drawn0 w w')
    (hr : ∀ w, Calls Tryd.prog 18 #[.int .i64 a, .int .i64 0] w fun e w' => e = .returned (.tuple #[.int .i64 0, .int .i64 9]) ∧ Drawn0 w w') :
    Calls Tryd.prog 5 #[.int .i64 a, .int .i64 0] w fun e w' => e = .returned (.bool true) ∧ Below w.heap.size w w' := by
  have H := Lib.hid t
  have Hq := Lib.hid hq
  have Hr := Lib.hid hr
  clear t hq hr
  go_enter Tryd.func5, Tryd.ntmps5
  go_wp2_with (first
    | (go_at_call 16; (with_reducible refine (Hq.out _).mono ?_); rintro e w' ⟨rfl, ⟨nd, rfl⟩⟩)
    | (go_at_call 18; (with_reducible refine (Hr.out _).mono ?_); rintro e w' ⟨rfl, ⟨nd, rfl⟩⟩)
    | (go_at_call 14; (with_reducible refine (Hm.out _).mono ?_); rintro e w' ⟨rfl, ⟨nd, rfl⟩⟩)
    | (go_at_call 9; (with_reducible refine (Ha.out _).mono ?_); rintro e w' ⟨rfl, ⟨nd, rfl⟩⟩)
    | (go_at_call 20; refine (alive_any _ (tab_drewN _ H.out)).mono ?_; rintro e w' ⟨rfl, hb⟩))
  go_ret
  exact ⟨rfl, by first | exact ring_end0 hb | exact ring_end hb⟩

set_option maxRecDepth 100000 in
theorem rest_over (a b : Int) (w : World) (t : Tab w) (b0 : (b == 0) = false)
    (hq : ∀ w, Calls Tryd.prog 16 #[.int .i64 a, .int .i64 b] w fun e w' => e = .returned (.tuple #[.int .i64 0, .int .i64 8]) ∧ Drawn0 w w')
    (hr : ∀ w, Calls Tryd.prog 18 #[.int .i64 a, .int .i64 b] w fun e w' => e = .returned (.tuple #[.int .i64 0, .int .i64 0]) ∧ Drawn0 w w') :
    Calls Tryd.prog 5 #[.int .i64 a, .int .i64 b] w fun e w' => e = .returned (.bool true) ∧ Below w.heap.size w w' := by
  have H := Lib.hid t
  have Hq := Lib.hid hq
  have Hr := Lib.hid hr
  clear t hq hr
  go_enter Tryd.func5, Tryd.ntmps5
  go_wp2_with (first
    | (go_at_call 16; (with_reducible refine (Hq.out _).mono ?_); rintro e w' ⟨rfl, ⟨nd, rfl⟩⟩)
    | (go_at_call 18; (with_reducible refine (Hr.out _).mono ?_); rintro e w' ⟨rfl, ⟨nd, rfl⟩⟩)
    | (go_at_call 14; (with_reducible refine (Hm.out _).mono ?_); rintro e w' ⟨rfl, ⟨nd, rfl⟩⟩)
    | (go_at_call 9; (with_reducible refine (Ha.out _).mono ?_); rintro e w' ⟨rfl, ⟨nd, rfl⟩⟩)
    | (go_at_call 20; refine (alive_any _ (tab_drewN _ H.out)).mono ?_; rintro e w' ⟨rfl, hb⟩))
  go_ret
  exact ⟨rfl, by first | exact ring_end0 hb | exact ring_end hb⟩

set_option maxHeartbeats 1000000 in
set_option maxRecDepth 100000 in
theorem rest_core (a b q r p : Int) (w : World) (t : Tab w) (b0 : (b == 0) = false)
    (hra : r < 0 ∧ a < 0 ∨ r = 0 ∨ 0 < r ∧ 0 < a) (hrb : 0 < b ∧ -b < r ∧ r < b ∨ b < 0 ∧ b < r ∧ r < -b) (rb : -9223372036854775807 ≤ r) (rb' : r ≤ 9223372036854775807) (bb : b ≤ 9223372036854775807) (bb' : -9223372036854775808 ≤ b)
    (hq : ∀ w, Calls Tryd.prog 16 #[.int .i64 a, .int .i64 b] w fun e w' => e = .returned (.tuple #[.int .i64 q, .int .i64 0]) ∧ Drawn0 w w')
    (hr : ∀ w, Calls Tryd.prog 18 #[.int .i64 a, .int .i64 b] w fun e w' => e = .returned (.tuple #[.int .i64 r, .int .i64 0]) ∧ Drawn0 w w')
    (hm : ∀ w, Calls Tryd.prog 14 #[.int .i64 q, .int .i64 b] w fun e w' => e = .returned (.tuple #[.int .i64 p, .int .i64 0]) ∧ Drawn0 w w')
    (ha : ∀ w, Calls Tryd.prog 9 #[.int .i64 p, .int .i64 r] w fun e w' => e = .returned (.tuple #[.int .i64 a, .int .i64 0]) ∧ Drawn0 w w') :
    Calls Tryd.prog 5 #[.int .i64 a, .int .i64 b] w fun e w' => e = .returned (.bool true) ∧ Below w.heap.size w w' := by
  have H := Lib.hid t
  have Hq := Lib.hid hq
  have Hr := Lib.hid hr
  have Hm := Lib.hid hm
  have Ha := Lib.hid ha
  clear t hq hr hm ha
  rcases hra with ⟨h1, h2⟩ | rfl | ⟨h1, h2⟩ <;> rcases hrb with ⟨h3, h4, h5⟩ | ⟨h3, h4, h5⟩
  all_goals
    go_enter Tryd.func5, Tryd.ntmps5
    go_wp2_with (first
    | (go_at_call 16; (with_reducible refine (Hq.out _).mono ?_); rintro e w' ⟨rfl, ⟨nd, rfl⟩⟩)
    | (go_at_call 18; (with_reducible refine (Hr.out _).mono ?_); rintro e w' ⟨rfl, ⟨nd, rfl⟩⟩)
    | (go_at_call 14; (with_reducible refine (Hm.out _).mono ?_); rintro e w' ⟨rfl, ⟨nd, rfl⟩⟩)
    | (go_at_call 9; (with_reducible refine (Ha.out _).mono ?_); rintro e w' ⟨rfl, ⟨nd, rfl⟩⟩)
    | (go_at_call 20; refine (alive_any _ (tab_drewN _ H.out)).mono ?_; rintro e w' ⟨rfl, hb⟩))
    go_ret
    exact ⟨by first | rfl | exact congrArg (fun b => Ending.returned (.bool b)) (decide_eq_true (by omega)), by first | exact ring_end0 hb | exact ring_end hb⟩

theorem rest_walk (a b : Int) (w : World) (ha : (Lit.int .i64 a).wf = true) (hb : (Lit.int .i64 b).wf = true) (t : Tab w) :
    Calls Tryd.prog 5 #[.int .i64 a, .int .i64 b] w fun e w' => e = .returned (.bool true) ∧ Below w.heap.size w w' := by
  have ia := in_of_wf ha
  have ib := in_of_wf hb
  by_cases b0 : b = 0
  · subst b0
    exact rest_zero a w t (fun w => div_calls a 0 ia ib w) (fun w => rem_calls a 0 w)
  have b0' : (b == 0) = false := beq_eq_false_iff_ne.mpr b0
  by_cases c : a = -9223372036854775808 ∧ b = -1
  · obtain ⟨rfl, rfl⟩ := c
    exact rest_over _ _ w t b0' (fun w => div_calls _ _ ia ib w) (fun w => rem_calls _ _ w)
  have hin := tdiv_in a b ia b0 c
  have hn : (Int.tmod a b).natAbs < b.natAbs := by rw [Int.natAbs_tmod]; exact Nat.mod_lt _ (by omega)
  have hs := Int.tdiv_mul_add_tmod a b
  have hsg : (Int.tmod a b) < 0 ∧ a < 0 ∨ (Int.tmod a b) = 0 ∨ 0 < (Int.tmod a b) ∧ 0 < a := by
    by_cases h0 : 0 ≤ a
    · have h1 := Int.tmod_nonneg b h0
      by_cases h2 : Int.tmod a b = 0
      · exact .inr (.inl h2)
      · have : a ≠ 0 := by rintro rfl; exact h2 (by simp)
        exact .inr (.inr ⟨by omega, by omega⟩)
    · have h1 := Int.tmod_nonneg b (show 0 ≤ -a by omega)
      rw [Int.neg_tmod] at h1
      by_cases h2 : Int.tmod a b = 0
      · exact .inr (.inl h2)
      · exact .inl ⟨by omega, by omega⟩
  have hp : In (Int.tdiv a b * b) := by
    unfold In at *
    omega
  refine rest_core a b (Int.tdiv a b) (Int.tmod a b) (Int.tdiv a b * b) w t b0' hsg (by omega) (by unfold In at ib; omega) (by unfold In at ib; omega) ib.2 ib.1 (fun w => ?_) (fun w => ?_) (fun w => ?_) (fun w => ?_)
  · have := div_calls a b ia ib w
    rw [show divS a b = (Int.tdiv a b, 0) by unfold divS; rw [if_neg b0]; exact if_pos hin] at this
    exact this
  · have := rem_calls a b w
    rw [show remS a b = (Int.tmod a b, 0) by unfold remS; rw [if_neg b0]] at this
    exact this
  · have := NumMul.mul_any (Int.tdiv a b) b hin ib w
    rw [show told (Int.tdiv a b * b) = (Int.tdiv a b * b, 0) from if_pos hp] at this
    exact this
  · have := add_calls (Int.tdiv a b * b) (Int.tmod a b) hp (by unfold In at *; omega) w
    rw [hs, show told a = (a, 0) from if_pos ia] at this
    exact this
end Go.Proofs.YtmbmcnklgoadiaaDoor.NumLaws
