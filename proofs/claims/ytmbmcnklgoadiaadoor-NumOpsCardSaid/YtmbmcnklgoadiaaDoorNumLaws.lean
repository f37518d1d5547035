/- The walks of the laws NumOps, NumRing, NumRest: out of the layers' contracts. -/
import Derived.Test.YtmbmcnklgoadiaaDoorNumAlive
import Derived.Test.YtmbmcnklgoadiaaDoorPsamex1
namespace Go.Proofs.YtmbmcnklgoadiaaDoor.NumLaws
open Go Go.RowKit Go.Sort Go.Proofs.YtmbmcnklgoadiaaDoor.NumPure Go.Proofs.YtmbmcnklgoadiaaDoor.NumSpec Go.Proofs.YtmbmcnklgoadiaaDoor.NumAlive Go.Proofs.YtmbmcnklgoadiaaDoorW.PrintWords

theorem tab_of_drawn {w : World} {n : Nat} (t : Tab w) : Tab (w.drewN n) := tab_drewN n t

theorem in_of_wf {a : Int} (h : (Lit.int .i64 a).wf = true) : In a := by
  have h2 := h
  simp [Lit.wf, IntKind.min, IntKind.max, IntKind.signed, IntKind.bits] at h2
  unfold In
  omega

/-- a contract over printed words, its pair by name -/
theorem pair {o : Option (Int × Int)} {p : Int × Int} (h : o = some p) : o = some (p.1, p.2) := h

theorem same_yes (n e : Int) (w : World) : Calls Tryd.prog 11 #[.int .i64 n, .int .i64 e, .int .i64 n, .int .i64 e] w fun e w' => e = .returned (.bool true) ∧ Drawn0 w w' :=
  Psame.vestrylaw01_same.calls n e n e true w (by simp [Psame.vestrylaw01_same.f])

set_option maxHeartbeats 2000000 in
set_option maxRecDepth 100000 in
theorem ops_core (a b s1 s2 d1 d2 m1 m2 q1 q2 r1 r2 : Int) (w : World) (t : Tab w)
    (ha : ∀ w, Calls Tryd.prog 9 #[.int .i64 a, .int .i64 b] w fun e w' => e = .returned (.tuple #[.int .i64 s1, .int .i64 s2]) ∧ Drawn0 w w')
    (hA : ∀ w, Calls Tryd.prog 10 #[.int .i64 a, .int .i64 b] w fun e w' => e = .returned (.tuple #[.int .i64 s1, .int .i64 s2]) ∧ Drawn0 w w')
    (hs : ∀ w, Calls Tryd.prog 12 #[.int .i64 a, .int .i64 b] w fun e w' => e = .returned (.tuple #[.int .i64 d1, .int .i64 d2]) ∧ Drawn0 w w')
    (hS : ∀ w, Calls Tryd.prog 13 #[.int .i64 a, .int .i64 b] w fun e w' => e = .returned (.tuple #[.int .i64 d1, .int .i64 d2]) ∧ Drawn0 w w')
    (hm : ∀ w, Calls Tryd.prog 14 #[.int .i64 a, .int .i64 b] w fun e w' => e = .returned (.tuple #[.int .i64 m1, .int .i64 m2]) ∧ Drawn0 w w')
    (hM : ∀ w, Calls Tryd.prog 15 #[.int .i64 a, .int .i64 b] w fun e w' => e = .returned (.tuple #[.int .i64 m1, .int .i64 m2]) ∧ Drawn0 w w')
    (hq : ∀ w, Calls Tryd.prog 16 #[.int .i64 a, .int .i64 b] w fun e w' => e = .returned (.tuple #[.int .i64 q1, .int .i64 q2]) ∧ Drawn0 w w')
    (hQ : ∀ w, Calls Tryd.prog 17 #[.int .i64 a, .int .i64 b] w fun e w' => e = .returned (.tuple #[.int .i64 q1, .int .i64 q2]) ∧ Drawn0 w w')
    (hr : ∀ w, Calls Tryd.prog 18 #[.int .i64 a, .int .i64 b] w fun e w' => e = .returned (.tuple #[.int .i64 r1, .int .i64 r2]) ∧ Drawn0 w w')
    (hR : ∀ w, Calls Tryd.prog 19 #[.int .i64 a, .int .i64 b] w fun e w' => e = .returned (.tuple #[.int .i64 r1, .int .i64 r2]) ∧ Drawn0 w w') :
    Calls Tryd.prog 3 #[.int .i64 a, .int .i64 b] w fun e w' => e = .returned (.bool true) ∧ Below w.heap.size w w' := by
  have H := Lib.hid t
  have Ha := Lib.hid ha
  have HA := Lib.hid hA
  have Hs := Lib.hid hs
  have HS := Lib.hid hS
  have Hm := Lib.hid hm
  have HM := Lib.hid hM
  have Hq := Lib.hid hq
  have HQ := Lib.hid hQ
  have Hr := Lib.hid hr
  have HR := Lib.hid hR
  clear t ha hA hs hS hm hM hq hQ hr hR
  go_enter Tryd.func3, Tryd.ntmps3
  go_wp2_with (first
    | (go_at_call 9; (with_reducible refine (Ha.out _).mono ?_); rintro e w' ⟨rfl, ⟨nd, rfl⟩⟩)
    | (go_at_call 10; (with_reducible refine (HA.out _).mono ?_); rintro e w' ⟨rfl, ⟨nd, rfl⟩⟩)
    | (go_at_call 12; (with_reducible refine (Hs.out _).mono ?_); rintro e w' ⟨rfl, ⟨nd, rfl⟩⟩)
    | (go_at_call 13; (with_reducible refine (HS.out _).mono ?_); rintro e w' ⟨rfl, ⟨nd, rfl⟩⟩)
    | (go_at_call 14; (with_reducible refine (Hm.out _).mono ?_); rintro e w' ⟨rfl, ⟨nd, rfl⟩⟩)
    | (go_at_call 15; (with_reducible refine (HM.out _).mono ?_); rintro e w' ⟨rfl, ⟨nd, rfl⟩⟩)
    | (go_at_call 16; (with_reducible refine (Hq.out _).mono ?_); rintro e w' ⟨rfl, ⟨nd, rfl⟩⟩)
    | (go_at_call 17; (with_reducible refine (HQ.out _).mono ?_); rintro e w' ⟨rfl, ⟨nd, rfl⟩⟩)
    | (go_at_call 18; (with_reducible refine (Hr.out _).mono ?_); rintro e w' ⟨rfl, ⟨nd, rfl⟩⟩)
    | (go_at_call 19; (with_reducible refine (HR.out _).mono ?_); rintro e w' ⟨rfl, ⟨nd, rfl⟩⟩)
    | (go_at_call 11; (with_reducible refine (same_yes _ _ _).mono ?_); rintro e w' ⟨rfl, ⟨nd, rfl⟩⟩)
    | (go_at_call 20; refine (alive_any _ (tab_drewN _ H.out)).mono ?_; rintro e w' ⟨rfl, hb⟩))
  go_ret
  exact ⟨rfl, (below_drewN (Below.refl _ _) _).trans (hb.mono (Nat.le_refl _))⟩

theorem ops_walk (a b : Int) (w : World) (ha : (Lit.int .i64 a).wf = true) (hb : (Lit.int .i64 b).wf = true) (t : Tab w) :
    Calls Tryd.prog 3 #[.int .i64 a, .int .i64 b] w fun e w' => e = .returned (.bool true) ∧ Below w.heap.size w w' := by
  have ia := in_of_wf ha
  have ib := in_of_wf hb
  exact ops_core a b _ _ _ _ _ _ _ _ _ _ w t
    (fun w => PAdd.num_Add.calls a b _ _ w (num_add a b ia ib)) (fun w => POp.vestryref01_Add.calls a b _ _ w (ref_add a b ia ib))
    (fun w => PDiv.num_Sub.calls a b _ _ w (num_sub a b ia ib)) (fun w => POp.vestryref01_Sub.calls a b _ _ w (ref_sub a b ia ib))
    (fun w => NumMul.mul_any a b ia ib w) (fun w => POp.vestryref01_Mul.calls 2 a b _ _ w (ref_mul_is a b ia ib 0))
    (fun w => PDiv.num_Div.calls a b _ _ w (num_div a b ia ib)) (fun w => POp.vestryref01_Div.calls a b _ _ w (ref_div a b ia ib))
    (fun w => PRem.num_Rem.calls a b _ _ w (num_rem a b)) (fun w => POp.vestryref01_Rem.calls a b _ _ w (ref_rem a b))
end Go.Proofs.YtmbmcnklgoadiaaDoor.NumLaws
