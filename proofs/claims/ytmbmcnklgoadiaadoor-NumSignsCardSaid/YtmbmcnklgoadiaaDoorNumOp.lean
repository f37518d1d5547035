/- num.Op: the operator of a text, out of the table of functions that the call builds. -/
import Derived.Test.YtmbmcnklgoadiaaDoorNumLaws
import Derived.Handy
import Derived.Laws.EntriesVeiled
namespace Go.Proofs.YtmbmcnklgoadiaaDoor.NumOp
open Go Go.RowKit Go.Sort Go.Proofs.YtmbmcnklgoadiaaDoor.NumPure Go.Proofs.YtmbmcnklgoadiaaDoor.NumSpec Go.Proofs.YtmbmcnklgoadiaaDoor.NumAlive Go.Proofs.YtmbmcnklgoadiaaDoor.NumLaws Go.Proofs.YtmbmcnklgoadiaaDoorW.PrintWords

theorem alloc_ge {B : Nat} {w : World} (o : Obj) (h : B ≤ w.heap.size) : B ≤ (w.alloc o).heap.size := by simp; omega
theorem below_alloc1 {B : Nat} {w w1 : World} (o : Obj) (hB : B ≤ w1.heap.size) (h : Below B w w1) : Below B w (w1.alloc o) := h.alloc hB o

def opS (o : List UInt8) (a b : Int) : Int × Int :=
  if o = [43] then told (a + b) else if o = [45] then told (a - b) else if o = [42] then told (a * b) else if o = [47] then divS a b else if o = [37] then remS a b else (0, 1)

set_option maxHeartbeats 1000000 in
set_option maxRecDepth 100000 in
theorem op_add (o : ByteArray) (a b r1 r2 : Int) (w : World) (h0 : (([43] : List UInt8) == o.toList) = true)
    (hf : ∀ w, Calls Tryd.prog 9 #[.int .i64 a, .int .i64 b] w fun e w' => e = .returned (.tuple #[.int .i64 r1, .int .i64 r2]) ∧ Drawn0 w w') :
    Calls Tryd.prog 22 #[.string o, .int .i64 a, .int .i64 b] w fun e w' => e = .returned (.tuple #[.int .i64 r1, .int .i64 r2]) ∧ Below w.heap.size w w' := by
  have H := Lib.hid hf
  clear hf
  go_enter Tryd.func22, Tryd.ntmps22
  go_wp2
  refine wp_loop_rounds 1 ?_
  rw [rounds_succ]
  go_wp2_with (go_at_call 9; (with_reducible refine (H.out _).mono ?_); rintro e w' ⟨rfl, ⟨nd, rfl⟩⟩)
  go_ret2
  exact ⟨rfl, by repeat (first | exact Below.refl _ _ | apply below_drewN | exact Nat.le_refl _ | apply alloc_ge | apply below_alloc1)⟩

set_option maxHeartbeats 1000000 in
set_option maxRecDepth 100000 in
theorem op_sub (o : ByteArray) (a b r1 r2 : Int) (w : World) (h0 : (([43] : List UInt8) == o.toList) = false) (h1 : (([45] : List UInt8) == o.toList) = true)
    (hf : ∀ w, Calls Tryd.prog 12 #[.int .i64 a, .int .i64 b] w fun e w' => e = .returned (.tuple #[.int .i64 r1, .int .i64 r2]) ∧ Drawn0 w w') :
    Calls Tryd.prog 22 #[.string o, .int .i64 a, .int .i64 b] w fun e w' => e = .returned (.tuple #[.int .i64 r1, .int .i64 r2]) ∧ Below w.heap.size w w' := by
  have H := Lib.hid hf
  clear hf
  go_enter Tryd.func22, Tryd.ntmps22
  go_wp2
  refine wp_loop_rounds 2 ?_
  rw [rounds_succ]
  go_wp2
  rw [rounds_succ]
  go_wp2_with (go_at_call 12; (with_reducible refine (H.out _).mono ?_); rintro e w' ⟨rfl, ⟨nd, rfl⟩⟩)
  go_ret2
  exact ⟨rfl, by repeat (first | exact Below.refl _ _ | apply below_drewN | exact Nat.le_refl _ | apply alloc_ge | apply below_alloc1)⟩

set_option maxHeartbeats 1000000 in
set_option maxRecDepth 100000 in
theorem op_mul (o : ByteArray) (a b r1 r2 : Int) (w : World) (h0 : (([43] : List UInt8) == o.toList) = false) (h1 : (([45] : List UInt8) == o.toList) = false) (h2 : (([42] : List UInt8) == o.toList) = true)
    (hf : ∀ w, Calls Tryd.prog 14 #[.int .i64 a, .int .i64 b] w fun e w' => e = .returned (.tuple #[.int .i64 r1, .int .i64 r2]) ∧ Drawn0 w w') :
    Calls Tryd.prog 22 #[.string o, .int .i64 a, .int .i64 b] w fun e w' => e = .returned (.tuple #[.int .i64 r1, .int .i64 r2]) ∧ Below w.heap.size w w' := by
  have H := Lib.hid hf
  clear hf
  go_enter Tryd.func22, Tryd.ntmps22
  go_wp2
  refine wp_loop_rounds 3 ?_
  rw [rounds_succ]
  go_wp2
  rw [rounds_succ]
  go_wp2
  rw [rounds_succ]
  go_wp2_with (go_at_call 14; (with_reducible refine (H.out _).mono ?_); rintro e w' ⟨rfl, ⟨nd, rfl⟩⟩)
  go_ret2
  exact ⟨rfl, by repeat (first | exact Below.refl _ _ | apply below_drewN | exact Nat.le_refl _ | apply alloc_ge | apply below_alloc1)⟩

set_option maxHeartbeats 1000000 in
set_option maxRecDepth 100000 in
theorem op_div (o : ByteArray) (a b r1 r2 : Int) (w : World) (h0 : (([43] : List UInt8) == o.toList) = false) (h1 : (([45] : List UInt8) == o.toList) = false) (h2 : (([42] : List UInt8) == o.toList) = false) (h3 : (([47] : List UInt8) == o.toList) = true)
    (hf : ∀ w, Calls Tryd.prog 16 #[.int .i64 a, .int .i64 b] w fun e w' => e = .returned (.tuple #[.int .i64 r1, .int .i64 r2]) ∧ Drawn0 w w') :
    Calls Tryd.prog 22 #[.string o, .int .i64 a, .int .i64 b] w fun e w' => e = .returned (.tuple #[.int .i64 r1, .int .i64 r2]) ∧ Below w.heap.size w w' := by
  have H := Lib.hid hf
  clear hf
  go_enter Tryd.func22, Tryd.ntmps22
  go_wp2
  refine wp_loop_rounds 4 ?_
  rw [rounds_succ]
  go_wp2
  rw [rounds_succ]
  go_wp2
  rw [rounds_succ]
  go_wp2
  rw [rounds_succ]
  go_wp2_with (go_at_call 16; (with_reducible refine (H.out _).mono ?_); rintro e w' ⟨rfl, ⟨nd, rfl⟩⟩)
  go_ret2
  exact ⟨rfl, by repeat (first | exact Below.refl _ _ | apply below_drewN | exact Nat.le_refl _ | apply alloc_ge | apply below_alloc1)⟩

set_option maxHeartbeats 1000000 in
set_option maxRecDepth 100000 in
theorem op_rem (o : ByteArray) (a b r1 r2 : Int) (w : World) (h0 : (([43] : List UInt8) == o.toList) = false) (h1 : (([45] : List UInt8) == o.toList) = false) (h2 : (([42] : List UInt8) == o.toList) = false) (h3 : (([47] : List UInt8) == o.toList) = false) (h4 : (([37] : List UInt8) == o.toList) = true)
    (hf : ∀ w, Calls Tryd.prog 18 #[.int .i64 a, .int .i64 b] w fun e w' => e = .returned (.tuple #[.int .i64 r1, .int .i64 r2]) ∧ Drawn0 w w') :
    Calls Tryd.prog 22 #[.string o, .int .i64 a, .int .i64 b] w fun e w' => e = .returned (.tuple #[.int .i64 r1, .int .i64 r2]) ∧ Below w.heap.size w w' := by
  have H := Lib.hid hf
  clear hf
  go_enter Tryd.func22, Tryd.ntmps22
  go_wp2
  refine wp_loop_rounds 5 ?_
  rw [rounds_succ]
  go_wp2
  rw [rounds_succ]
  go_wp2
  rw [rounds_succ]
  go_wp2
  rw [rounds_succ]
  go_wp2
  rw [rounds_succ]
  go_wp2_with (go_at_call 18; (with_reducible refine (H.out _).mono ?_); rintro e w' ⟨rfl, ⟨nd, rfl⟩⟩)
  go_ret2
  exact ⟨rfl, by repeat (first | exact Below.refl _ _ | apply below_drewN | exact Nat.le_refl _ | apply alloc_ge | apply below_alloc1)⟩

set_option maxHeartbeats 1000000 in
set_option maxRecDepth 100000 in
theorem op_none (o : ByteArray) (a b : Int) (w : World) (h0 : (([43] : List UInt8) == o.toList) = false) (h1 : (([45] : List UInt8) == o.toList) = false) (h2 : (([42] : List UInt8) == o.toList) = false) (h3 : (([47] : List UInt8) == o.toList) = false) (h4 : (([37] : List UInt8) == o.toList) = false) :
    Calls Tryd.prog 22 #[.string o, .int .i64 a, .int .i64 b] w fun e w' => e = .returned (.tuple #[.int .i64 0, .int .i64 1]) ∧ Below w.heap.size w w' := by
  go_enter Tryd.func22, Tryd.ntmps22
  go_wp2
  refine wp_loop_rounds 6 ?_
  rw [rounds_succ]
  go_wp2
  rw [rounds_succ]
  go_wp2
  rw [rounds_succ]
  go_wp2
  rw [rounds_succ]
  go_wp2
  rw [rounds_succ]
  go_wp2
  rw [rounds_succ]
  go_wp2
  go_ret2
  exact ⟨rfl, by repeat (first | exact Below.refl _ _ | apply below_drewN | exact Nat.le_refl _ | apply alloc_ge | apply below_alloc1)⟩


theorem op_any (o : ByteArray) (a b : Int) (w : World) (ia : In a) (ib : In b) :
    Calls Tryd.prog 22 #[.string o, .int .i64 a, .int .i64 b] w fun e w' => e = .returned (.tuple #[.int .i64 (opS o.toList a b).1, .int .i64 (opS o.toList a b).2]) ∧ Below w.heap.size w w' := by
  have yes : ∀ c : UInt8, o.toList = [c] → (([c] : List UInt8) == o.toList) = true := fun c h => beq_iff_eq.mpr h.symm
  have no : ∀ c : UInt8, ¬ o.toList = [c] → (([c] : List UInt8) == o.toList) = false := fun c h => beq_eq_false_iff_ne.mpr (fun x => h x.symm)
  unfold opS
  by_cases c0 : o.toList = [43]
  · rw [if_pos c0]; exact op_add o a b _ _ w (yes _ c0) (add_calls a b ia ib)
  rw [if_neg c0]
  by_cases c1 : o.toList = [45]
  · rw [if_pos c1]; exact op_sub o a b _ _ w (no _ c0) (yes _ c1) (sub_calls a b ia ib)
  rw [if_neg c1]
  by_cases c2 : o.toList = [42]
  · rw [if_pos c2]; exact op_mul o a b _ _ w (no _ c0) (no _ c1) (yes _ c2) (NumMul.mul_any a b ia ib)
  rw [if_neg c2]
  by_cases c3 : o.toList = [47]
  · rw [if_pos c3]; exact op_div o a b _ _ w (no _ c0) (no _ c1) (no _ c2) (yes _ c3) (div_calls a b ia ib)
  rw [if_neg c3]
  by_cases c4 : o.toList = [37]
  · rw [if_pos c4]; exact op_rem o a b _ _ w (no _ c0) (no _ c1) (no _ c2) (no _ c3) (yes _ c4) (rem_calls a b)
  rw [if_neg c4]
  exact op_none o a b w (no _ c0) (no _ c1) (no _ c2) (no _ c3) (no _ c4)

theorem ref_op (o : ByteArray) (a b : Int) (ia : In a) (ib : In b) : POp.vestryref01_Op.f 2 o a b = some (opS o.toList a b) := by
  unfold POp.vestryref01_Op.f opS
  rw [ref_add a b ia ib, ref_sub a b ia ib, ref_mul_is a b ia ib 0, ref_div a b ia ib, ref_rem a b]
  simp only [Option.bind_some]
  repeat' split
  all_goals rfl

end Go.Proofs.YtmbmcnklgoadiaaDoor.NumOp
