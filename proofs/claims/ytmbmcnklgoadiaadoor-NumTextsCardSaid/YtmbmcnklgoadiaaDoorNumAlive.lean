/- num.Text at -70 and vestrylaw01.alive: the table of powers of ten being what the library lays, alive answers true; only new memory is made. -/
import Derived.Test.YtmbmcnklgoadiaaDoorNumSpec
import Derived.Test.YtmbmcnklgoadiaaDoorNumMul
import Derived.Test.YtmbmcnklgoadiaaDoorShelf
import Derived.WalkSmall
import Derived.Lib.LaidTab
import Derived.Stop.LaidErr
import Derived.MakeChecks
namespace Go.Proofs.YtmbmcnklgoadiaaDoor.NumAlive
open Go Go.RowKit Go.Sort Go.Proofs.YtmbmcnklgoadiaaDoor.NumPure Go.Proofs.YtmbmcnklgoadiaaDoor.NumSpec Go.Proofs.YtmbmcnklgoadiaaDoorW.PrintWords

abbrev Tab (w : World) : Prop := Lib.TabIs Tryd.prog w "internal/strconv.uint64pow10" .u64 Lib.pow10Tab
theorem gTab : Tryd.prog.globalNamed "internal/strconv.uint64pow10" = some 4 := by kernel_rfl
theorem tab_below {w w' : World} (h : Below w.heap.size w w') (t : Tab w) : Tab w' := by
  have c := t.cell gTab 0 (by decide)
  exact var?_below h gTab (World.block_lt_of_cell? w _ c) t
theorem tab_drewN {w : World} (n : Nat) (t : Tab w) : Tab (w.drewN n) := tab_below (below_drewN (Below.refl _ _) n) t

/-- the row's condition, where the table is the third on its list -/
theorem tab_of_laid {a b : String × DataW Unit} {r : List (String × DataW Unit)} {w : World} (h : laidMet Tryd.prog (a :: b :: ("internal/strconv.uint64pow10", Lib.tabData .u64 Lib.pow10Tab) :: r) w) : Tab w :=
  Lib.tabIs_of_head gTab (t := 104) (e := 43) (n := 20) (by kernel_rfl) Tryd.underlying104 Tryd.underlying43 (by kernel_rfl) (by kernel_rfl) h.tail.tail

theorem below_new (B : Nat) (w : World) (hB : B ≤ w.heap.size) (k : Nat) (os : Array Obj) : Below B w (grow (w.drewN k) os) :=
  ⟨rfl, rfl, rfl, by show w.heap.size ≤ (w.heap ++ os).size; rw [Array.size_append]; omega, fun j hj => by show (w.heap ++ os)[j]? = w.heap[j]?; rw [Array.getElem?_append_left (by omega)]⟩

theorem itoa70 : Lib.itoa (-70) = [45, 55, 48] := by
  unfold Lib.itoa
  rw [if_pos (by decide)]
  have : Lib.decDigits (Int.natAbs (-70)) = [55, 48] := by
    show Lib.decDigits 70 = _
    simp [Lib.decDigits]
  rw [this]

theorem text70 (w : World) (t : Tab w) :
    Calls Tryd.prog 28 #[.int .i64 (-70)] w fun e w' => e = .returned (.string ⟨#[45, 55, 48]⟩) ∧ ∃ k os, w' = grow (w.drewN k) os := by
  have H := Lib.hid t
  clear t
  go_enter Tryd.func28, Tryd.ntmps28
  go_wp2_with (go_at_call 35; refine (Tryd.strconv_Itoa (-70) (by decide) (by decide) _ H.out).mono ?_; rintro e w' ⟨rfl, k, os, rfl⟩)
  go_ret
  refine ⟨?_, k, os, rfl⟩
  rw [itoa70]
  rfl

set_option maxRecDepth 100000 in
theorem alive_any (w : World) (t : Tab w) : Calls Tryd.prog 20 #[] w fun e w' => e = .returned (.bool true) ∧ Below w.heap.size w w' := by
  have H := Lib.hid t
  clear t
  have a1 := Lib.hid (num_add 2 3 (by simp [In]) (by simp [In]))
  have a2 := Lib.hid (num_add 9223372036854775807 1 (by simp [In]) (by simp [In]))
  have e1 : told (2 + 3) = (5, 0) := by decide
  have e2 : told (9223372036854775807 + 1) = (0, 8) := by decide
  rw [e1] at a1
  rw [e2] at a2
  clear e1 e2
  go_enter Tryd.func20, Tryd.ntmps20
  go_wp2_with (first | (go_at_call 9; (with_reducible refine (PAdd.num_Add.calls 2 3 5 0 _ a1.out).mono ?_); rintro e w' ⟨rfl, ⟨nd, rfl⟩⟩) | (go_at_call 9; (with_reducible refine (PAdd.num_Add.calls 9223372036854775807 1 0 8 _ a2.out).mono ?_); rintro e w' ⟨rfl, ⟨nd, rfl⟩⟩) | (go_at_call 28; refine (text70 _ (by first | exact H.out | exact tab_drewN _ H.out | exact tab_drewN _ (tab_drewN _ H.out))).mono ?_; rintro e w' ⟨rfl, k, os, rfl⟩))
  go_ret
  exact ⟨rfl, below_new _ _ (Nat.le_refl _) _ _⟩
end Go.Proofs.YtmbmcnklgoadiaaDoor.NumAlive
