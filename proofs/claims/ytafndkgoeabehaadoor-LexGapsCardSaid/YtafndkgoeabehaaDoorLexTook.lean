/- What a reader's method leaves: a token more, or a fault. -/
import Derived.Test.YtafndkgoeabehaaDoorLexMem
import Derived.Test.YtafndkgoeabehaaDoorLexWord
namespace Go.Proofs.YtafndkgoeabehaaDoor.LexTook
open Go Go.RowKit Go.Proofs.YtafndkgoeabehaaDoor.LexPure Go.Proofs.YtafndkgoeabehaaDoor.LexMem Go.Proofs.YtafndkgoeabehaaDoor.LexWord

/-- what a reader's method leaves: a token more, or a fault -/
def Took (w' : World) (e : Ending) (B b : Nat) (s : ByteArray) (q : Nat) (l : List Tk) (why fat : Int) : Out → Prop
  | .tok kd tx n len => e = .returned (.bool true) ∧ RS w' B b s ((q + len : Nat) : Int) (l ++ [⟨kd, tx, n, q⟩]) why fat
  | .bad y off => e = .returned (.bool false) ∧ RS w' B b s (q : Int) l y ((q + off : Nat) : Int)

theorem below_draws {B : Nat} {w : World} (_h : B ≤ w.heap.size) {n : Nat} : Below B w (w.drewN n) := below_drewN (Below.refl _ _) n
theorem cell1_below {w w' : World} {B b : Nat} {s : ByteArray} {p : Int} {l : List Tk} {why fat : Int} (h : RS w B b s p l why fat) (hb : Below w.heap.size w w') : w'.cell? ⟨b, 1, none⟩ = some (.int .i64 p) := by
  obtain ⟨_, v, hk, _⟩ := h.below hb
  have := hk.cell 1
  simpa using this
theorem take_data (s : ByteArray) (n : Nat) : (s.extract 0 n).data.toList = s.data.toList.take n := by rw [Lib.extract_data]; simp
end Go.Proofs.YtafndkgoeabehaaDoor.LexTook
