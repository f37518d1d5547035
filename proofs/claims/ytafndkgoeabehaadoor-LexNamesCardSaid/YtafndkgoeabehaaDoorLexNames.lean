/- LexNames: walked. -/
import Derived.Test.YtafndkgoeabehaaDoorLexShaped
import Derived.Test.YtafndkgoeabehaaDoorLexRefName
namespace Go.Proofs.YtafndkgoeabehaaDoor.LexNames
open Go Go.RowKit Go.Proofs.YtafndkgoeabehaaDoor.NumParse Go.Proofs.YtafndkgoeabehaaDoor.LexPure Go.Proofs.YtafndkgoeabehaaDoor.LexWord Go.Proofs.YtafndkgoeabehaaDoor.LexGaps Go.Proofs.YtafndkgoeabehaaDoor.LexTook Go.Proofs.YtafndkgoeabehaaDoor.LexRises Go.Proofs.YtafndkgoeabehaaDoor.LexShaped Go.Proofs.YtafndkgoeabehaaDoor.LexRefName Go.Proofs.YtafndkgoeabehaaDoorW.PrintWords

set_option maxRecDepth 100000 in
set_option maxHeartbeats 4000000 in
theorem names_walk (s : ByteArray) (w : World) (hs : s.size ≤ 140737488351232) (h : MaxVar w ∧ ErrVar w) :
    Calls Tryd.prog 7 #[.string s] w fun e w' => e = .returned (.bool true) ∧ Below w.heap.size w w' := by
  have HAL := Lib.hid (alive_later w (lt_of_err h.2) h.1 h.2)
  have H1 := Lib.hid (Word_any s hs)
  have H2 := Lib.hid (PWordIs.ref_Word s hs)
  have H3 := Lib.hid (Name_any s hs)
  have H4 := Lib.hid (PNameIs.ref_Name s hs)
  obtain ⟨k1, hk1⟩ : ∃ k, LexPure.Word s.data.toList = k := ⟨_, rfl⟩
  obtain ⟨k2, hk2⟩ : ∃ k, LexPure.Name s.data.toList = k := ⟨_, rfl⟩
  rw [hk1] at H1 H2
  rw [hk2] at H3 H4
  clear h hs hk1 hk2
  go_enter Tryd.func7, Tryd.ntmps7
  go_wp2_with (first
    | (go_at_call 12; (with_reducible refine (H1.out _).mono ?_); rintro e w2 ⟨rfl, ⟨n1, rfl⟩⟩)
    | (go_at_call 13; (with_reducible refine (H2.out _).mono ?_); rintro e w2 ⟨rfl, ⟨n2, rfl⟩⟩)
    | (go_at_call 14; (with_reducible refine (H3.out _).mono ?_); rintro e w2 ⟨rfl, ⟨n3, rfl⟩⟩)
    | (go_at_call 15; (with_reducible refine (H4.out _).mono ?_); rintro e w2 ⟨rfl, ⟨n4, rfl⟩⟩)
    | (go_at_call 9; (with_reducible refine (HAL.out _ ?bel).mono ?_); (case bel => exact below_drewN (Below.refl _ _) _); rintro e w2 ⟨rfl, hb2⟩))
  go_ret
  exact ⟨rfl, (below_drewN (Below.refl _ _) _).trans hb2⟩
end Go.Proofs.YtafndkgoeabehaaDoor.LexNames
