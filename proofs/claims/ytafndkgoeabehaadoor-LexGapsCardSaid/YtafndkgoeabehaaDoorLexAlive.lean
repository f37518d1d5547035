/- alive: walked. -/
import Derived.Test.YtafndkgoeabehaaDoorLexTokens
namespace Go.Proofs.YtafndkgoeabehaaDoor.LexAlive
open Go Go.RowKit Go.Proofs.YtafndkgoeabehaaDoor.NumPure Go.Proofs.YtafndkgoeabehaaDoor.NumRead Go.Proofs.YtafndkgoeabehaaDoor.NumParse Go.Proofs.YtafndkgoeabehaaDoor.LexPure Go.Proofs.YtafndkgoeabehaaDoor.LexGap Go.Proofs.YtafndkgoeabehaaDoor.LexMem Go.Proofs.YtafndkgoeabehaaDoor.LexWord Go.Proofs.YtafndkgoeabehaaDoor.LexGaps Go.Proofs.YtafndkgoeabehaaDoor.LexTook Go.Proofs.YtafndkgoeabehaaDoor.LexNumber Go.Proofs.YtafndkgoeabehaaDoor.LexToken Go.Proofs.YtafndkgoeabehaaDoor.LexToks Go.Proofs.YtafndkgoeabehaaDoor.LexTokens Go.Proofs.YtafndkgoeabehaaDoorW.PrintWords

theorem lex_a : lex [100, 46, 112, 97, 116, 104, 40, 49, 41, 46, 32, 47, 47, 32, 99] = ([⟨1, [100, 46, 112, 97, 116, 104], 0, 0⟩, ⟨4, [40], 0, 6⟩, ⟨2, [], 1, 7⟩, ⟨4, [41], 0, 8⟩, ⟨4, [46], 0, 9⟩], 0, 0) := by decide +kernel
theorem lex_b : lex [48, 48, 55] = ([], 7, 1) := by decide +kernel

/-- Tokens, over any later world: what a law's walk takes -/
theorem tokens_later (w : World) (s : ByteArray) (hs : s.size ≤ 140737488351232) (hB : 2 < w.heap.size) (hM : MaxVar w) (he : ErrVar w) :
    ∀ w2, Below w.heap.size w w2 → Calls Tryd.prog 8 #[.string s] w2 fun e w' => ∃ v, e = .returned (.tuple #[v, .agg #[.int .i64 (lex s.data.toList).2.1, .int .i64 (lex s.data.toList).2.2]]) ∧ w'.ownsRow w2.heap.size 30 4 v (lex s.data.toList).1.length (cellsOf ((lex s.data.toList).1.map tk)) ∧ Below w2.heap.size w2 w' :=
  fun w2 hb => Tokens_any w2 s hs (Nat.lt_of_lt_of_le hB hb.size) (max_below hb (by omega) hM) (err_belowB hb hB he)

/-- the cells of a row of tokens, later on -/
theorem row_cells {w w2 : World} {base n : Nat} {v : Value} {l : List Tk} (h : w.ownsRow base 30 4 v n (cellsOf l)) (hn : 0 < n) : ∃ g cap, v = .slice (some ⟨g, 0, none⟩) n cap ∧ g < w.heap.size ∧ base ≤ g ∧ ∀ j, j < n * 4 → w.cell? ⟨g, j, none⟩ = (cellsOf l)[j]? := by
  obtain ⟨h0, ⟨rfl, h1⟩ | ⟨g, cap, cur, rfl, hg, h3, h4⟩⟩ := id h
  · omega
  · refine ⟨g, cap, rfl, (h.lt g rfl).2, hg, fun j hj => h.cellAt j hj⟩

set_option maxRecDepth 100000 in
set_option maxHeartbeats 4000000 in
theorem alive_any (w : World) (hB : 2 < w.heap.size) (hM : MaxVar w) (he : ErrVar w) :
    Calls Tryd.prog 9 #[] w fun e w' => e = .returned (.bool true) ∧ Below w.heap.size w w' := by
  have HA := Lib.hid (tokens_later w ⟨#[100, 46, 112, 97, 116, 104, 40, 49, 41, 46, 32, 47, 47, 32, 99]⟩ (by decide) hB hM he w (Below.refl _ _))
  have HC := Lib.hid (tokens_later w ⟨#[48, 48, 55]⟩ (by decide) hB hM he)
  rw [show (ByteArray.mk #[100, 46, 112, 97, 116, 104, 40, 49, 41, 46, 32, 47, 47, 32, 99]).data.toList = [100, 46, 112, 97, 116, 104, 40, 49, 41, 46, 32, 47, 47, 32, 99] from rfl, lex_a] at HA
  rw [show (ByteArray.mk #[48, 48, 55]).data.toList = [48, 48, 55] from rfl, lex_b] at HC
  clear hB hM he
  go_enter Tryd.func9, Tryd.ntmps9
  go_wp2_with (go_at_call 8; (with_reducible refine HA.out.mono ?_); rintro e w1 ⟨v, rfl, ho, hb1⟩; (obtain ⟨g, cap, rfl, hg, hgb, hcell⟩ := row_cells (w2 := w) ho (by decide)))
  have c1 : w1.cell? ⟨g, 1, none⟩ = some (.string ⟨#[100, 46, 112, 97, 116, 104]⟩) := (hcell 1 (by decide)).trans rfl
  have c10 : w1.cell? ⟨g, 10, none⟩ = some (.int .i64 1) := (hcell 10 (by decide)).trans rfl
  have c17 : w1.cell? ⟨g, 17, none⟩ = some (.string ⟨#[46]⟩) := (hcell 17 (by decide)).trans rfl
  have HB1 := Lib.hid hb1
  have HG := Lib.hid hg
  clear HA hcell ho hb1 hg hgb
  go_wp2_with
   (go_at_call 8; (with_reducible refine (HC.out _ ?bel).mono ?_); (case bel => exact HB1.out.alloc HB1.out.size _); rintro e w2 ⟨v2, rfl, ho2, hb2⟩
    have hw12 : w1.heap.size < w2.heap.size := by have := hb2.size; simp at this; omega
    have hne : w1.heap.size ≠ w2.heap.size := Nat.ne_of_lt hw12
    have hgn : g < w2.heap.size := by have := HG.out; omega
    have hfx := ((Blk.new w1 25 #[.int .i64 0, .int .i64 0]).below hb2 (by simp))
    have x0 : w2.cell? ⟨w1.heap.size, 0, none⟩ = some (Value.int .i64 0) := hfx.cell 0
    have x1 : w2.cell? ⟨w1.heap.size, 1, none⟩ = some (Value.int .i64 0) := hfx.cell 1
    have hbk : ∀ j, w2.cell? ⟨g, j, none⟩ = w1.cell? ⟨g, j, none⟩ := fun j => by
      have h1 := HG.out
      exact (hb2.cell (p := ⟨g, j, none⟩) (by simp; omega)).trans (((Below.refl w1.heap.size w1).alloc (Nat.le_refl _) _).cell (p := ⟨g, j, none⟩) h1)
    rw [← hbk] at c1 c10 c17
    have HB2 := Lib.hid (HB1.out.alloc HB1.out.size (.cells #[.int .i64 0, .int .i64 0] 25))
    have HB3 := Lib.hid ((HB2.out.trans (hb2.mono (by simp; exact Nat.le_trans HB1.out.size (Nat.le_succ _)))).alloc (by have := HB1.out.size; omega) (.cells #[.int .i64 7, .int .i64 1] 25))
    clear hfx hbk ho2 hb2 HC HG)
  go_ret
  exact ⟨rfl, HB3.out⟩
end Go.Proofs.YtafndkgoeabehaaDoor.LexAlive
