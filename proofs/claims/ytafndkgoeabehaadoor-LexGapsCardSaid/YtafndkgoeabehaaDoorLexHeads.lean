/- LexHeads: walked. -/
import Derived.Test.YtafndkgoeabehaaDoorLexShaped
import Derived.Test.YtafndkgoeabehaaDoorLexSame
import Derived.Test.YtafndkgoeabehaaDoorLexPlain
namespace Go.Proofs.YtafndkgoeabehaaDoor.LexHeads
open Go Go.RowKit Go.Proofs.YtafndkgoeabehaaDoor.NumPure Go.Proofs.YtafndkgoeabehaaDoor.NumParse Go.Proofs.YtafndkgoeabehaaDoor.LexPure Go.Proofs.YtafndkgoeabehaaDoor.LexMem Go.Proofs.YtafndkgoeabehaaDoor.LexGaps Go.Proofs.YtafndkgoeabehaaDoor.LexTokens Go.Proofs.YtafndkgoeabehaaDoor.LexAlive Go.Proofs.YtafndkgoeabehaaDoor.LexRise Go.Proofs.YtafndkgoeabehaaDoor.LexRises Go.Proofs.YtafndkgoeabehaaDoor.LexShaped Go.Proofs.YtafndkgoeabehaaDoor.LexSame Go.Proofs.YtafndkgoeabehaaDoor.LexPlain Go.Proofs.YtafndkgoeabehaaDoorW.PrintWords

theorem row_cap {w : World} {base n cap : Nat} {p : Option Addr} {xs : List Value} (h : w.ownsRow base 30 4 (.slice p n cap) n xs) : n ≤ cap := by
  obtain ⟨_, ⟨hv, h0⟩ | ⟨g, c, cur, hv, _, _, h3, _⟩⟩ := h
  · omega
  · injection hv with _ _ hc
    omega
theorem idx (a : Int) (n : Nat) (hn : 0 < n) (hm : n ≤ 140737488351232) : ∃ k : Nat, (wrap64 (a.tmod n + n)).tmod n = (k : Int) ∧ k < n := by
  have h1 := Int.tmod_lt_of_pos a (show (0 : Int) < n by omega)
  have h2 := Int.lt_tmod_of_pos a (show (0 : Int) < n by omega)
  obtain ⟨m, hmm⟩ : ∃ m, a.tmod n = m := ⟨_, rfl⟩
  rw [hmm] at h1 h2 ⊢
  have hw : wrap64 (m + n) = m + n := by unfold wrap64; omega
  rw [hw]
  clear hw hmm
  have h3 := Int.tmod_lt_of_pos (m + n) (show (0 : Int) < n by omega)
  have h4 : 0 ≤ (m + n).tmod n := Int.tmod_nonneg _ (by omega)
  exact ⟨((m + n).tmod n).toNat, by omega, by omega⟩

set_option maxRecDepth 100000 in
set_option maxHeartbeats 4000000 in
theorem heads_walk (s : ByteArray) (at_ : Int) (w : World) (hs : s.size ≤ 140737488351232) (hwf : (Lit.int .i64 at_).wf = true) (h : MaxVar w ∧ ErrVar w) :
    Calls Tryd.prog 5 #[.string s, .int .i64 at_] w fun e w' => e = .returned (.bool true) ∧ Below w.heap.size w w' := by
  have hlaw := lex_law s.data.toList
  rw [← Lib.size_eq] at hlaw
  have HAL := Lib.hid (alive_later w (lt_of_err h.2) h.1 h.2)
  have hT := tokens_later w s hs (lt_of_err h.2) h.1 h.2 w (Below.refl _ _)
  have HT2 := Lib.hid (fun s2 hs2 => tokens_later w s2 hs2 (lt_of_err h.2) h.1 h.2)
  obtain ⟨l, y, a, hL⟩ : ∃ l y a, lex s.data.toList = (l, y, a) := ⟨_, _, _, rfl⟩
  rw [hL] at hT hlaw
  simp only [] at hT hlaw
  have HA := Lib.hid hT
  have HLX := Lib.hid hL
  clear hT hL h
  rcases hlaw with ⟨rfl, rfl, hr⟩ | ⟨hy, rfl, ha0, ha1⟩
  · have HRI := Lib.hid hr
    clear hr
    cases l with
    | nil =>
      go_enter Tryd.func5, Tryd.ntmps5
      go_wp2_with (first
       | (go_at_call 8; (with_reducible refine HA.out.mono ?_); rintro e w1 ⟨v, rfl, ho, hb1⟩
          obtain ⟨p, cap, rfl⟩ := row_slice ho
          have HB1 := Lib.hid hb1
          clear ho hb1 HA)
       | (go_at_call 9; (with_reducible refine (HAL.out _ ?bel).mono ?_); (case bel => exact HB1.out.alloc HB1.out.size _); rintro e w2 ⟨rfl, hb2⟩))
      go_ret
      exact ⟨rfl, (HB1.out.alloc HB1.out.size _).trans (hb2.mono (Nat.le_trans HB1.out.size (by simp)))⟩
    | cons t0 l0 =>
    obtain ⟨l, hll⟩ : ∃ l, t0 :: l0 = l := ⟨_, rfl⟩
    rw [hll] at HA HLX HRI
    have hpos : 0 < l.length := by rw [← hll]; simp
    clear hll
    have hl63 := rise_len l s.size 0 HRI.out.1 (fun t ht => ⟨Nat.zero_le _, HRI.out.2 t ht⟩)
    obtain ⟨k, hk, hkl⟩ := idx at_ l.length hpos (by omega)
    have hposb : decide (0 < l.length) = true := decide_eq_true hpos
    have hposc : ((l.length : Int) == 0) = false := beq_eq_false_iff_ne.mpr (by omega)
    have hklb : decide (k < l.length) = true := decide_eq_true hkl
    obtain ⟨t, ht⟩ : ∃ t, l[k]? = some t := ⟨l[k], by simp⟩
    have hhl := heads_law HLX.out ht
    have HHL := Lib.hid hhl.2
    have hts : t.at_ ≤ s.size := by have := HRI.out.2 t (List.mem_of_getElem? ht); omega
    have htsb : decide ((s.size : Int) < (t.at_ : Int)) = false := decide_eq_false (by omega)
    have htsc : decide (s.size < t.at_) = false := decide_eq_false (by omega)
    obtain ⟨u, hu⟩ : ∃ x, s.extract 0 t.at_ = x := ⟨_, rfl⟩
    have hul : u.data.toList = s.data.toList.take t.at_ := by rw [← hu]; exact LexTook.take_data s t.at_
    have husz : u.size ≤ 140737488351232 := by rw [Lib.size_eq, hul, List.length_take, ← Lib.size_eq]; omega
    have hTU := HT2.out u husz
    rw [hul, HHL.out] at hTU
    have HTU := Lib.hid hTU
    have HKL := Lib.hid hkl
    have HT := Lib.hid ht
    have HTA := Lib.hid (show (l.take k).length = k by rw [List.length_take]; omega)
    have HL63 := Lib.hid hl63
    clear hhl hTU hul husz hl63 HHL HT2 ht hwf
    go_enter Tryd.func5, Tryd.ntmps5
    go_wp2_with (first
     | (go_at_call 8; (with_reducible refine HA.out.mono ?_); rintro e w1 ⟨v, rfl, ho, hb1⟩
        obtain ⟨g, cap, rfl, hg, hgb, hcell⟩ := row_cells (w2 := w) ho hpos
        have hkc : k ≤ cap := Nat.le_trans (Nat.le_of_lt HKL.out) (row_cap ho)
        have hRow : Row w1 (.slice (some ⟨g, 0, none⟩) (l.take k).length cap) ((l.take k).map tk) := by
          refine ⟨some ⟨g, 0, none⟩, cap, by rw [List.length_map], fun i u hu => ⟨g, rfl, hg, fun j hj => ?_⟩⟩
          have hik : i < k := by have := (List.getElem?_eq_some_iff.1 hu).1; rw [List.length_map, HTA.out] at this; exact this
          rw [hcell _ (by have := HKL.out; omega)]
          refine cellsOf_at _ i u ?_ j hj
          rw [List.getElem?_map, List.getElem?_take_of_lt hik] at hu
          rw [List.getElem?_map]
          exact hu
        rw [HTA.out] at hRow
        have d3 : w1.cell? ⟨g, k * 4 + 3, none⟩ = some (.int .i64 (t.at_ : Int)) := by
          rw [hcell _ (by have := HKL.out; omega), cellsOf_at _ k (tk t) (by rw [List.getElem?_map, HT.out]; rfl) 3 (by decide)]
          rfl
        have HROW := Lib.hid hRow
        have HB1 := Lib.hid hb1
        have HB1A := Lib.hid (HB1.out.alloc HB1.out.size (.cells #[.int .i64 0, .int .i64 0] 25))
        have hgl : g < w1.heap.size := hg
        clear ho hb1 HA hRow hcell hgb hg)
     | (go_at_call 8; (with_reducible refine (HTU.out _ ?bel).mono ?_); (case bel => exact HB1A.out); rintro e w2 ⟨v2, rfl, ho2, hb2⟩
        have HR2 := Lib.hid (Row.of_own (l := (l.take k).map tk) (by rw [List.length_map]; exact ho2))
        have HRA := Lib.hid ((HROW.out.below ((Below.refl _ _).alloc (Nat.le_refl _) _)).below hb2)
        have HB2 := Lib.hid (HB1A.out.trans (hb2.mono HB1A.out.size))
        have HS : Hid (∀ w3, Below w2.heap.size w2 w3 → Calls Tryd.prog 10 #[.slice (some ⟨g, 0, none⟩) k cap, v2, .bool true] w3 fun e w' => e = .returned (.bool true) ∧ Below w3.heap.size w3 w') := Lib.hid (fun w3 hb => same_any w3 _ _ _ _ true (HRA.out.below hb) (HR2.out.below hb) (by rw [List.length_map, HTA.out]; have := HKL.out; have := HL63.out; omega) rfl)
        clear ho2 hb2)
     | (go_at_call 10; (with_reducible refine (HS.out _ ?bel).mono ?_); (case bel => exact (Below.refl _ _).alloc (Nat.le_refl _) _); rintro e w4 ⟨rfl, hb4⟩
        have HB4 := Lib.hid ((HB2.out.alloc HB2.out.size (.cells #[.int .i64 0, .int .i64 0] 25)).trans (hb4.mono (Nat.le_trans HB2.out.size (by simp))))
        clear hb4)
     | (go_at_call 9; (with_reducible refine (HAL.out _ ?bel).mono ?_); (case bel => exact HB4.out); rintro e w5 ⟨rfl, hb5⟩))
    go_ret
    exact ⟨rfl, HB4.out.trans (hb5.mono HB4.out.size)⟩
  · have hyb : (y == 0) = false := beq_eq_false_iff_ne.mpr hy
    clear ha0 ha1
    go_enter Tryd.func5, Tryd.ntmps5
    go_wp2_with (first
     | (go_at_call 8; (with_reducible refine HA.out.mono ?_); rintro e w1 ⟨v, rfl, ho, hb1⟩
        obtain ⟨p, cap, rfl⟩ := row_slice ho
        have HB1 := Lib.hid hb1
        clear ho hb1 HA)
     | (go_at_call 9; (with_reducible refine (HAL.out _ ?bel).mono ?_); (case bel => exact HB1.out.alloc HB1.out.size _); rintro e w2 ⟨rfl, hb2⟩))
    go_ret
    exact ⟨rfl, (HB1.out.alloc HB1.out.size _).trans (hb2.mono (Nat.le_trans HB1.out.size (by simp)))⟩
end Go.Proofs.YtafndkgoeabehaaDoor.LexHeads
