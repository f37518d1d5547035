/- LexGaps: walked. -/
import Derived.Test.YtafndkgoeabehaaDoorLexShaped
import Derived.Test.YtafndkgoeabehaaDoorLexSame
import Derived.Test.YtafndkgoeabehaaDoorLexPlain
import Derived.Test.YtafndkgoeabehaaDoorLexHeads
namespace Go.Proofs.YtafndkgoeabehaaDoor.LexGapsLaw
open Go Go.RowKit Go.Proofs.YtafndkgoeabehaaDoor.NumPure Go.Proofs.YtafndkgoeabehaaDoor.NumParse Go.Proofs.YtafndkgoeabehaaDoor.LexPure Go.Proofs.YtafndkgoeabehaaDoor.LexMem Go.Proofs.YtafndkgoeabehaaDoor.LexGaps Go.Proofs.YtafndkgoeabehaaDoor.LexTokens Go.Proofs.YtafndkgoeabehaaDoor.LexAlive Go.Proofs.YtafndkgoeabehaaDoor.LexRise Go.Proofs.YtafndkgoeabehaaDoor.LexRises Go.Proofs.YtafndkgoeabehaaDoor.LexShaped Go.Proofs.YtafndkgoeabehaaDoor.LexSame Go.Proofs.YtafndkgoeabehaaDoor.LexPlain Go.Proofs.YtafndkgoeabehaaDoor.LexHeads Go.Proofs.YtafndkgoeabehaaDoorW.PrintWords

theorem five (x : Int) (h : (Lit.int .u8 x).wf = true) : ∃ m : Nat, x.tmod 5 = m ∧ m < 5 := by
  have h1 : IntKind.u8.min ≤ x ∧ x ≤ IntKind.u8.max := by simpa [Lit.wf] using h
  have e1 : IntKind.u8.min = 0 := rfl
  have h0 : 0 ≤ x := by omega
  rw [Int.tmod_eq_emod_of_nonneg h0]
  exact ⟨(x % 5).toNat, by omega, by omega⟩
def gapS (m : Nat) : ByteArray := ⟨(gapOf m).toArray⟩
theorem gap_cell (w1 : World) (m : Nat) (hm : m < 5) : ∀ a : Obj, ((w1.alloc a).alloc (.cells #[.string ⟨#[32]⟩, .string ⟨#[10]⟩, .string ⟨#[32, 47, 42, 32, 120, 32, 42, 47, 32]⟩, .string ⟨#[32, 47, 47, 32, 121, 10]⟩, .string ⟨#[9, 13]⟩] 9)).cell? ⟨w1.heap.size + 1, m, none⟩ = some (.string (gapS m)) := by
  intro a
  have h1 := (Blk.new (w1.alloc a) 9 #[.string ⟨#[32]⟩, .string ⟨#[10]⟩, .string ⟨#[32, 47, 42, 32, 120, 32, 42, 47, 32]⟩, .string ⟨#[32, 47, 47, 32, 121, 10]⟩, .string ⟨#[9, 13]⟩]).cell m
  have h2 : (w1.alloc a).heap.size = w1.heap.size + 1 := by simp
  rw [h2] at h1
  rw [h1]
  rcases m with _ | _ | _ | _ | _ | m
  · rfl
  · rfl
  · rfl
  · rfl
  · rfl
  · omega
/-- the tokens with a gap set in -/
theorem tok_at {w : World} {s : ByteArray} {l : List T} {k : Nat} {t : T}
    (hT : ∀ s2 : ByteArray, s2.size ≤ 140737488351232 → ∀ w2, Below w.heap.size w w2 → Calls Tryd.prog 8 #[.string s2] w2 fun e w' => ∃ v, e = .returned (.tuple #[v, .agg #[.int .i64 (lex s2.data.toList).2.1, .int .i64 (lex s2.data.toList).2.2]]) ∧ w'.ownsRow w2.heap.size 30 4 v (lex s2.data.toList).1.length (cellsOf ((lex s2.data.toList).1.map tk)) ∧ Below w2.heap.size w2 w')
    (hL : lex s.data.toList = (l, 0, 0)) (h16 : s.data.toList.length + 16 ≤ 65536) (ht : l[k]? = some t) (n : Nat) (gap : ByteArray) (hg : gap.data.toList = gapOf n) :
    ∀ w2, Below w.heap.size w w2 → Calls Tryd.prog 8 #[.string (s.extract 0 t.at_ ++ gap ++ s.extract t.at_ s.size)] w2 fun e w' => ∃ v l2, e = .returned (.tuple #[v, .agg #[.int .i64 0, .int .i64 0]]) ∧ (l.map tk).map (norm false) = l2.map (norm false) ∧ w'.ownsRow w2.heap.size 30 4 v l2.length (cellsOf l2) ∧ Below w2.heap.size w2 w' := by
  intro w2 hb
  obtain ⟨_, res, h1, h2⟩ := gaps_law hL h16 ht n
  have hd : (s.extract 0 t.at_ ++ gap ++ s.extract t.at_ s.size).data.toList = s.data.toList.take t.at_ ++ (gapOf n ++ s.data.toList.drop t.at_) := by
    simp only [ByteArray.data_append, Array.toList_append]
    rw [LexTook.take_data, LexWord.drop_data, hg, List.append_assoc]
  have hsz : (s.extract 0 t.at_ ++ gap ++ s.extract t.at_ s.size).size ≤ 140737488351232 := by
    have := gap_len n
    rw [Lib.size_eq, hd, List.length_append, List.length_append, List.length_take, List.length_drop]
    omega
  have hc := hT _ hsz w2 hb
  rw [hd, h1] at hc
  refine hc.mono ?_
  rintro e w' ⟨v, rfl, ho, hb2⟩
  refine ⟨v, res.map tk, rfl, ?_, (by rw [List.length_map]; exact ho), hb2⟩
  have hn : ∀ r : List T, (r.map tk).map (norm false) = (r.map (fun u => (u.kind, u.text, u.n))).map (fun x => (⟨x.1, x.2.1, x.2.2, 0⟩ : Tk)) := fun r => by
    rw [List.map_map, List.map_map]; rfl
  rw [hn, hn, h2]

theorem row_set {w : World} {v : Value} {l : List Tk} (h : Row w v l) {X : Nat} (hX : ∀ g, v.ownBlock = some g → g ≠ X) (j : Nat) (u : Value) : Row (w.setCell ⟨X, j, none⟩ u) v l := by
  obtain ⟨p, cap, rfl, hc⟩ := h
  refine ⟨p, cap, rfl, fun i t ht => ?_⟩
  obtain ⟨g, rfl, hg, hk⟩ := hc i t ht
  have hne : g ≠ X := hX g (by simp [Value.ownBlock])
  refine ⟨g, rfl, by simpa [World.setCell] using hg, fun k hk4 => ?_⟩
  rw [← hk k hk4]
  have := Below.heap_setCell w ⟨X, j, none⟩ u g hne
  simp [World.cell?, this]
theorem after_call {w w1 : World} {s2 : ByteArray} {v : Value} {l : List T} (hb1 : Below w.heap.size w w1) (hrow : Row w1 v (l.map tk)) (hown : ∀ g, v.ownBlock = some g → g < w1.heap.size) (hl : l.length ≤ 140737488351231)
    (h : ∀ w2, Below w.heap.size w w2 → Calls Tryd.prog 8 #[.string s2] w2 fun e w' => ∃ v l2, e = .returned (.tuple #[v, .agg #[.int .i64 0, .int .i64 0]]) ∧ (l.map tk).map (norm false) = l2.map (norm false) ∧ w'.ownsRow w2.heap.size 30 4 v l2.length (cellsOf l2) ∧ Below w2.heap.size w2 w') :
    ∀ W, Below w1.heap.size w1 W → Calls Tryd.prog 8 #[.string s2] W fun e w2 => ∃ v2, e = .returned (.tuple #[v2, .agg #[.int .i64 0, .int .i64 0]]) ∧ Hid (Below w.heap.size w w2) ∧ Hid (∀ w3, (Below w2.heap.size w2 w3 ∨ ∃ X a b, w1.heap.size ≤ X ∧ X < W.heap.size ∧ Below w2.heap.size ((w2.setCell ⟨X, 0, none⟩ a).setCell ⟨X, 1, none⟩ b) w3) → Calls Tryd.prog 10 #[v, v2, .bool false] w3 fun e w' => e = .returned (.bool true) ∧ Below w3.heap.size w3 w') ∧ Below W.heap.size W w2 := by
  intro W hW
  refine (h W (hb1.trans (hW.mono hb1.size))).mono ?_
  rintro e w2 ⟨v2, l2, rfl, hl2, hrow2, hb2⟩
  have h12 : Below w1.heap.size w1 w2 := hW.trans (hb2.mono hW.size)
  refine ⟨v2, rfl, Lib.hid (hb1.trans (h12.mono hb1.size)), Lib.hid (fun w3 hb => ?_), hb2⟩
  rcases hb with hb | ⟨X, a, b, hX1, hX2, hb⟩
  · exact same_any w3 _ _ _ _ false ((hrow.below h12).below hb) ((Row.of_own hrow2).below hb) (by rw [List.length_map]; omega) hl2
  · have hn1 : ∀ g, v.ownBlock = some g → g ≠ X := fun g hg => by have := hown g hg; omega
    have hn2 : ∀ g, v2.ownBlock = some g → g ≠ X := fun g hg => by have := own_base hrow2 g hg; omega
    exact same_any w3 _ _ _ _ false (Row.below (row_set (row_set (Row.below hrow h12) hn1 0 a) hn1 1 b) (by simpa [World.setCell] using hb)) (Row.below (row_set (row_set (Row.of_own hrow2) hn2 0 a) hn2 1 b) (by simpa [World.setCell] using hb)) (by rw [List.length_map]; omega) hl2
theorem cell3 {w1 : World} {g o : Nat} {v : Value} (hg : g < w1.heap.size) (h : w1.cell? ⟨g, o, none⟩ = some v) : ∀ a b c : Obj, (((w1.alloc a).alloc b).alloc c).cell? ⟨g, o, none⟩ = some v := fun a b c =>
  ((((Below.refl w1.heap.size w1).alloc (Nat.le_refl _) a).alloc (by simp) b).alloc (by simp; omega) c |>.cell (p := ⟨g, o, none⟩) hg).trans h
theorem set2 {w w1 w2 : World} (h : Below w.heap.size w w2) (h1 : w.heap.size ≤ w1.heap.size) (a b : Value) : Below w.heap.size w ((w2.setCell ⟨w1.heap.size + 1 + 1, 0, none⟩ a).setCell ⟨w1.heap.size + 1 + 1, 1, none⟩ b) :=
  (h.setCell (p := ⟨w1.heap.size + 1 + 1, 0, none⟩) (by simp; omega) a).setCell (p := ⟨w1.heap.size + 1 + 1, 1, none⟩) (by simp; omega) b
theorem own_of {w1 : World} {g n cap : Nat} (hg : g < w1.heap.size) : ∀ g', (Value.slice (some ⟨g, 0, none⟩) n cap).ownBlock = some g' → g' < w1.heap.size := by
  intro g' h
  have : g = g' := by simpa [Value.ownBlock] using h
  omega
theorem b2 (w1 : World) (a b : Obj) : Below w1.heap.size w1 ((w1.alloc a).alloc b).drew := (((Below.refl _ _).alloc (Nat.le_refl _) _).alloc (by simp) _).drew
theorem b3 (w1 : World) (a b c : Obj) : Below w1.heap.size w1 (((w1.alloc a).alloc b).alloc c).drew := ((((Below.refl _ _).alloc (Nat.le_refl _) _).alloc (by simp) _).alloc (by simp; omega) _).drew
/-- the block of the variable, made ahead of the call -/
theorem blk3 {w1 w2 : World} {a b : Obj} {T : TypeId} {cs : Array Value} (h : Below (((w1.alloc a).alloc b).alloc (.cells cs T)).drew.heap.size (((w1.alloc a).alloc b).alloc (.cells cs T)).drew w2) : Blk w2 (w1.heap.size + 1 + 1) T cs := by
  have h1 := Blk.new ((w1.alloc a).alloc b) T cs
  have h2 : ((w1.alloc a).alloc b).heap.size = w1.heap.size + 1 + 1 := by simp
  rw [h2] at h1
  exact Blk.below (w := (((w1.alloc a).alloc b).alloc (.cells cs T)).drew) h1 h (by simp)
set_option maxRecDepth 100000 in
set_option maxHeartbeats 4000000 in
theorem gaps_walk (s : ByteArray) (at_ which : Int) (w : World) (hs : s.size ≤ 140737488351232) (hwf : (Lit.int .i64 at_).wf = true) (hwf2 : (Lit.int .u8 which).wf = true) (h : MaxVar w ∧ ErrVar w) :
    Calls Tryd.prog 4 #[.string s, .int .i64 at_, .int .u8 which] w fun e w' => e = .returned (.bool true) ∧ Below w.heap.size w w' := by
  have hlaw := lex_law s.data.toList
  rw [← Lib.size_eq] at hlaw
  have HAL := Lib.hid (alive_later w (lt_of_err h.2) h.1 h.2)
  have hT := tokens_later w s hs (lt_of_err h.2) h.1 h.2 w (Below.refl _ _)
  have HT2 := Lib.hid (fun s2 hs2 => tokens_later w s2 hs2 (lt_of_err h.2) h.1 h.2)
  obtain ⟨l, y, a, hL⟩ : ∃ l y a, lex s.data.toList = (l, y, a) := ⟨_, _, _, rfl⟩
  rw [hL] at hT hlaw
  simp only [] at hT hlaw
  have HA := Lib.hid hT
  have HLX := Lib.hid hL
  clear hT hL h
  rcases hlaw with ⟨rfl, rfl, hr⟩ | ⟨hy, rfl, ha0, ha1⟩
  · have HRI := Lib.hid hr
    clear hr
    cases l with
    | nil =>
      go_enter Tryd.func4, Tryd.ntmps4
      go_wp2_with (first
       | (go_at_call 8; (with_reducible refine HA.out.mono ?_); rintro e w1 ⟨v, rfl, ho, hb1⟩
          obtain ⟨p, cap, rfl⟩ := row_slice ho
          have HB1 := Lib.hid hb1
          clear ho hb1 HA)
       | (go_at_call 9; (with_reducible refine (HAL.out _ ?bel).mono ?_); (case bel => exact HB1.out.alloc HB1.out.size _); rintro e w2 ⟨rfl, hb2⟩))
      go_ret
      exact ⟨rfl, (HB1.out.alloc HB1.out.size _).trans (hb2.mono (Nat.le_trans HB1.out.size (by simp)))⟩
    | cons t0 l0 =>
    obtain ⟨l, hll⟩ : ∃ l, t0 :: l0 = l := ⟨_, rfl⟩
    rw [hll] at HA HLX HRI
    have hpos : 0 < l.length := by rw [← hll]; simp
    clear hll
    have hl63 := rise_len l s.size 0 HRI.out.1 (fun t ht => ⟨Nat.zero_le _, HRI.out.2 t ht⟩)
    obtain ⟨k, hk, hkl⟩ := idx at_ l.length hpos (by omega)
    have hposb : decide (0 < l.length) = true := decide_eq_true hpos
    have hposc : ((l.length : Int) == 0) = false := beq_eq_false_iff_ne.mpr (by omega)
    have hklb : decide (k < l.length) = true := decide_eq_true hkl
    obtain ⟨t, ht⟩ : ∃ t, l[k]? = some t := ⟨l[k], by simp⟩
    have hts : t.at_ ≤ s.size := by have := HRI.out.2 t (List.mem_of_getElem? ht); omega
    have htsb : decide ((s.size : Int) < (t.at_ : Int)) = false := decide_eq_false (by omega)
    have htsc : decide (s.size < t.at_) = false := decide_eq_false (by omega)
    have HKL := Lib.hid hkl
    have HT := Lib.hid ht
    have HL63 := Lib.hid hl63
    clear hl63 ht hwf
    by_cases h16 : 65536 < s.size + 16
    · have h16b : decide (65536 < (s.size : Int) + 16) = true := decide_eq_true (by omega)
      clear h16 HT2
      go_enter Tryd.func4, Tryd.ntmps4
      go_wp2_with (first
       | (go_at_call 8; (with_reducible refine HA.out.mono ?_); rintro e w1 ⟨v, rfl, ho, hb1⟩
          obtain ⟨p, cap, rfl⟩ := row_slice ho
          have HB1 := Lib.hid hb1
          clear ho hb1 HA)
       | (go_at_call 9; (with_reducible refine (HAL.out _ ?bel).mono ?_); (case bel => exact HB1.out.alloc HB1.out.size _); rintro e w2 ⟨rfl, hb2⟩))
      go_ret
      exact ⟨rfl, (HB1.out.alloc HB1.out.size _).trans (hb2.mono (Nat.le_trans HB1.out.size (by simp)))⟩
    · have h16b : decide (65536 < (s.size : Int) + 16) = false := decide_eq_false (by omega)
      have HL64 : Hid (l.length ≤ 140737488351231) := Lib.hid (by have := HL63.out; omega)
      have hl16 : s.data.toList.length + 16 ≤ 65536 := by rw [← Lib.size_eq]; omega
      obtain ⟨m, hm, hm5⟩ := five which hwf2
      have hmb : decide (m < 5) = true := decide_eq_true hm5
      have hmi : decide ((m : Int) < 5) = true := decide_eq_true (by omega)
      have hmj : (m : Int) < 5 := by omega
      have HM5 := Lib.hid hm5
      have hgz : (gapS m).size ≤ 9 := by have := gap_len m; rw [Lib.size_eq]; exact this
      clear h16 hwf2 hm5
      · have HTU := Lib.hid (tok_at HT2.out HLX.out hl16 HT.out m (gapS m) rfl)
        clear HT2 hl16
        go_enter Tryd.func4, Tryd.ntmps4
        go_wp2_with (first
         | (go_at_call 8; (with_reducible refine HA.out.mono ?_); rintro e w1 ⟨v, rfl, ho, hb1⟩
            obtain ⟨g, cap, rfl, hg, hgb, hcell⟩ := row_cells (w2 := w) ho hpos
            have d3 : w1.cell? ⟨g, k * 4 + 3, none⟩ = some (.int .i64 (t.at_ : Int)) := by
              rw [hcell _ (by have := HKL.out; omega), cellsOf_at _ k (tk t) (by rw [List.getElem?_map, HT.out]; rfl) 3 (by decide)]
              rfl
            have HROW := Lib.hid (Row.of_own (l := l.map tk) (by rw [List.length_map]; exact ho))
            have HB1 := Lib.hid hb1
            have hgl : g < w1.heap.size := hg
            have hgc := gap_cell w1 m HM5.out
            clear ho hb1 HA hcell hgb hg))
        have HQ := Lib.hid (after_call HB1.out HROW.out (own_of hgl) HL64.out HTU.out)
        have HB1S := Lib.hid HB1.out.size
        clear HB1 HROW HTU
        have d3c := cell3 hgl d3
        go_region_with (first
          | (go_at_call 8; (with_reducible refine (HQ.out _ (b2 w1 _ _)).mono ?_); rintro e w2 ⟨v2, rfl, HB2, HS, hbW⟩; have hlt2 : w1.heap.size + 1 + 1 ≤ w2.heap.size := (by have := hbW.size; simpa using this); have hXX : w1.heap.size + 1 + 1 ≤ w1.heap.size + 1 + 1 := Nat.le_refl _; clear hbW)
          | (go_at_call 8; (with_reducible refine (HQ.out _ (b3 w1 _ _ _)).mono ?_); rintro e w2 ⟨v2, rfl, HB2, HS, hbW⟩; have hlt2 : w1.heap.size + 1 + 1 + 1 ≤ w2.heap.size := (by have := hbW.size; simpa using this); have hK := blk3 hbW; have y0 := hK.cell 0; have y1 := hK.cell 1; have f0 := hK.frozen 0; have f1 := hK.frozen 1; simp at y0 y1; clear hbW hK))
        all_goals go_wp2_with (first
         | (go_at_call 10; (with_reducible refine (HS.out _ (.inl ?bel)).mono ?_); (case bel => exact (Below.refl _ _).alloc (Nat.le_refl _) _); rintro e w4 ⟨rfl, hb4⟩
            have HB4 := Lib.hid (Below.trans ((HB2.out.alloc HB2.out.size _)) (hb4.mono (Nat.le_trans HB2.out.size (by simp))))
            clear hb4)
         | (go_at_call 10; (with_reducible refine (HS.out _ (.inr ⟨w1.heap.size + 1 + 1, _, _, by omega, by simp, Below.refl _ _⟩)).mono ?_); rintro e w4 ⟨rfl, hb4⟩
            have HB4 := Lib.hid (Below.trans (set2 HB2.out HB1S.out _ _) (hb4.mono (by simpa [World.setCell] using HB2.out.size)))
            clear hb4)
         | (go_at_call 9; (with_reducible refine (HAL.out _ ?bel).mono ?_); (case bel => exact HB4.out); rintro e w5 ⟨rfl, hb5⟩))
        all_goals go_ret
        all_goals exact ⟨rfl, HB4.out.trans (hb5.mono HB4.out.size)⟩
  · have hyb : (y == 0) = false := beq_eq_false_iff_ne.mpr hy
    clear ha0 ha1
    go_enter Tryd.func4, Tryd.ntmps4
    go_wp2_with (first
     | (go_at_call 8; (with_reducible refine HA.out.mono ?_); rintro e w1 ⟨v, rfl, ho, hb1⟩
        obtain ⟨p, cap, rfl⟩ := row_slice ho
        have HB1 := Lib.hid hb1
        clear ho hb1 HA)
     | (go_at_call 9; (with_reducible refine (HAL.out _ ?bel).mono ?_); (case bel => exact HB1.out.alloc HB1.out.size _); rintro e w2 ⟨rfl, hb2⟩))
    go_ret
    exact ⟨rfl, (HB1.out.alloc HB1.out.size _).trans (hb2.mono (Nat.le_trans HB1.out.size (by simp)))⟩
end Go.Proofs.YtafndkgoeabehaaDoor.LexGapsLaw
