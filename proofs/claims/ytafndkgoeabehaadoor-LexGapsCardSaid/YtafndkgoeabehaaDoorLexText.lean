/- (*reader).text: walked. -/
import Derived.Test.YtafndkgoeabehaaDoorLexTook
import Derived.Test.YtafndkgoeabehaaDoorLexBuilder
import Derived.Test.YtafndkgoeabehaaDoorLexGap
import Derived.Test.YtafndkgoeabehaaDoorLexGaps
import Derived.Deep.LoopGhost
namespace Go.Proofs.YtafndkgoeabehaaDoor.LexText
open Go Go.RowKit Go.Proofs.YtafndkgoeabehaaDoor.NumPure Go.Proofs.YtafndkgoeabehaaDoor.NumRead Go.Proofs.YtafndkgoeabehaaDoor.LexPure Go.Proofs.YtafndkgoeabehaaDoor.LexGap Go.Proofs.YtafndkgoeabehaaDoor.LexMem Go.Proofs.YtafndkgoeabehaaDoor.LexWord Go.Proofs.YtafndkgoeabehaaDoor.LexGaps Go.Proofs.YtafndkgoeabehaaDoor.LexTook Go.Proofs.YtafndkgoeabehaaDoorW.PrintWords

theorem byteCells_snoc1 (l : List UInt8) (c : UInt8) : Lib.byteCells (l ++ [c]) = Lib.byteCells l ++ [.int .u8 (c.toNat : Int)] := by rw [Lib.byteCells_append]; rfl

theorem wb_calls {B b : Nat} {bu : List UInt8} {w : World} (h : Lib.IsBuilder 57 5 B b (Lib.byteCells bu) w) (hl : bu.length ≤ 65536) (hB : B ≤ w.heap.size) (c : UInt8) (x : Int) (hx : x = c.toNat) :
    Calls Tryd.prog 45 #[.pointer (some ⟨b, 0, none⟩), .int .u8 x] w fun e w' => e = .returned .nilIface ∧ Lib.IsBuilder 57 5 B b (Lib.byteCells (bu ++ [c])) w' ∧ Below B w w' := by
  subst hx
  refine (LexBuilder.WriteByte B b (Lib.byteCells bu) (c.toNat : Int) w h (by rw [Lib.byteCells_length]; omega) hB).mono ?_
  rintro e w' ⟨rfl, h1, h2⟩
  exact ⟨rfl, .inr (by rw [byteCells_snoc1]; exact h1), h2⟩
theorem esc_index (d : UInt8) : Lib.indexByte [34, 92, 110, 116] d = match esc d with | none => -1 | some e => if e = 34 then 0 else if e = 92 then 1 else if e = 10 then 2 else 3 := by
  have h : ∀ n : Fin 256, Lib.indexByte [34, 92, 110, 116] (UInt8.ofNat n.val) = match esc (UInt8.ofNat n.val) with | none => -1 | some e => if e = 34 then 0 else if e = 92 then 1 else if e = 10 then 2 else 3 := by decide +kernel
  have := h ⟨d.toNat, d.toNat_lt⟩
  simpa using this
theorem esc_some {d e : UInt8} (h : esc d = some e) : e = 34 ∨ e = 92 ∨ e = 10 ∨ e = 9 := by
  unfold esc at h
  split at h
  · injection h with h; exact .inl h.symm
  · split at h
    · injection h with h; exact .inr (.inl h.symm)
    · split at h
      · injection h with h; exact .inr (.inr (.inl h.symm))
      · split at h
        · injection h with h; exact .inr (.inr (.inr h.symm))
        · cases h
theorem text_cons (b : List UInt8) (i : Nat) (c : UInt8) (r : List UInt8) : text b i (c :: r) = if c = 34 then .tok 3 b 0 (i + 1) else if c = 10 then .bad 7 i else if c = 92 then (match r with | [] => .bad 7 i | d :: r' => match esc d with | none => .bad 7 i | some e => text (b ++ [e]) (i + 2) r') else text (b ++ [c]) (i + 1) r := by
  cases r with
  | nil => rfl
  | cons d r => rfl

set_option maxRecDepth 100000 in
set_option maxHeartbeats 4000000 in
theorem text_any (w : World) (B b : Nat) (s : ByteArray) (q : Nat) (l : List Tk) (why fat : Int) (r : List UInt8) (h : RS w B b s (q : Int) l why fat) (hq : q ≤ s.size) (hs : s.size ≤ 65536) (hBw : B ≤ w.heap.size) (hl : l.length ≤ 65536) (hcr : s.data.toList.drop q = 34 :: r) :
    Calls Tryd.prog 35 #[.pointer (some ⟨b, 0, none⟩)] w fun e w' => Below B w w' ∧ Took w' e B b s q l why fat (text [] 1 r) := by
  have hz : s.size = s.data.toList.length := Lib.size_eq s
  obtain ⟨h0, v, hb, ho⟩ := id h
  have c0 := hb.cell 0
  have c1 := hb.cell 1
  simp at c0 c1
  have hblt := hb.lt
  obtain ⟨t, ht⟩ : ∃ t, s.extract q s.size = t := ⟨_, rfl⟩
  have htl : t.data.toList = 34 :: r := by rw [← ht, drop_data s q, hcr]
  have htz : t.size = s.size - q := by rw [Lib.size_eq, ← ht, drop_data, List.length_drop, ← hz]
  have htb : t.size ≤ 65536 := by omega
  have hz1 : 1 ≤ t.size := by rw [Lib.size_eq, htl]; simp
  have hq65 : q ≤ 65536 := by omega
  have HIB0 := Lib.hid (Lib.fresh_isBuilder 57 5 w)
  have HR0 := Lib.hid (h.alloc (.cells #[.pointer none, .slice none 0 0] 57))
  have HBL0 := Lib.hid ((Below.refl w.heap.size w).alloc (Nat.le_refl _) (.cells #[.pointer none, .slice none 0 0] 57))
  have HR := Lib.hid h
  have HBW := Lib.hid hBw
  have HLL := Lib.hid hl
  have HTZ := Lib.hid htz
  have HTL := Lib.hid htl
  clear h hBw hl htz htl hz hcr hb ho
  go_enter Tryd.func35, Tryd.ntmps35
  go_wp2
  go_quiet (fail)
  go_wp2
  obtain ⟨B0, hB0⟩ : ∃ n, w.heap.size = n := ⟨_, rfl⟩
  have HB0 := Lib.hid hB0
  rw [hB0] at HIB0 HBL0
  rw [hB0]
  have HRB : Hid (∀ w', Below B0 w w' → RS w' B b s (q : Int) l why fat) := Lib.hid (fun w' hb => HR.out.below (by rw [hB0]; exact hb))
  have HCC : Hid (∀ w', Below B0 w w' → w'.cell? ⟨b, 1, none⟩ = some (.int .i64 q)) := Lib.hid (fun w' hb => cell1_below HR.out (by rw [hB0]; exact hb))
  clear hB0
  go_loopg [5] (t.size - 1) (fun g v5 wr => ∃ (n : Nat) (bu : List UInt8), v5 = .int .i64 (n : Int) ∧ Hid (g = t.size - n) ∧ 1 ≤ n ∧ n ≤ t.size ∧ Hid (text [] 1 r = text bu n (t.data.toList.drop n)) ∧ Hid (bu.length ≤ n) ∧ Hid (Lib.IsBuilder 57 5 B0 B0 (Lib.byteCells bu) wr) ∧ Hid (RS wr B b s (q : Int) l why fat) ∧ Hid (Below B0 w wr))
  case atStart => exact ⟨1, [], rfl, Lib.hid rfl, Nat.le_refl _, hz1, Lib.hid (by rw [HTL.out]; rfl), Lib.hid (Nat.zero_le _), HIB0, HR0, Lib.hid (below_drewN HBL0.out _)⟩
  case round =>
    obtain ⟨n, bu, rfl, hg, hn1, hn2, HTX, HBU, HIB, HRr, HBL⟩ := hrel
    clear c0 c1 HIB0 HR0 HBL0
    obtain ⟨h0, v, hb, ho⟩ := id HRr.out
    have c0 := hb.cell 0
    have c1 := hb.cell 1
    simp at c0 c1
    clear hb ho
    have hbl2 : Below B w wr := HBL.out.mono (HB0.out ▸ HBW.out)
    have HBB := Lib.hid hbl2
    have HF0 := Lib.hid (fail_any wr B b s (q : Int) l why fat 7 (q : Int) HRr.out)
    have HF := Lib.hid (fail_any wr B b s (q : Int) l why fat 7 ((q : Int) + (n : Int)) HRr.out)
    clear hbl2
    cases hdr : t.data.toList.drop n with
    | nil =>
      have hnz : n = t.size := by rw [List.drop_eq_nil_iff, ← Lib.size_eq] at hdr; omega
      have hnum := Lib.hid (show text [] 1 r = .bad 7 0 by rw [HTX.out, hdr]; rfl)
      have hnb : decide (n < t.size) = false := decide_eq_false (by omega)
      clear hnz hdr hg hn1 hn2
      go_wp2_with (first
        | (go_at_call 28; (with_reducible refine (HI.out _).mono ?_); rintro e w2 ⟨rfl, rfl⟩)
        | (go_at_call 45; (with_reducible refine HWB.out.mono ?_); rintro e w2 ⟨rfl, hbu2, hb2⟩)
        | (go_at_call 44; (with_reducible refine HST.out.mono ?_); rintro e w2 ⟨rfl, hb2⟩; have HB2 := Lib.hid hb2; clear hb2; have c12 := HCC.out _ (HBL.out.trans HB2.out))
        | (go_at_call 31; (with_reducible refine HF.out.mono ?_); rintro e w3 ⟨rfl, hr3, hb3⟩)
        | (go_at_call 31; (with_reducible refine HF0.out.mono ?_); rintro e w3 ⟨rfl, hr3, hb3⟩)
        | (go_at_call 32; refine (add_any _ B b s (q : Int) l why fat 3 ⟨bu.toArray⟩ 0 0 ((n : Int) + 1) (HRB.out _ (HBL.out.trans HB2.out)) HLL.out (by omega) (by omega) (by omega) (by omega) (Nat.le_trans (Nat.le_trans HBW.out (Nat.le_trans HBL.out.size (Nat.le_refl _))) HB2.out.size)).mono ?_; rintro e w3 ⟨rfl, hr3, hb3⟩))
      go_ret
      exact ⟨HBB.out.trans hb3, by rw [hnum.out]; exact ⟨rfl, hr3⟩⟩
    | cons c rest =>
      have hn : n < t.size := by rcases Nat.lt_or_ge n t.size with h | h; exact h; rw [List.drop_eq_nil_of_le (by rw [← Lib.size_eq]; exact h)] at hdr; cases hdr
      obtain ⟨hbn, _, hdr2⟩ := bt_of t n c rest hdr
      have hnb : decide (n < t.size) = true := decide_eq_true hn
      have hxn : ∀ h : n < t.size, ((t[n]'h).toNat : Int) = bt t n := bt_at t n
      have htxt := text_cons bu n c rest
      rw [← hdr, ← HTX.out] at htxt
      have HTT := Lib.hid htxt
      clear htxt
      by_cases h34 : c = 34
      · subst h34
        have hbn' : bt t n = 34 := hbn
        have hnum := Lib.hid (show text [] 1 r = .tok 3 bu 0 (n + 1) by rw [HTT.out]; rfl)
        have HST := Lib.hid (Tryd.Builder_String_any B0 B0 bu wr HIB.out (Nat.le_trans (Nat.le_of_eq HB0.out.symm) (HB0.out ▸ HBL.out.size)))
        have hn65 : (n : Int) + 1 ≤ 65536 := by omega
        have hn0 : 0 ≤ (n : Int) + 1 := by omega
        have HBR : Hid (B ≤ wr.heap.size) := Lib.hid (Nat.le_trans HBW.out HBB.out.size)
        have HLB := Lib.hid (Nat.le_of_eq HB0.out.symm)
        clear hbn hdr hdr2 hg HTT
        go_wp2_with (first
          | (go_at_call 28; (with_reducible refine (HI.out _).mono ?_); rintro e w2 ⟨rfl, rfl⟩)
          | (go_at_call 45; (with_reducible refine HWB.out.mono ?_); rintro e w2 ⟨rfl, hbu2, hb2⟩)
          | (go_at_call 44; (with_reducible refine HST.out.mono ?_); rintro e w2 ⟨rfl, hb2⟩; have HB2 := Lib.hid hb2; clear hb2; have c12 := HCC.out _ (HBL.out.trans HB2.out))
          | (go_at_call 31; (with_reducible refine HF.out.mono ?_); rintro e w3 ⟨rfl, hr3, hb3⟩)
          | (go_at_call 31; (with_reducible refine HF0.out.mono ?_); rintro e w3 ⟨rfl, hr3, hb3⟩)
          | (go_at_call 32; refine (add_any _ B b s (q : Int) l why fat 3 ⟨bu.toArray⟩ 0 0 ((n : Int) + 1) (HRB.out _ (HBL.out.trans HB2.out)) HLL.out (by omega) (by omega) (by omega) (by omega) (Nat.le_trans (Nat.le_trans HBW.out (Nat.le_trans HBL.out.size (Nat.le_refl _))) HB2.out.size)).mono ?_; rintro e w3 ⟨rfl, hr3, hb3⟩))
        go_ret
        exact ⟨HBB.out.trans ((HB2.out.mono (HB0.out ▸ HBW.out)).trans hb3), by rw [hnum.out]; exact ⟨rfl, hr3⟩⟩
      · have h34b : (bt t n == 34) = false := by rw [hbn]; exact beq_eq_false_iff_ne.mpr (fun x => h34 (UInt8.toNat_inj.mp (by have e : (34 : UInt8).toNat = 34 := rfl; omega)))
        by_cases h10 : c = 10
        · subst h10
          have hbn' : bt t n = 10 := hbn
          have hnum := Lib.hid (show text [] 1 r = .bad 7 n by rw [HTT.out]; rfl)
          clear hbn hdr hdr2 hg HTT h34 h34b
          go_wp2_with (first
            | (go_at_call 28; (with_reducible refine (HI.out _).mono ?_); rintro e w2 ⟨rfl, rfl⟩)
            | (go_at_call 45; (with_reducible refine HWB.out.mono ?_); rintro e w2 ⟨rfl, hbu2, hb2⟩)
            | (go_at_call 44; (with_reducible refine HST.out.mono ?_); rintro e w2 ⟨rfl, hb2⟩; have HB2 := Lib.hid hb2; clear hb2; have c12 := HCC.out _ (HBL.out.trans HB2.out))
            | (go_at_call 31; (with_reducible refine HF.out.mono ?_); rintro e w3 ⟨rfl, hr3, hb3⟩)
            | (go_at_call 31; (with_reducible refine HF0.out.mono ?_); rintro e w3 ⟨rfl, hr3, hb3⟩)
            | (go_at_call 32; refine (add_any _ B b s (q : Int) l why fat 3 ⟨bu.toArray⟩ 0 0 ((n : Int) + 1) (HRB.out _ (HBL.out.trans HB2.out)) HLL.out (by omega) (by omega) (by omega) (by omega) (Nat.le_trans (Nat.le_trans HBW.out (Nat.le_trans HBL.out.size (Nat.le_refl _))) HB2.out.size)).mono ?_; rintro e w3 ⟨rfl, hr3, hb3⟩))
          go_ret
          exact ⟨HBB.out.trans hb3, by rw [hnum.out]; exact ⟨rfl, hr3⟩⟩
        · have h10b : (bt t n == 10) = false := by rw [hbn]; exact beq_eq_false_iff_ne.mpr (fun x => h10 (UInt8.toNat_inj.mp (by have e : (10 : UInt8).toNat = 10 := rfl; omega)))
          by_cases h92 : c = 92
          · subst h92
            have hbn' : bt t n = 92 := hbn
            cases rest with
            | nil =>
              have hnum := Lib.hid (show text [] 1 r = .bad 7 n by rw [HTT.out]; rfl)
              have hn1b : decide (n + 1 < t.size) = false := decide_eq_false (by rw [List.drop_eq_nil_iff, ← Lib.size_eq] at hdr2; omega)
              have hn1c : decide ((n : Int) + 1 < (t.size : Int)) = false := decide_eq_false (by rw [List.drop_eq_nil_iff, ← Lib.size_eq] at hdr2; omega)
              clear hbn hdr hdr2 hg HTT h34 h34b h10 h10b
              go_wp2_with (first
                | (go_at_call 28; (with_reducible refine (HI.out _).mono ?_); rintro e w2 ⟨rfl, rfl⟩)
                | (go_at_call 45; (with_reducible refine HWB.out.mono ?_); rintro e w2 ⟨rfl, hbu2, hb2⟩)
                | (go_at_call 44; (with_reducible refine HST.out.mono ?_); rintro e w2 ⟨rfl, hb2⟩; have HB2 := Lib.hid hb2; clear hb2; have c12 := HCC.out _ (HBL.out.trans HB2.out))
                | (go_at_call 31; (with_reducible refine HF.out.mono ?_); rintro e w3 ⟨rfl, hr3, hb3⟩)
                | (go_at_call 31; (with_reducible refine HF0.out.mono ?_); rintro e w3 ⟨rfl, hr3, hb3⟩)
                | (go_at_call 32; refine (add_any _ B b s (q : Int) l why fat 3 ⟨bu.toArray⟩ 0 0 ((n : Int) + 1) (HRB.out _ (HBL.out.trans HB2.out)) HLL.out (by omega) (by omega) (by omega) (by omega) (Nat.le_trans (Nat.le_trans HBW.out (Nat.le_trans HBL.out.size (Nat.le_refl _))) HB2.out.size)).mono ?_; rintro e w3 ⟨rfl, hr3, hb3⟩))
              go_ret
              exact ⟨HBB.out.trans hb3, by rw [hnum.out]; exact ⟨rfl, hr3⟩⟩
            | cons d rest =>
              have hnn : n + 1 < t.size := by rcases Nat.lt_or_ge (n + 1) t.size with h | h; exact h; rw [List.drop_eq_nil_of_le (by rw [← Lib.size_eq]; exact h)] at hdr2; cases hdr2
              obtain ⟨hbd, _, hdr3⟩ := bt_of t (n + 1) d rest hdr2
              push_cast at hbd
              have hn1b : decide (n + 1 < t.size) = true := decide_eq_true hnn
              have hn1c : decide ((n : Int) + 1 < (t.size : Int)) = true := decide_eq_true (by omega)
              have hxd : ∀ h : n + 1 < t.size, ((t[n + 1]'h).toNat : Int) = bt t ((n : Int) + 1) := by have := bt_at t (n + 1); push_cast at this; exact this
              have hI : ∀ w, Calls Tryd.prog 28 #[.string ⟨#[34, 92, 110, 116]⟩, .int .u8 (bt t ((n : Int) + 1))] w fun e w' => e = .returned (.int .i64 (Lib.indexByte [34, 92, 110, 116] d)) ∧ w' = w := fun w => by
                have := Tryd.strings_IndexByte ⟨#[34, 92, 110, 116]⟩ (bt t ((n : Int) + 1)) w
                have hc : (bt t ((n : Int) + 1)).toNat.toUInt8 = d := by rw [hbd, Int.toNat_natCast]; exact UInt8.ofNat_toNat
                rw [hc] at this
                exact this
              rw [esc_index] at hI
              have HTT2 := Lib.hid (show text [] 1 r = match esc d with | none => .bad 7 n | some e => text (bu ++ [e]) (n + 2) rest by rw [HTT.out]; rfl)
              cases hed : esc d with
              | none =>
                rw [hed] at hI
                have HI := Lib.hid hI
                have hnum := Lib.hid (show text [] 1 r = .bad 7 n by rw [HTT2.out, hed])
                clear hI hed HTT2 hbd hbn hdr hdr2 hdr3 hg HTT h34 h34b h10 h10b
                go_wp2_with (first
                  | (go_at_call 28; (with_reducible refine (HI.out _).mono ?_); rintro e w2 ⟨rfl, rfl⟩)
                  | (go_at_call 45; (with_reducible refine HWB.out.mono ?_); rintro e w2 ⟨rfl, hbu2, hb2⟩)
                  | (go_at_call 44; (with_reducible refine HST.out.mono ?_); rintro e w2 ⟨rfl, hb2⟩; have HB2 := Lib.hid hb2; clear hb2; have c12 := HCC.out _ (HBL.out.trans HB2.out))
                  | (go_at_call 31; (with_reducible refine HF.out.mono ?_); rintro e w3 ⟨rfl, hr3, hb3⟩)
                  | (go_at_call 31; (with_reducible refine HF0.out.mono ?_); rintro e w3 ⟨rfl, hr3, hb3⟩)
                  | (go_at_call 32; refine (add_any _ B b s (q : Int) l why fat 3 ⟨bu.toArray⟩ 0 0 ((n : Int) + 1) (HRB.out _ (HBL.out.trans HB2.out)) HLL.out (by omega) (by omega) (by omega) (by omega) (Nat.le_trans (Nat.le_trans HBW.out (Nat.le_trans HBL.out.size (Nat.le_refl _))) HB2.out.size)).mono ?_; rintro e w3 ⟨rfl, hr3, hb3⟩))
                go_ret
                exact ⟨HBB.out.trans hb3, by rw [hnum.out]; exact ⟨rfl, hr3⟩⟩
              | some x =>
                rw [hed] at hI
                have hx := esc_some hed
                have hnum := Lib.hid (show text [] 1 r = text (bu ++ [x]) (n + 2) (t.data.toList.drop (n + 2)) by rw [HTT2.out, hed, hdr3])
                clear hed HTT2 hbd hbn hdr hdr2 hdr3 HTT h34 h34b h10 h10b
                rcases hx with rfl | rfl | rfl | rfl
                · have HI := Lib.hid hI
                  have HWB := Lib.hid (wb_calls (B := B0) (b := B0) HIB.out (by have := HBU.out; omega) (Nat.le_trans (Nat.le_of_eq HB0.out.symm) (HB0.out ▸ HBL.out.size)) 34 ((((⟨#[34, 92, 10, 9]⟩ : ByteArray)[0]'(by decide)).toNat : Nat) : Int) rfl)
                  clear hI
                  go_wp2_with (first
                    | (go_at_call 28; (with_reducible refine (HI.out _).mono ?_); rintro e w2 ⟨rfl, rfl⟩)
                    | (go_at_call 45; (with_reducible refine HWB.out.mono ?_); rintro e w2 ⟨rfl, hbu2, hb2⟩)
                    | (go_at_call 44; (with_reducible refine HST.out.mono ?_); rintro e w2 ⟨rfl, hb2⟩; have HB2 := Lib.hid hb2; clear hb2; have c12 := H34.out _ (HBL.out.trans HB2.out))
                    | (go_at_call 31; (with_reducible refine HF.out.mono ?_); rintro e w3 ⟨rfl, hr3, hb3⟩)
                    | (go_at_call 31; (with_reducible refine HF0.out.mono ?_); rintro e w3 ⟨rfl, hr3, hb3⟩)
                    | (go_at_call 32; refine (add_any _ B b s (q : Int) l why fat 3 ⟨bu.toArray⟩ 0 0 ((n : Int) + 1) (HRB.out _ (HBL.out.trans HB2.out)) HLL.out (by omega) (by omega) (by omega) (by omega) (Nat.le_trans (Nat.le_trans HBW.out (Nat.le_trans HBL.out.size (Nat.le_refl _))) HB2.out.size)).mono ?_; rintro e w3 ⟨rfl, hr3, hb3⟩))
                  go_roundg (gk - 2)
                  case measure => have := hg.out; omega
                  case rel => exact ⟨n + 2, bu ++ [34], by push_cast; rfl, Lib.hid (by have := hg.out; omega), by omega, by omega, hnum, Lib.hid (by rw [List.length_append]; have := HBU.out; simp; omega), Lib.hid hbu2, Lib.hid (HRB.out _ (HBL.out.trans hb2)), Lib.hid (HBL.out.trans hb2)⟩
                · have HI := Lib.hid hI
                  have HWB := Lib.hid (wb_calls (B := B0) (b := B0) HIB.out (by have := HBU.out; omega) (Nat.le_trans (Nat.le_of_eq HB0.out.symm) (HB0.out ▸ HBL.out.size)) 92 ((((⟨#[34, 92, 10, 9]⟩ : ByteArray)[1]'(by decide)).toNat : Nat) : Int) rfl)
                  clear hI
                  go_wp2_with (first
                    | (go_at_call 28; (with_reducible refine (HI.out _).mono ?_); rintro e w2 ⟨rfl, rfl⟩)
                    | (go_at_call 45; (with_reducible refine HWB.out.mono ?_); rintro e w2 ⟨rfl, hbu2, hb2⟩)
                    | (go_at_call 44; (with_reducible refine HST.out.mono ?_); rintro e w2 ⟨rfl, hb2⟩; have HB2 := Lib.hid hb2; clear hb2; have c12 := H92.out _ (HBL.out.trans HB2.out))
                    | (go_at_call 31; (with_reducible refine HF.out.mono ?_); rintro e w3 ⟨rfl, hr3, hb3⟩)
                    | (go_at_call 31; (with_reducible refine HF0.out.mono ?_); rintro e w3 ⟨rfl, hr3, hb3⟩)
                    | (go_at_call 32; refine (add_any _ B b s (q : Int) l why fat 3 ⟨bu.toArray⟩ 0 0 ((n : Int) + 1) (HRB.out _ (HBL.out.trans HB2.out)) HLL.out (by omega) (by omega) (by omega) (by omega) (Nat.le_trans (Nat.le_trans HBW.out (Nat.le_trans HBL.out.size (Nat.le_refl _))) HB2.out.size)).mono ?_; rintro e w3 ⟨rfl, hr3, hb3⟩))
                  go_roundg (gk - 2)
                  case measure => have := hg.out; omega
                  case rel => exact ⟨n + 2, bu ++ [92], by push_cast; rfl, Lib.hid (by have := hg.out; omega), by omega, by omega, hnum, Lib.hid (by rw [List.length_append]; have := HBU.out; simp; omega), Lib.hid hbu2, Lib.hid (HRB.out _ (HBL.out.trans hb2)), Lib.hid (HBL.out.trans hb2)⟩
                · have HI := Lib.hid hI
                  have HWB := Lib.hid (wb_calls (B := B0) (b := B0) HIB.out (by have := HBU.out; omega) (Nat.le_trans (Nat.le_of_eq HB0.out.symm) (HB0.out ▸ HBL.out.size)) 10 ((((⟨#[34, 92, 10, 9]⟩ : ByteArray)[2]'(by decide)).toNat : Nat) : Int) rfl)
                  clear hI
                  go_wp2_with (first
                    | (go_at_call 28; (with_reducible refine (HI.out _).mono ?_); rintro e w2 ⟨rfl, rfl⟩)
                    | (go_at_call 45; (with_reducible refine HWB.out.mono ?_); rintro e w2 ⟨rfl, hbu2, hb2⟩)
                    | (go_at_call 44; (with_reducible refine HST.out.mono ?_); rintro e w2 ⟨rfl, hb2⟩; have HB2 := Lib.hid hb2; clear hb2; have c12 := H10.out _ (HBL.out.trans HB2.out))
                    | (go_at_call 31; (with_reducible refine HF.out.mono ?_); rintro e w3 ⟨rfl, hr3, hb3⟩)
                    | (go_at_call 31; (with_reducible refine HF0.out.mono ?_); rintro e w3 ⟨rfl, hr3, hb3⟩)
                    | (go_at_call 32; refine (add_any _ B b s (q : Int) l why fat 3 ⟨bu.toArray⟩ 0 0 ((n : Int) + 1) (HRB.out _ (HBL.out.trans HB2.out)) HLL.out (by omega) (by omega) (by omega) (by omega) (Nat.le_trans (Nat.le_trans HBW.out (Nat.le_trans HBL.out.size (Nat.le_refl _))) HB2.out.size)).mono ?_; rintro e w3 ⟨rfl, hr3, hb3⟩))
                  go_roundg (gk - 2)
                  case measure => have := hg.out; omega
                  case rel => exact ⟨n + 2, bu ++ [10], by push_cast; rfl, Lib.hid (by have := hg.out; omega), by omega, by omega, hnum, Lib.hid (by rw [List.length_append]; have := HBU.out; simp; omega), Lib.hid hbu2, Lib.hid (HRB.out _ (HBL.out.trans hb2)), Lib.hid (HBL.out.trans hb2)⟩
                · have HI := Lib.hid hI
                  have HWB := Lib.hid (wb_calls (B := B0) (b := B0) HIB.out (by have := HBU.out; omega) (Nat.le_trans (Nat.le_of_eq HB0.out.symm) (HB0.out ▸ HBL.out.size)) 9 ((((⟨#[34, 92, 10, 9]⟩ : ByteArray)[3]'(by decide)).toNat : Nat) : Int) rfl)
                  clear hI
                  go_wp2_with (first
                    | (go_at_call 28; (with_reducible refine (HI.out _).mono ?_); rintro e w2 ⟨rfl, rfl⟩)
                    | (go_at_call 45; (with_reducible refine HWB.out.mono ?_); rintro e w2 ⟨rfl, hbu2, hb2⟩)
                    | (go_at_call 44; (with_reducible refine HST.out.mono ?_); rintro e w2 ⟨rfl, hb2⟩; have HB2 := Lib.hid hb2; clear hb2; have c12 := H9.out _ (HBL.out.trans HB2.out))
                    | (go_at_call 31; (with_reducible refine HF.out.mono ?_); rintro e w3 ⟨rfl, hr3, hb3⟩)
                    | (go_at_call 31; (with_reducible refine HF0.out.mono ?_); rintro e w3 ⟨rfl, hr3, hb3⟩)
                    | (go_at_call 32; refine (add_any _ B b s (q : Int) l why fat 3 ⟨bu.toArray⟩ 0 0 ((n : Int) + 1) (HRB.out _ (HBL.out.trans HB2.out)) HLL.out (by omega) (by omega) (by omega) (by omega) (Nat.le_trans (Nat.le_trans HBW.out (Nat.le_trans HBL.out.size (Nat.le_refl _))) HB2.out.size)).mono ?_; rintro e w3 ⟨rfl, hr3, hb3⟩))
                  go_roundg (gk - 2)
                  case measure => have := hg.out; omega
                  case rel => exact ⟨n + 2, bu ++ [9], by push_cast; rfl, Lib.hid (by have := hg.out; omega), by omega, by omega, hnum, Lib.hid (by rw [List.length_append]; have := HBU.out; simp; omega), Lib.hid hbu2, Lib.hid (HRB.out _ (HBL.out.trans hb2)), Lib.hid (HBL.out.trans hb2)⟩
          · have h92b : (bt t n == 92) = false := by rw [hbn]; exact beq_eq_false_iff_ne.mpr (fun x => h92 (UInt8.toNat_inj.mp (by have e : (92 : UInt8).toNat = 92 := rfl; omega)))
            have hnum := Lib.hid (show text [] 1 r = text (bu ++ [c]) (n + 1) (t.data.toList.drop (n + 1)) by rw [HTT.out, if_neg h34, if_neg h10, if_neg h92, hdr2])
            have HWB := Lib.hid (wb_calls (B := B0) (b := B0) HIB.out (by have := HBU.out; omega) (Nat.le_trans (Nat.le_of_eq HB0.out.symm) (HB0.out ▸ HBL.out.size)) c _ hbn)
            clear hbn hdr hdr2 HTT h34 h10 h92
            go_wp2_with (first
              | (go_at_call 28; (with_reducible refine (HI.out _).mono ?_); rintro e w2 ⟨rfl, rfl⟩)
              | (go_at_call 45; (with_reducible refine HWB.out.mono ?_); rintro e w2 ⟨rfl, hbu2, hb2⟩)
              | (go_at_call 44; (with_reducible refine HST.out.mono ?_); rintro e w2 ⟨rfl, hb2⟩; have HB2 := Lib.hid hb2; clear hb2; have c12 := Hc.out _ (HBL.out.trans HB2.out))
              | (go_at_call 31; (with_reducible refine HF.out.mono ?_); rintro e w3 ⟨rfl, hr3, hb3⟩)
              | (go_at_call 31; (with_reducible refine HF0.out.mono ?_); rintro e w3 ⟨rfl, hr3, hb3⟩)
              | (go_at_call 32; refine (add_any _ B b s (q : Int) l why fat 3 ⟨bu.toArray⟩ 0 0 ((n : Int) + 1) (HRB.out _ (HBL.out.trans HB2.out)) HLL.out (by omega) (by omega) (by omega) (by omega) (Nat.le_trans (Nat.le_trans HBW.out (Nat.le_trans HBL.out.size (Nat.le_refl _))) HB2.out.size)).mono ?_; rintro e w3 ⟨rfl, hr3, hb3⟩))
            go_roundg (gk - 1)
            case measure => have := hg.out; omega
            case rel => exact ⟨n + 1, bu ++ [c], by push_cast; rfl, Lib.hid (by have := hg.out; omega), by omega, by omega, hnum, Lib.hid (by rw [List.length_append]; have := HBU.out; simp; omega), Lib.hid hbu2, Lib.hid (HRB.out _ (HBL.out.trans hb2)), Lib.hid (HBL.out.trans hb2)⟩
end Go.Proofs.YtafndkgoeabehaaDoor.LexText
