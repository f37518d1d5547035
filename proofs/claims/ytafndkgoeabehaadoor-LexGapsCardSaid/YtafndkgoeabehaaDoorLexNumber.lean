/- (*reader).number: walked. -/
import Derived.Test.YtafndkgoeabehaaDoorLexGaps
import Derived.Test.YtafndkgoeabehaaDoorLexTook
import Derived.Test.YtafndkgoeabehaaDoorLexNumP
import Derived.Test.YtafndkgoeabehaaDoorNumParse
import Derived.Deep.LoopGhost
namespace Go.Proofs.YtafndkgoeabehaaDoor.LexNumber
open Go Go.RowKit Go.Proofs.YtafndkgoeabehaaDoor.NumPure Go.Proofs.YtafndkgoeabehaaDoor.NumRead Go.Proofs.YtafndkgoeabehaaDoor.NumParse Go.Proofs.YtafndkgoeabehaaDoor.LexPure Go.Proofs.YtafndkgoeabehaaDoor.LexGap Go.Proofs.YtafndkgoeabehaaDoor.LexMem Go.Proofs.YtafndkgoeabehaaDoor.LexWord Go.Proofs.YtafndkgoeabehaaDoor.LexGaps Go.Proofs.YtafndkgoeabehaaDoor.LexNumP Go.Proofs.YtafndkgoeabehaaDoor.LexTook Go.Proofs.YtafndkgoeabehaaDoor.Pword Go.Proofs.YtafndkgoeabehaaDoorW.PrintWords

theorem digit_calls (c : UInt8) (x : Int) (hx : x = c.toNat) (w : World) : Calls Tryd.prog 33 #[.int .u8 x] w fun e w' => e = .returned (.bool (dig c)) ∧ Drawn0 w w' := by
  subst hx
  exact lex_digit.calls _ _ w (digit_is c)
theorem letter_calls (c : UInt8) (x : Int) (hx : x = c.toNat) (w : World) : Calls Tryd.prog 39 #[.int .u8 x] w fun e w' => e = .returned (.bool (letter c)) ∧ Drawn0 w w' := by
  subst hx
  exact lex_letter.calls _ _ w (letter_is c)
theorem err_belowB {B : Nat} {w w' : World} (h : Below B w w') (hB : 2 < B) (t : ErrVar w) : ErrVar w' := by
  obtain ⟨te, pe, hc⟩ := t
  exact ⟨te, pe, (h.cell (p := ⟨2, 0, none⟩) hB).trans hc⟩
theorem err_drewN {w : World} (t : ErrVar w) (n : Nat) : ErrVar (w.drewN n) := t

set_option maxRecDepth 100000 in
set_option maxHeartbeats 4000000 in
theorem number_any (w : World) (B b : Nat) (s : ByteArray) (q : Nat) (l : List Tk) (why fat : Int) (c : UInt8) (r : List UInt8) (h : RS w B b s (q : Int) l why fat) (hq : q ≤ s.size) (hs : s.size ≤ 65536) (hB : 2 < B) (hBw : B ≤ w.heap.size) (hl : l.length ≤ 65536) (he : ErrVar w) (hcr : s.data.toList.drop q = c :: r) (hc : dig c = true) :
    Calls Tryd.prog 34 #[.pointer (some ⟨b, 0, none⟩)] w fun e w' => Below B w w' ∧ Took w' e B b s q l why fat (number (c :: r)) := by
  have hz : s.size = s.data.toList.length := Lib.size_eq s
  obtain ⟨h0, v, hb, ho⟩ := id h
  have c0 := hb.cell 0
  have c1 := hb.cell 1
  simp at c0 c1
  obtain ⟨t, ht⟩ : ∃ t, s.extract q s.size = t := ⟨_, rfl⟩
  have htl : t.data.toList = c :: r := by rw [← ht, drop_data s q, hcr]
  have htz : t.size = s.size - q := by rw [Lib.size_eq, ← ht, drop_data, List.length_drop, ← hz]
  have htb : t.size ≤ 65536 := by omega
  have hb0 : bt t 0 = (c.toNat : Int) := (bt_of t 0 c r (by rw [htl]; rfl)).1
  have hx : ∀ h : 0 < t.size, ((t[0]'h).toNat : Int) = bt t 0 := bt_at t 0
  have hz0 : 0 < t.size := by rw [Lib.size_eq, htl]; simp
  obtain ⟨N, hN⟩ : ∃ N, numLen (c :: r) = N := ⟨_, rfl⟩
  have hNl := numLen_le c r
  rw [hN] at hNl
  have hlen : (c :: r).length = t.size := by rw [Lib.size_eq, htl]
  have HR := Lib.hid h
  have HB := Lib.hid hB
  have HBW := Lib.hid hBw
  have HLL := Lib.hid hl
  have HER := Lib.hid he
  have HTZ := Lib.hid htz
  have HTL := Lib.hid htl
  have HNV := Lib.hid hN
  have HB0 := Lib.hid hb0
  have HLEN := Lib.hid hlen
  have h1N : 1 ≤ N := hNl.1
  have hNt : N ≤ t.size := by omega
  have HF7 := Lib.hid (fun nq : Nat => fail_any (w.drewN nq) B b s (q : Int) l why fat 7 ((q : Int) + (N : Int)) (h.drewN _))
  clear h hB hBw hl he htz htl hN hb0 hlen hNl hz hcr hb ho
  go_enter Tryd.func34, Tryd.ntmps34
  go_wp2
  go_quiet (fail)
  go_wp2
  go_loopg [4] (N - 1) (fun g v4 wr => ∃ n : Nat, v4 = .int .i64 (n : Int) ∧ Aside0 (g = N - n) ∧ 1 ≤ n ∧ n ≤ N ∧ Drawn0 w wr)
  case atStart => exact ⟨1, rfl, ⟨rfl⟩, by omega, by omega, ⟨⟨_, rfl⟩⟩⟩
  case round =>
    obtain ⟨n, rfl, hg, hn1, hn2, ⟨nw, rfl⟩⟩ := hrel
    by_cases hlt : n < N
    · have hc48 : c ≠ 48 := by
        rintro rfl
        have := HNV.out
        rw [numLen_zero] at this
        omega
      obtain ⟨d, hd1, hd2⟩ := (numLen_at c r hc48 n hn1 (by rw [HNV.out]; omega)).1 (by rw [HNV.out]; exact hlt)
      have hdr : ∃ rest, t.data.toList.drop n = d :: rest := by
        rw [HTL.out]
        cases hh : (c :: r).drop n with
        | nil => rw [← Nat.add_zero n, ← List.getElem?_drop, hh] at hd1; cases hd1
        | cons d' rest => rw [← Nat.add_zero n, ← List.getElem?_drop, hh] at hd1; simp at hd1; exact ⟨rest, by rw [hd1]⟩
      obtain ⟨rest, hdr⟩ := hdr
      obtain ⟨hbn, hbs, _⟩ := bt_of t n d rest hdr
      have hnb : decide (n < t.size) = true := decide_eq_true (by omega)
      have hxn : ∀ h : n < t.size, ((t[n]'h).toNat : Int) = bt t n := bt_at t n
      have hHD := digit_calls d _ hbn
      rw [hd2] at hHD
      have HD0 := Lib.hid hHD
      have h48 : ((bt t 0) != 48) = true := by rw [HB0.out]; exact bne_iff_ne.mpr (fun x => hc48 (UInt8.toNat_inj.mp (by have e : (48 : UInt8).toNat = 48 := rfl; omega)))
      have h48b : ((bt t 0) == 48) = false := by rw [HB0.out]; exact beq_eq_false_iff_ne.mpr (fun x => hc48 (UInt8.toNat_inj.mp (by have e : (48 : UInt8).toNat = 48 := rfl; omega)))
      clear hHD hbn hd1 hd2 hdr hc48
      go_wp2_with (first
  | (go_at_call 33; (with_reducible refine (HD0.out _).mono ?_); rintro e w2 ⟨rfl, ⟨nd, rfl⟩⟩)
  | (go_at_call 39; (with_reducible refine (HL0.out _).mono ?_); rintro e w2 ⟨rfl, ⟨nd, rfl⟩⟩)
  | (go_at_call 43; (with_reducible refine (HPA.out _ (err_drewN HER.out _)).mono ?_); rintro e w2 ⟨rfl, hb2⟩; have HB2 := Lib.hid hb2; clear hb2; have c12 := cell1_below (HR.out.drewN _) HB2.out)
  | (go_at_call 31; (with_reducible refine (HF7.out _).mono ?_); rintro e w3 ⟨rfl, hr3, hb3⟩)
  | (go_at_call 31; (with_reducible refine (HFP.out _ _ HB2.out).mono ?_); rintro e w3 ⟨rfl, hr3, hb3⟩)
  | (go_at_call 32; (refine (HAP.out _ _ HB2.out).mono ?_); rintro e w3 ⟨rfl, hr3, hb3⟩))
      go_roundg (gk - 1)
      case measure => have := hg.out; omega
      case rel => exact ⟨n + 1, by push_cast; rfl, ⟨by have := hg.out; omega⟩, by omega, by omega, ⟨⟨_, rfl⟩⟩⟩
    · have hnN : n = N := by omega
      rw [hnN]
      clear hnN hn1 hn2
      by_cases hc48 : c = 48
      · have h48 : ((bt t 0) != 48) = false := by rw [HB0.out, hc48]; rfl
        have h48b : ((bt t 0) == 48) = true := by rw [HB0.out, hc48]; rfl
        clear hlt hg
        by_cases hNs : N < t.size
        · obtain ⟨d, rest, hdr⟩ : ∃ d rest, t.data.toList.drop N = d :: rest := by
            cases hh : t.data.toList.drop N with
            | nil => rw [List.drop_eq_nil_iff, ← Lib.size_eq] at hh; omega
            | cons d rest => exact ⟨d, rest, rfl⟩
          obtain ⟨hbN, _, _⟩ := bt_of t N d rest hdr
          have hNb : decide (N < t.size) = true := decide_eq_true hNs
          have hxN : ∀ h : N < t.size, ((t[N]'h).toNat : Int) = bt t N := bt_at t N
          have hHD := digit_calls d _ hbN
          have hHL := letter_calls d _ hbN
          have hsd : stands ((c :: r).drop N) = (dig d || letter d) := by rw [← HTL.out, hdr]; rfl
          clear hbN
          by_cases hdd : dig d = true
          · rw [hdd] at hHD
            have HD0 := Lib.hid hHD
            have HL0 := Lib.hid hHL
            have hnum : number (c :: r) = .bad 7 N := by unfold number; rw [HNV.out, if_pos (by rw [hsd, hdd]; rfl)]
            have HNUM := Lib.hid hnum
            clear hnum hsd hHD hHL hdd hdr hNs
            go_wp2_with (first
              | (go_at_call 33; (with_reducible refine (HD0.out _).mono ?_); rintro e w2 ⟨rfl, ⟨nd, rfl⟩⟩)
              | (go_at_call 39; (with_reducible refine (HL0.out _).mono ?_); rintro e w2 ⟨rfl, ⟨nd, rfl⟩⟩)
              | (go_at_call 43; (with_reducible refine (HPA.out _ (err_drewN HER.out _)).mono ?_); rintro e w2 ⟨rfl, hb2⟩; have HB2 := Lib.hid hb2; clear hb2; have c12 := cell1_below (HR.out.drewN _) HB2.out)
              | (go_at_call 31; (with_reducible refine (HF7.out _).mono ?_); rintro e w3 ⟨rfl, hr3, hb3⟩)
              | (go_at_call 31; (with_reducible refine (HFP.out _ _ HB2.out).mono ?_); rintro e w3 ⟨rfl, hr3, hb3⟩)
              | (go_at_call 32; (refine (HAP.out _ _ HB2.out).mono ?_); rintro e w3 ⟨rfl, hr3, hb3⟩))
            go_ret
            exact ⟨(below_draws HBW.out).trans hb3, by rw [HNUM.out]; exact ⟨rfl, hr3⟩⟩
          · have hdf : dig d = false := Bool.eq_false_iff.2 hdd
            rw [hdf] at hHD
            have HD0 := Lib.hid hHD
            by_cases hld : letter d = true
            · rw [hld] at hHL
              have HL0 := Lib.hid hHL
              have hnum : number (c :: r) = .bad 7 N := by unfold number; rw [HNV.out, if_pos (by rw [hsd, hld]; simp)]
              have HNUM := Lib.hid hnum
              clear hnum hsd hHD hHL hld hdf hdr hNs
              go_wp2_with (first
                | (go_at_call 33; (with_reducible refine (HD0.out _).mono ?_); rintro e w2 ⟨rfl, ⟨nd, rfl⟩⟩)
                | (go_at_call 39; (with_reducible refine (HL0.out _).mono ?_); rintro e w2 ⟨rfl, ⟨nd, rfl⟩⟩)
                | (go_at_call 43; (with_reducible refine (HPA.out _ (err_drewN HER.out _)).mono ?_); rintro e w2 ⟨rfl, hb2⟩; have HB2 := Lib.hid hb2; clear hb2; have c12 := cell1_below (HR.out.drewN _) HB2.out)
                | (go_at_call 31; (with_reducible refine (HF7.out _).mono ?_); rintro e w3 ⟨rfl, hr3, hb3⟩)
                | (go_at_call 31; (with_reducible refine (HFP.out _ _ HB2.out).mono ?_); rintro e w3 ⟨rfl, hr3, hb3⟩)
                | (go_at_call 32; (refine (HAP.out _ _ HB2.out).mono ?_); rintro e w3 ⟨rfl, hr3, hb3⟩))
              go_ret
              exact ⟨(below_draws HBW.out).trans hb3, by rw [HNUM.out]; exact ⟨rfl, hr3⟩⟩
            · have hlf : letter d = false := Bool.eq_false_iff.2 hld
              rw [hlf] at hHL
              have HL0 := Lib.hid hHL
              have hst : stands ((c :: r).drop N) = false := by rw [hsd, hdf, hlf]; rfl
              clear hsd hHD hHL hld hlf hdf hdr hNs
              obtain ⟨pv, hpv⟩ : ∃ x, (parseS ((c :: r).take N)).1 = x := ⟨_, rfl⟩
              obtain ⟨pe, hpe⟩ : ∃ x, (parseS ((c :: r).take N)).2 = x := ⟨_, rfl⟩
              have hpa : ∀ w, ErrVar w → Calls Tryd.prog 43 #[.string (t.extract 0 N)] w fun e w' => e = .returned (.tuple #[.int .i64 pv, .int .i64 pe]) ∧ Below w.heap.size w w' := fun w he => by
                have := parse_any (t.extract 0 N) w (by rw [Lib.size_eq, take_data, List.length_take, ← Lib.size_eq]; omega) he
                rw [take_data, HTL.out, hpv, hpe] at this
                exact this
              have HPA := Lib.hid hpa
              clear hpa
              have HFP : Hid (∀ (nq : Nat) (w2 : World), Below (w.drewN nq).heap.size (w.drewN nq) w2 → _) := Lib.hid (fun nq w2 hb => fail_any w2 B b s (q : Int) l why fat pe (q : Int) ((HR.out.drewN nq).below hb))
              have HAP : Hid (∀ (nq : Nat) (w2 : World), Below (w.drewN nq).heap.size (w.drewN nq) w2 → _) := Lib.hid (fun nq w2 hb => add_any w2 B b s (q : Int) l why fat 2 ByteArray.empty pv 0 (N : Int) ((HR.out.drewN nq).below hb) HLL.out (by omega) (by omega) (by omega) (by omega) (Nat.le_trans HBW.out hb.size))
              by_cases hpe0 : pe = 0
              · have hnum : number (c :: r) = .tok 2 [] pv N := by unfold number; rw [HNV.out, if_neg (by rw [hst]; simp), hpv, hpe, if_pos hpe0]
                have HNUM := Lib.hid hnum
                have hpeb : (pe == 0) = true := beq_iff_eq.mpr hpe0
                clear hnum hpv hpe hst hpe0
                go_wp2_with (first
                  | (go_at_call 33; (with_reducible refine (HD0.out _).mono ?_); rintro e w2 ⟨rfl, ⟨nd, rfl⟩⟩)
                  | (go_at_call 39; (with_reducible refine (HL0.out _).mono ?_); rintro e w2 ⟨rfl, ⟨nd, rfl⟩⟩)
                  | (go_at_call 43; (with_reducible refine (HPA.out _ (err_drewN HER.out _)).mono ?_); rintro e w2 ⟨rfl, hb2⟩; have HB2 := Lib.hid hb2; clear hb2; have c12 := cell1_below (HR.out.drewN _) HB2.out)
                  | (go_at_call 31; (with_reducible refine (HF7.out _).mono ?_); rintro e w3 ⟨rfl, hr3, hb3⟩)
                  | (go_at_call 31; (with_reducible refine (HFP.out _ _ HB2.out).mono ?_); rintro e w3 ⟨rfl, hr3, hb3⟩)
                  | (go_at_call 32; (refine (HAP.out _ _ HB2.out).mono ?_); rintro e w3 ⟨rfl, hr3, hb3⟩))
                go_ret
                exact ⟨(below_draws HBW.out).trans ((HB2.out.mono HBW.out).trans hb3), by rw [HNUM.out]; exact ⟨rfl, hr3⟩⟩
              · have hnum : number (c :: r) = .bad pe 0 := by unfold number; rw [HNV.out, if_neg (by rw [hst]; simp), hpe, if_neg hpe0]
                have HNUM := Lib.hid hnum
                have hpeb : (pe == 0) = false := beq_eq_false_iff_ne.mpr hpe0
                have hpec : (pe != 0) = true := bne_iff_ne.mpr hpe0
                clear hnum hpv hpe hst hpe0
                go_wp2_with (first
                  | (go_at_call 33; (with_reducible refine (HD0.out _).mono ?_); rintro e w2 ⟨rfl, ⟨nd, rfl⟩⟩)
                  | (go_at_call 39; (with_reducible refine (HL0.out _).mono ?_); rintro e w2 ⟨rfl, ⟨nd, rfl⟩⟩)
                  | (go_at_call 43; (with_reducible refine (HPA.out _ (err_drewN HER.out _)).mono ?_); rintro e w2 ⟨rfl, hb2⟩; have HB2 := Lib.hid hb2; clear hb2; have c12 := cell1_below (HR.out.drewN _) HB2.out)
                  | (go_at_call 31; (with_reducible refine (HF7.out _).mono ?_); rintro e w3 ⟨rfl, hr3, hb3⟩)
                  | (go_at_call 31; (with_reducible refine (HFP.out _ _ HB2.out).mono ?_); rintro e w3 ⟨rfl, hr3, hb3⟩)
                  | (go_at_call 32; (refine (HAP.out _ _ HB2.out).mono ?_); rintro e w3 ⟨rfl, hr3, hb3⟩))
                go_ret
                exact ⟨(below_draws HBW.out).trans ((HB2.out.mono HBW.out).trans hb3), by rw [HNUM.out]; exact ⟨rfl, hr3⟩⟩
        · have hNb : decide (N < t.size) = false := decide_eq_false hNs
          have hst : stands ((c :: r).drop N) = false := by rw [List.drop_eq_nil_of_le (by rw [HLEN.out]; omega)]; rfl
          clear hNs
          obtain ⟨pv, hpv⟩ : ∃ x, (parseS ((c :: r).take N)).1 = x := ⟨_, rfl⟩
          obtain ⟨pe, hpe⟩ : ∃ x, (parseS ((c :: r).take N)).2 = x := ⟨_, rfl⟩
          have hpa : ∀ w, ErrVar w → Calls Tryd.prog 43 #[.string (t.extract 0 N)] w fun e w' => e = .returned (.tuple #[.int .i64 pv, .int .i64 pe]) ∧ Below w.heap.size w w' := fun w he => by
            have := parse_any (t.extract 0 N) w (by rw [Lib.size_eq, take_data, List.length_take, ← Lib.size_eq]; omega) he
            rw [take_data, HTL.out, hpv, hpe] at this
            exact this
          have HPA := Lib.hid hpa
          clear hpa
          have HFP : Hid (∀ (nq : Nat) (w2 : World), Below (w.drewN nq).heap.size (w.drewN nq) w2 → _) := Lib.hid (fun nq w2 hb => fail_any w2 B b s (q : Int) l why fat pe (q : Int) ((HR.out.drewN nq).below hb))
          have HAP : Hid (∀ (nq : Nat) (w2 : World), Below (w.drewN nq).heap.size (w.drewN nq) w2 → _) := Lib.hid (fun nq w2 hb => add_any w2 B b s (q : Int) l why fat 2 ByteArray.empty pv 0 (N : Int) ((HR.out.drewN nq).below hb) HLL.out (by omega) (by omega) (by omega) (by omega) (Nat.le_trans HBW.out hb.size))
          by_cases hpe0 : pe = 0
          · have hnum : number (c :: r) = .tok 2 [] pv N := by unfold number; rw [HNV.out, if_neg (by rw [hst]; simp), hpv, hpe, if_pos hpe0]
            have HNUM := Lib.hid hnum
            have hpeb : (pe == 0) = true := beq_iff_eq.mpr hpe0
            clear hnum hpv hpe hst hpe0
            go_wp2_with (first
              | (go_at_call 33; (with_reducible refine (HD0.out _).mono ?_); rintro e w2 ⟨rfl, ⟨nd, rfl⟩⟩)
              | (go_at_call 39; (with_reducible refine (HL0.out _).mono ?_); rintro e w2 ⟨rfl, ⟨nd, rfl⟩⟩)
              | (go_at_call 43; (with_reducible refine (HPA.out _ (err_drewN HER.out _)).mono ?_); rintro e w2 ⟨rfl, hb2⟩; have HB2 := Lib.hid hb2; clear hb2; have c12 := cell1_below (HR.out.drewN _) HB2.out)
              | (go_at_call 31; (with_reducible refine (HF7.out _).mono ?_); rintro e w3 ⟨rfl, hr3, hb3⟩)
              | (go_at_call 31; (with_reducible refine (HFP.out _ _ HB2.out).mono ?_); rintro e w3 ⟨rfl, hr3, hb3⟩)
              | (go_at_call 32; (refine (HAP.out _ _ HB2.out).mono ?_); rintro e w3 ⟨rfl, hr3, hb3⟩))
            go_ret
            exact ⟨(below_draws HBW.out).trans ((HB2.out.mono HBW.out).trans hb3), by rw [HNUM.out]; exact ⟨rfl, hr3⟩⟩
          · have hnum : number (c :: r) = .bad pe 0 := by unfold number; rw [HNV.out, if_neg (by rw [hst]; simp), hpe, if_neg hpe0]
            have HNUM := Lib.hid hnum
            have hpeb : (pe == 0) = false := beq_eq_false_iff_ne.mpr hpe0
            have hpec : (pe != 0) = true := bne_iff_ne.mpr hpe0
            clear hnum hpv hpe hst hpe0
            go_wp2_with (first
              | (go_at_call 33; (with_reducible refine (HD0.out _).mono ?_); rintro e w2 ⟨rfl, ⟨nd, rfl⟩⟩)
              | (go_at_call 39; (with_reducible refine (HL0.out _).mono ?_); rintro e w2 ⟨rfl, ⟨nd, rfl⟩⟩)
              | (go_at_call 43; (with_reducible refine (HPA.out _ (err_drewN HER.out _)).mono ?_); rintro e w2 ⟨rfl, hb2⟩; have HB2 := Lib.hid hb2; clear hb2; have c12 := cell1_below (HR.out.drewN _) HB2.out)
              | (go_at_call 31; (with_reducible refine (HF7.out _).mono ?_); rintro e w3 ⟨rfl, hr3, hb3⟩)
              | (go_at_call 31; (with_reducible refine (HFP.out _ _ HB2.out).mono ?_); rintro e w3 ⟨rfl, hr3, hb3⟩)
              | (go_at_call 32; (refine (HAP.out _ _ HB2.out).mono ?_); rintro e w3 ⟨rfl, hr3, hb3⟩))
            go_ret
            exact ⟨(below_draws HBW.out).trans ((HB2.out.mono HBW.out).trans hb3), by rw [HNUM.out]; exact ⟨rfl, hr3⟩⟩
      · have h48 : ((bt t 0) != 48) = true := by rw [HB0.out]; exact bne_iff_ne.mpr (fun x => hc48 (UInt8.toNat_inj.mp (by have e : (48 : UInt8).toNat = 48 := rfl; omega)))
        have h48b : ((bt t 0) == 48) = false := by rw [HB0.out]; exact beq_eq_false_iff_ne.mpr (fun x => hc48 (UInt8.toNat_inj.mp (by have e : (48 : UInt8).toNat = 48 := rfl; omega)))
        clear hlt hg
        by_cases hNs : N < t.size
        · obtain ⟨d, rest, hdr⟩ : ∃ d rest, t.data.toList.drop N = d :: rest := by
            cases hh : t.data.toList.drop N with
            | nil => rw [List.drop_eq_nil_iff, ← Lib.size_eq] at hh; omega
            | cons d rest => exact ⟨d, rest, rfl⟩
          obtain ⟨hbN, _, _⟩ := bt_of t N d rest hdr
          have hNb : decide (N < t.size) = true := decide_eq_true hNs
          have hxN : ∀ h : N < t.size, ((t[N]'h).toNat : Int) = bt t N := bt_at t N
          have hHD := digit_calls d _ hbN
          have hHL := letter_calls d _ hbN
          have hsd : stands ((c :: r).drop N) = (dig d || letter d) := by rw [← HTL.out, hdr]; rfl
          clear hbN
          · have hdf : dig d = false := by
              cases hh : dig d with
              | false => rfl
              | true =>
                have := (numLen_at c r hc48 N (by omega) (by rw [HNV.out]; exact Nat.le_refl _)).2 ⟨d, by have := List.getElem?_drop (xs := t.data.toList) (i := N) (j := 0); rw [Nat.add_zero] at this; rw [← HTL.out, ← this, hdr]; rfl, hh⟩
                rw [HNV.out] at this
                omega
            rw [hdf] at hHD
            have HD0 := Lib.hid hHD
            by_cases hld : letter d = true
            · rw [hld] at hHL
              have HL0 := Lib.hid hHL
              have hnum : number (c :: r) = .bad 7 N := by unfold number; rw [HNV.out, if_pos (by rw [hsd, hld]; simp)]
              have HNUM := Lib.hid hnum
              clear hnum hsd hHD hHL hld hdf hdr hNs
              go_wp2_with (first
                | (go_at_call 33; (with_reducible refine (HD0.out _).mono ?_); rintro e w2 ⟨rfl, ⟨nd, rfl⟩⟩)
                | (go_at_call 39; (with_reducible refine (HL0.out _).mono ?_); rintro e w2 ⟨rfl, ⟨nd, rfl⟩⟩)
                | (go_at_call 43; (with_reducible refine (HPA.out _ (err_drewN HER.out _)).mono ?_); rintro e w2 ⟨rfl, hb2⟩; have HB2 := Lib.hid hb2; clear hb2; have c12 := cell1_below (HR.out.drewN _) HB2.out)
                | (go_at_call 31; (with_reducible refine (HF7.out _).mono ?_); rintro e w3 ⟨rfl, hr3, hb3⟩)
                | (go_at_call 31; (with_reducible refine (HFP.out _ _ HB2.out).mono ?_); rintro e w3 ⟨rfl, hr3, hb3⟩)
                | (go_at_call 32; (refine (HAP.out _ _ HB2.out).mono ?_); rintro e w3 ⟨rfl, hr3, hb3⟩))
              go_ret
              exact ⟨(below_draws HBW.out).trans hb3, by rw [HNUM.out]; exact ⟨rfl, hr3⟩⟩
            · have hlf : letter d = false := Bool.eq_false_iff.2 hld
              rw [hlf] at hHL
              have HL0 := Lib.hid hHL
              have hst : stands ((c :: r).drop N) = false := by rw [hsd, hdf, hlf]; rfl
              clear hsd hHD hHL hld hlf hdf hdr hNs
              obtain ⟨pv, hpv⟩ : ∃ x, (parseS ((c :: r).take N)).1 = x := ⟨_, rfl⟩
              obtain ⟨pe, hpe⟩ : ∃ x, (parseS ((c :: r).take N)).2 = x := ⟨_, rfl⟩
              have hpa : ∀ w, ErrVar w → Calls Tryd.prog 43 #[.string (t.extract 0 N)] w fun e w' => e = .returned (.tuple #[.int .i64 pv, .int .i64 pe]) ∧ Below w.heap.size w w' := fun w he => by
                have := parse_any (t.extract 0 N) w (by rw [Lib.size_eq, take_data, List.length_take, ← Lib.size_eq]; omega) he
                rw [take_data, HTL.out, hpv, hpe] at this
                exact this
              have HPA := Lib.hid hpa
              clear hpa
              have HFP : Hid (∀ (nq : Nat) (w2 : World), Below (w.drewN nq).heap.size (w.drewN nq) w2 → _) := Lib.hid (fun nq w2 hb => fail_any w2 B b s (q : Int) l why fat pe (q : Int) ((HR.out.drewN nq).below hb))
              have HAP : Hid (∀ (nq : Nat) (w2 : World), Below (w.drewN nq).heap.size (w.drewN nq) w2 → _) := Lib.hid (fun nq w2 hb => add_any w2 B b s (q : Int) l why fat 2 ByteArray.empty pv 0 (N : Int) ((HR.out.drewN nq).below hb) HLL.out (by omega) (by omega) (by omega) (by omega) (Nat.le_trans HBW.out hb.size))
              by_cases hpe0 : pe = 0
              · have hnum : number (c :: r) = .tok 2 [] pv N := by unfold number; rw [HNV.out, if_neg (by rw [hst]; simp), hpv, hpe, if_pos hpe0]
                have HNUM := Lib.hid hnum
                have hpeb : (pe == 0) = true := beq_iff_eq.mpr hpe0
                clear hnum hpv hpe hst hpe0
                go_wp2_with (first
                  | (go_at_call 33; (with_reducible refine (HD0.out _).mono ?_); rintro e w2 ⟨rfl, ⟨nd, rfl⟩⟩)
                  | (go_at_call 39; (with_reducible refine (HL0.out _).mono ?_); rintro e w2 ⟨rfl, ⟨nd, rfl⟩⟩)
                  | (go_at_call 43; (with_reducible refine (HPA.out _ (err_drewN HER.out _)).mono ?_); rintro e w2 ⟨rfl, hb2⟩; have HB2 := Lib.hid hb2; clear hb2; have c12 := cell1_below (HR.out.drewN _) HB2.out)
                  | (go_at_call 31; (with_reducible refine (HF7.out _).mono ?_); rintro e w3 ⟨rfl, hr3, hb3⟩)
                  | (go_at_call 31; (with_reducible refine (HFP.out _ _ HB2.out).mono ?_); rintro e w3 ⟨rfl, hr3, hb3⟩)
                  | (go_at_call 32; (refine (HAP.out _ _ HB2.out).mono ?_); rintro e w3 ⟨rfl, hr3, hb3⟩))
                go_ret
                exact ⟨(below_draws HBW.out).trans ((HB2.out.mono HBW.out).trans hb3), by rw [HNUM.out]; exact ⟨rfl, hr3⟩⟩
              · have hnum : number (c :: r) = .bad pe 0 := by unfold number; rw [HNV.out, if_neg (by rw [hst]; simp), hpe, if_neg hpe0]
                have HNUM := Lib.hid hnum
                have hpeb : (pe == 0) = false := beq_eq_false_iff_ne.mpr hpe0
                have hpec : (pe != 0) = true := bne_iff_ne.mpr hpe0
                clear hnum hpv hpe hst hpe0
                go_wp2_with (first
                  | (go_at_call 33; (with_reducible refine (HD0.out _).mono ?_); rintro e w2 ⟨rfl, ⟨nd, rfl⟩⟩)
                  | (go_at_call 39; (with_reducible refine (HL0.out _).mono ?_); rintro e w2 ⟨rfl, ⟨nd, rfl⟩⟩)
                  | (go_at_call 43; (with_reducible refine (HPA.out _ (err_drewN HER.out _)).mono ?_); rintro e w2 ⟨rfl, hb2⟩; have HB2 := Lib.hid hb2; clear hb2; have c12 := cell1_below (HR.out.drewN _) HB2.out)
                  | (go_at_call 31; (with_reducible refine (HF7.out _).mono ?_); rintro e w3 ⟨rfl, hr3, hb3⟩)
                  | (go_at_call 31; (with_reducible refine (HFP.out _ _ HB2.out).mono ?_); rintro e w3 ⟨rfl, hr3, hb3⟩)
                  | (go_at_call 32; (refine (HAP.out _ _ HB2.out).mono ?_); rintro e w3 ⟨rfl, hr3, hb3⟩))
                go_ret
                exact ⟨(below_draws HBW.out).trans ((HB2.out.mono HBW.out).trans hb3), by rw [HNUM.out]; exact ⟨rfl, hr3⟩⟩
        · have hNb : decide (N < t.size) = false := decide_eq_false hNs
          have hst : stands ((c :: r).drop N) = false := by rw [List.drop_eq_nil_of_le (by rw [HLEN.out]; omega)]; rfl
          clear hNs
          obtain ⟨pv, hpv⟩ : ∃ x, (parseS ((c :: r).take N)).1 = x := ⟨_, rfl⟩
          obtain ⟨pe, hpe⟩ : ∃ x, (parseS ((c :: r).take N)).2 = x := ⟨_, rfl⟩
          have hpa : ∀ w, ErrVar w → Calls Tryd.prog 43 #[.string (t.extract 0 N)] w fun e w' => e = .returned (.tuple #[.int .i64 pv, .int .i64 pe]) ∧ Below w.heap.size w w' := fun w he => by
            have := parse_any (t.extract 0 N) w (by rw [Lib.size_eq, take_data, List.length_take, ← Lib.size_eq]; omega) he
            rw [take_data, HTL.out, hpv, hpe] at this
            exact this
          have HPA := Lib.hid hpa
          clear hpa
          have HFP : Hid (∀ (nq : Nat) (w2 : World), Below (w.drewN nq).heap.size (w.drewN nq) w2 → _) := Lib.hid (fun nq w2 hb => fail_any w2 B b s (q : Int) l why fat pe (q : Int) ((HR.out.drewN nq).below hb))
          have HAP : Hid (∀ (nq : Nat) (w2 : World), Below (w.drewN nq).heap.size (w.drewN nq) w2 → _) := Lib.hid (fun nq w2 hb => add_any w2 B b s (q : Int) l why fat 2 ByteArray.empty pv 0 (N : Int) ((HR.out.drewN nq).below hb) HLL.out (by omega) (by omega) (by omega) (by omega) (Nat.le_trans HBW.out hb.size))
          by_cases hpe0 : pe = 0
          · have hnum : number (c :: r) = .tok 2 [] pv N := by unfold number; rw [HNV.out, if_neg (by rw [hst]; simp), hpv, hpe, if_pos hpe0]
            have HNUM := Lib.hid hnum
            have hpeb : (pe == 0) = true := beq_iff_eq.mpr hpe0
            clear hnum hpv hpe hst hpe0
            go_wp2_with (first
              | (go_at_call 33; (with_reducible refine (HD0.out _).mono ?_); rintro e w2 ⟨rfl, ⟨nd, rfl⟩⟩)
              | (go_at_call 39; (with_reducible refine (HL0.out _).mono ?_); rintro e w2 ⟨rfl, ⟨nd, rfl⟩⟩)
              | (go_at_call 43; (with_reducible refine (HPA.out _ (err_drewN HER.out _)).mono ?_); rintro e w2 ⟨rfl, hb2⟩; have HB2 := Lib.hid hb2; clear hb2; have c12 := cell1_below (HR.out.drewN _) HB2.out)
              | (go_at_call 31; (with_reducible refine (HF7.out _).mono ?_); rintro e w3 ⟨rfl, hr3, hb3⟩)
              | (go_at_call 31; (with_reducible refine (HFP.out _ _ HB2.out).mono ?_); rintro e w3 ⟨rfl, hr3, hb3⟩)
              | (go_at_call 32; (refine (HAP.out _ _ HB2.out).mono ?_); rintro e w3 ⟨rfl, hr3, hb3⟩))
            go_ret
            exact ⟨(below_draws HBW.out).trans ((HB2.out.mono HBW.out).trans hb3), by rw [HNUM.out]; exact ⟨rfl, hr3⟩⟩
          · have hnum : number (c :: r) = .bad pe 0 := by unfold number; rw [HNV.out, if_neg (by rw [hst]; simp), hpe, if_neg hpe0]
            have HNUM := Lib.hid hnum
            have hpeb : (pe == 0) = false := beq_eq_false_iff_ne.mpr hpe0
            have hpec : (pe != 0) = true := bne_iff_ne.mpr hpe0
            clear hnum hpv hpe hst hpe0
            go_wp2_with (first
              | (go_at_call 33; (with_reducible refine (HD0.out _).mono ?_); rintro e w2 ⟨rfl, ⟨nd, rfl⟩⟩)
              | (go_at_call 39; (with_reducible refine (HL0.out _).mono ?_); rintro e w2 ⟨rfl, ⟨nd, rfl⟩⟩)
              | (go_at_call 43; (with_reducible refine (HPA.out _ (err_drewN HER.out _)).mono ?_); rintro e w2 ⟨rfl, hb2⟩; have HB2 := Lib.hid hb2; clear hb2; have c12 := cell1_below (HR.out.drewN _) HB2.out)
              | (go_at_call 31; (with_reducible refine (HF7.out _).mono ?_); rintro e w3 ⟨rfl, hr3, hb3⟩)
              | (go_at_call 31; (with_reducible refine (HFP.out _ _ HB2.out).mono ?_); rintro e w3 ⟨rfl, hr3, hb3⟩)
              | (go_at_call 32; (refine (HAP.out _ _ HB2.out).mono ?_); rintro e w3 ⟨rfl, hr3, hb3⟩))
            go_ret
            exact ⟨(below_draws HBW.out).trans ((HB2.out.mono HBW.out).trans hb3), by rw [HNUM.out]; exact ⟨rfl, hr3⟩⟩
end Go.Proofs.YtafndkgoeabehaaDoor.LexNumber
