/- (*reader).token: walked. -/
import Derived.Test.YtafndkgoeabehaaDoorLexNumber
import Derived.Test.YtafndkgoeabehaaDoorLexText
import Derived.Test.YtafndkgoeabehaaDoorLexSign
namespace Go.Proofs.YtafndkgoeabehaaDoor.LexToken
open Go Go.RowKit Go.Proofs.YtafndkgoeabehaaDoor.NumPure Go.Proofs.YtafndkgoeabehaaDoor.NumRead Go.Proofs.YtafndkgoeabehaaDoor.NumParse Go.Proofs.YtafndkgoeabehaaDoor.LexPure Go.Proofs.YtafndkgoeabehaaDoor.LexGap Go.Proofs.YtafndkgoeabehaaDoor.LexMem Go.Proofs.YtafndkgoeabehaaDoor.LexWord Go.Proofs.YtafndkgoeabehaaDoor.LexGaps Go.Proofs.YtafndkgoeabehaaDoor.LexTook Go.Proofs.YtafndkgoeabehaaDoor.LexNumber Go.Proofs.YtafndkgoeabehaaDoor.LexText Go.Proofs.YtafndkgoeabehaaDoor.LexSign Go.Proofs.YtafndkgoeabehaaDoor.Pword Go.Proofs.YtafndkgoeabehaaDoorW.PrintWords

theorem took_bool {w' : World} {e : Ending} {B b : Nat} {s : ByteArray} {q : Nat} {l : List Tk} {why fat : Int} {o : Out} (h : Took w' e B b s q l why fat o) : ∃ k, e = .returned (.bool k) := by
  cases o with
  | tok kd tx n len => exact ⟨_, h.1⟩
  | bad y off => exact ⟨_, h.1⟩

set_option maxRecDepth 100000 in
set_option maxHeartbeats 4000000 in
theorem token_any (w : World) (B b : Nat) (s : ByteArray) (q : Nat) (l : List Tk) (why fat : Int) (c : UInt8) (r : List UInt8) (h : RS w B b s (q : Int) l why fat) (hq : q ≤ s.size) (hs : s.size ≤ 65536) (hB : 2 < B) (hB0 : 0 < B) (hBw : B ≤ w.heap.size) (hl : l.length ≤ 65536) (hM : MaxVar w) (he : ErrVar w) (hcr : s.data.toList.drop q = c :: r) :
    Calls Tryd.prog 17 #[.pointer (some ⟨b, 0, none⟩)] w fun e w' => Below B w w' ∧ Took w' e B b s q l why fat (token (c :: r)) := by
  have hz : s.size = s.data.toList.length := Lib.size_eq s
  obtain ⟨h0, v, hb, ho⟩ := id h
  have c0 := hb.cell 0
  have c1 := hb.cell 1
  simp at c0 c1
  have hblt := hb.lt
  obtain ⟨t, ht⟩ : ∃ t, s.extract q s.size = t := ⟨_, rfl⟩
  have htl : t.data.toList = c :: r := by rw [← ht, drop_data s q, hcr]
  have htz : t.size = s.size - q := by rw [Lib.size_eq, ← ht, drop_data, List.length_drop, ← hz]
  have htb : t.size ≤ 65536 := by omega
  have hz1 : 1 ≤ t.size := by rw [Lib.size_eq, htl]; simp
  have hq65 : q ≤ 65536 := by omega
  have hb0 : bt t 0 = (c.toNat : Int) := (bt_of t 0 c r (by rw [htl]; rfl)).1
  have hx0 : ∀ h : 0 < t.size, ((t[0]'h).toNat : Int) = bt t 0 := bt_at t 0
  obtain ⟨N, hNv⟩ : ∃ N, name (c :: r) = N := ⟨_, rfl⟩
  have hNt : N ≤ t.size := by rw [← hNv, Lib.size_eq, htl]; exact name_le _
  have HN : Hid (∀ n, Calls Tryd.prog 27 #[.string t] (w.drewN n) fun e w' => e = .returned (.int .i64 (N : Int)) ∧ Drawn0 (w.drewN n) w') := Lib.hid (fun n => by
    have := name_any t (by omega) (w.drewN n)
    rw [htl, hNv] at this
    exact this)
  have hHD := fun n => digit_calls c _ hb0 (w.drewN n)
  have HR := Lib.hid h
  have HBW := Lib.hid hBw
  have HLL := Lib.hid hl
  have HTZ := Lib.hid htz
  have HTL := Lib.hid htl
  have HNV := Lib.hid hNv
  have HB0 := Lib.hid hb0
  have HNU : Hid (dig c = true → ∀ n, Calls Tryd.prog 34 #[.pointer (some ⟨b, 0, none⟩)] (w.drewN n) fun e w' => Below B (w.drewN n) w' ∧ Took w' e B b s q l why fat (number (c :: r))) := Lib.hid (fun hc n => number_any (w.drewN n) B b s q l why fat c r (h.drewN n) hq hs hB hBw hl (err_drewN he n) hcr hc)
  have HTE : Hid (c = 34 → ∀ n, Calls Tryd.prog 35 #[.pointer (some ⟨b, 0, none⟩)] (w.drewN n) fun e w' => Below B (w.drewN n) w' ∧ Took w' e B b s q l why fat (text [] 1 r)) := Lib.hid (fun hc n => text_any (w.drewN n) B b s q l why fat r (h.drewN n) hq hs hBw hl (by rw [hcr, hc]))
  have HSI : Hid (∀ n, Calls Tryd.prog 36 #[.pointer (some ⟨b, 0, none⟩)] (w.drewN n) fun e w' => Below B (w.drewN n) w' ∧ Took w' e B b s q l why fat (sign (c :: r))) := Lib.hid (fun n => sign_any (w.drewN n) B b s q l why fat c r (h.drewN n) hq hs hB0 hBw hl hM hcr)
  clear h hB hBw hl he htz htl hNv hb0 hz hcr hb ho hM
  go_enter Tryd.func17, Tryd.ntmps17
  go_wp2
  go_quiet (fail)
  by_cases h64 : 64 < N
  · have h64b : decide (64 < (N : Int)) = true := decide_eq_true (by omega)
    have HTO := Lib.hid (show token (c :: r) = .bad 2 0 by unfold token; rw [HNV.out, if_pos h64])
    have HF := Lib.hid (fun n => fail_any (w.drewN n) B b s (q : Int) l why fat 2 (q : Int) (HR.out.drewN n))
    clear h64 hHD
    go_wp2_with (first
      | (go_at_call 27; (with_reducible refine (HN.out _).mono ?_); rintro e w2 ⟨rfl, ⟨nd, rfl⟩⟩)
      | (go_at_call 33; (with_reducible refine (HD.out _).mono ?_); rintro e w2 ⟨rfl, ⟨nd2, rfl⟩⟩)
      | (go_at_call 31; (with_reducible refine (HF.out _).mono ?_); rintro e w3 ⟨rfl, hr3, hb3⟩)
      | (go_at_call 32; (with_reducible refine (HA.out _).mono ?_); rintro e w3 ⟨rfl, hr3, hb3⟩)
      | (go_at_call 34; (with_reducible refine (HNU.out _).mono ?_); rintro e w3 ⟨hb3, hr3⟩; obtain ⟨be, rfl⟩ := took_bool hr3)
      | (go_at_call 35; (with_reducible refine (HTE.out _).mono ?_); rintro e w3 ⟨hb3, hr3⟩; obtain ⟨be, rfl⟩ := took_bool hr3)
      | (go_at_call 36; (with_reducible refine (HSI.out _).mono ?_); rintro e w3 ⟨hb3, hr3⟩; obtain ⟨be, rfl⟩ := took_bool hr3))
    go_ret
    exact ⟨(below_draws HBW.out).trans hb3, by rw [HTO.out]; exact ⟨rfl, hr3⟩⟩
  · have h64b : decide (64 < (N : Int)) = false := decide_eq_false (by omega)
    by_cases hN0 : 0 < N
    · have hN0b : decide (0 < (N : Int)) = true := decide_eq_true (by omega)
      have hN0c : decide (0 < N) = true := decide_eq_true hN0
      obtain ⟨u, hu⟩ : ∃ x, t.extract 0 N = x := ⟨_, rfl⟩
      have HU : Hid (u.data.toList = (c :: r).take N) := Lib.hid (by rw [← hu, take_data, HTL.out])
      have HTO := Lib.hid (show token (c :: r) = .tok 1 ((c :: r).take N) 0 N by unfold token; rw [HNV.out, if_neg h64, if_pos hN0])
      have HA : Hid (∀ n, Calls Tryd.prog 32 #[.pointer (some ⟨b, 0, none⟩), .agg #[.int .i64 1, .string u, .int .i64 0, .int .i64 0], .int .i64 (N : Int)] (w.drewN n) fun e w' => e = .returned (.bool true) ∧ RS w' B b s ((q + N : Nat) : Int) (l ++ [⟨1, (c :: r).take N, 0, q⟩]) why fat ∧ Below B (w.drewN n) w') := Lib.hid (fun n => by
        have := add_any (w.drewN n) B b s (q : Int) l why fat 1 u 0 0 (N : Int) (HR.out.drewN n) HLL.out (by omega) (by omega) (by omega) (by omega) HBW.out
        rw [← Int.natCast_add, HU.out] at this
        exact this)
      clear h64 hHD hN0
      go_wp2_with (first
        | (go_at_call 27; (with_reducible refine (HN.out _).mono ?_); rintro e w2 ⟨rfl, ⟨nd, rfl⟩⟩)
        | (go_at_call 33; (with_reducible refine (HD.out _).mono ?_); rintro e w2 ⟨rfl, ⟨nd2, rfl⟩⟩)
        | (go_at_call 31; (with_reducible refine (HF.out _).mono ?_); rintro e w3 ⟨rfl, hr3, hb3⟩)
        | (go_at_call 32; (with_reducible refine (HA.out _).mono ?_); rintro e w3 ⟨rfl, hr3, hb3⟩)
        | (go_at_call 34; (with_reducible refine (HNU.out _).mono ?_); rintro e w3 ⟨hb3, hr3⟩; obtain ⟨be, rfl⟩ := took_bool hr3)
        | (go_at_call 35; (with_reducible refine (HTE.out _).mono ?_); rintro e w3 ⟨hb3, hr3⟩; obtain ⟨be, rfl⟩ := took_bool hr3)
        | (go_at_call 36; (with_reducible refine (HSI.out _).mono ?_); rintro e w3 ⟨hb3, hr3⟩; obtain ⟨be, rfl⟩ := took_bool hr3))
      go_ret
      exact ⟨(below_draws HBW.out).trans hb3, by rw [HTO.out]; exact ⟨rfl, hr3⟩⟩
    · have hNz : N = 0 := by omega
      subst hNz
      have hto : token (c :: r) = if dig c = true then number (c :: r) else if c = 34 then text [] 1 r else sign (c :: r) := by unfold token; rw [HNV.out]; rfl
      by_cases hdc : dig c = true
      · have HTO := Lib.hid (show token (c :: r) = number (c :: r) by rw [hto, if_pos hdc])
        have HNU := Lib.hid (HNU.out hdc)
        rw [hdc] at hHD
        have HD := Lib.hid hHD
        clear hto hHD hdc h64 hN0
        go_wp2_with (first
          | (go_at_call 27; (with_reducible refine (HN.out _).mono ?_); rintro e w2 ⟨rfl, ⟨nd, rfl⟩⟩)
          | (go_at_call 33; (with_reducible refine (HD.out _).mono ?_); rintro e w2 ⟨rfl, ⟨nd2, rfl⟩⟩)
          | (go_at_call 31; (with_reducible refine (HF.out _).mono ?_); rintro e w3 ⟨rfl, hr3, hb3⟩)
          | (go_at_call 32; (with_reducible refine (HA.out _).mono ?_); rintro e w3 ⟨rfl, hr3, hb3⟩)
          | (go_at_call 34; (with_reducible refine (HNU.out _).mono ?_); rintro e w3 ⟨hb3, hr3⟩; obtain ⟨be, rfl⟩ := took_bool hr3)
          | (go_at_call 35; (with_reducible refine (HTE.out _).mono ?_); rintro e w3 ⟨hb3, hr3⟩; obtain ⟨be, rfl⟩ := took_bool hr3)
          | (go_at_call 36; (with_reducible refine (HSI.out _).mono ?_); rintro e w3 ⟨hb3, hr3⟩; obtain ⟨be, rfl⟩ := took_bool hr3))
        go_ret
        exact ⟨(below_draws HBW.out).trans hb3, by rw [HTO.out]; exact hr3⟩
      · rw [if_neg hdc] at hto
        rw [Bool.eq_false_iff.2 hdc] at hHD
        have HD := Lib.hid hHD
        by_cases h34 : c = 34
        · have h34b : (bt t 0 == 34) = true := by rw [HB0.out, h34]; rfl
          have HTO := Lib.hid (show token (c :: r) = text [] 1 r by rw [hto, if_pos h34])
          have HTE := Lib.hid (HTE.out h34)
          clear hto hHD hdc h64 hN0 h34
          go_wp2_with (first
            | (go_at_call 27; (with_reducible refine (HN.out _).mono ?_); rintro e w2 ⟨rfl, ⟨nd, rfl⟩⟩)
            | (go_at_call 33; (with_reducible refine (HD.out _).mono ?_); rintro e w2 ⟨rfl, ⟨nd2, rfl⟩⟩)
            | (go_at_call 31; (with_reducible refine (HF.out _).mono ?_); rintro e w3 ⟨rfl, hr3, hb3⟩)
            | (go_at_call 32; (with_reducible refine (HA.out _).mono ?_); rintro e w3 ⟨rfl, hr3, hb3⟩)
            | (go_at_call 34; (with_reducible refine (HNU.out _).mono ?_); rintro e w3 ⟨hb3, hr3⟩; obtain ⟨be, rfl⟩ := took_bool hr3)
            | (go_at_call 35; (with_reducible refine (HTE.out _).mono ?_); rintro e w3 ⟨hb3, hr3⟩; obtain ⟨be, rfl⟩ := took_bool hr3)
            | (go_at_call 36; (with_reducible refine (HSI.out _).mono ?_); rintro e w3 ⟨hb3, hr3⟩; obtain ⟨be, rfl⟩ := took_bool hr3))
          go_ret
          exact ⟨(below_draws HBW.out).trans hb3, by rw [HTO.out]; exact hr3⟩
        · have h34b : (bt t 0 == 34) = false := by rw [HB0.out]; exact beq_eq_false_iff_ne.mpr (fun x => h34 (UInt8.toNat_inj.mp (by have e : (34 : UInt8).toNat = 34 := rfl; omega)))
          have HTO := Lib.hid (show token (c :: r) = sign (c :: r) by rw [hto, if_neg h34])
          clear hto hHD hdc h64 hN0 h34
          go_wp2_with (first
            | (go_at_call 27; (with_reducible refine (HN.out _).mono ?_); rintro e w2 ⟨rfl, ⟨nd, rfl⟩⟩)
            | (go_at_call 33; (with_reducible refine (HD.out _).mono ?_); rintro e w2 ⟨rfl, ⟨nd2, rfl⟩⟩)
            | (go_at_call 31; (with_reducible refine (HF.out _).mono ?_); rintro e w3 ⟨rfl, hr3, hb3⟩)
            | (go_at_call 32; (with_reducible refine (HA.out _).mono ?_); rintro e w3 ⟨rfl, hr3, hb3⟩)
            | (go_at_call 34; (with_reducible refine (HNU.out _).mono ?_); rintro e w3 ⟨hb3, hr3⟩; obtain ⟨be, rfl⟩ := took_bool hr3)
            | (go_at_call 35; (with_reducible refine (HTE.out _).mono ?_); rintro e w3 ⟨hb3, hr3⟩; obtain ⟨be, rfl⟩ := took_bool hr3)
            | (go_at_call 36; (with_reducible refine (HSI.out _).mono ?_); rintro e w3 ⟨hb3, hr3⟩; obtain ⟨be, rfl⟩ := took_bool hr3))
          go_ret
          exact ⟨(below_draws HBW.out).trans hb3, by rw [HTO.out]; exact hr3⟩
end Go.Proofs.YtafndkgoeabehaaDoor.LexToken
