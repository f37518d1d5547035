/- (*reader).sign: walked. -/
import Derived.Test.YtafndkgoeabehaaDoorLexTook
import Derived.Test.YtafndkgoeabehaaDoorLexGap
import Derived.Test.YtafndkgoeabehaaDoorLexGaps
import Derived.Deep.LoopGhost
import Derived.LoopN
namespace Go.Proofs.YtafndkgoeabehaaDoor.LexSign
open Go Go.RowKit Go.Proofs.YtafndkgoeabehaaDoor.NumPure Go.Proofs.YtafndkgoeabehaaDoor.NumRead Go.Proofs.YtafndkgoeabehaaDoor.LexPure Go.Proofs.YtafndkgoeabehaaDoor.LexGap Go.Proofs.YtafndkgoeabehaaDoor.LexMem Go.Proofs.YtafndkgoeabehaaDoor.LexWord Go.Proofs.YtafndkgoeabehaaDoor.LexGaps Go.Proofs.YtafndkgoeabehaaDoor.LexTook Go.Proofs.YtafndkgoeabehaaDoorW.PrintWords

theorem contains_cons (x : UInt8) (xs sub : List UInt8) : Lib.contains (x :: xs) sub = (sub.isPrefixOf (x :: xs) || Lib.contains xs sub) := by
  have hi : Lib.index (x :: xs) sub = if sub.isPrefixOf (x :: xs) = true then 0 else if (Lib.index xs sub == -1) = true then -1 else Lib.index xs sub + 1 := rfl
  have hg := Lib.index_ge xs sub
  unfold Lib.contains
  rw [hi]
  by_cases hp : sub.isPrefixOf (x :: xs) = true
  · rw [if_pos hp, hp]; rfl
  · rw [if_neg hp, Bool.eq_false_iff.2 hp]
    by_cases h1 : Lib.index xs sub = -1
    · rw [if_pos (by rw [h1]; rfl), h1]; rfl
    · rw [if_neg (by simpa using h1)]
      have e1 : decide (0 ≤ Lib.index xs sub + 1) = true := decide_eq_true (by omega)
      have e2 : decide (0 ≤ Lib.index xs sub) = true := decide_eq_true (by omega)
      rw [e1, e2]; rfl
theorem contains_nil2 (c d : UInt8) : Lib.contains [] [c, d] = false := rfl
theorem two_index (c d : UInt8) : twos.contains [c, d] = (Lib.contains [58, 45, 32, 60, 58, 32, 60, 61, 32, 62, 61, 32, 33, 61] [c, d] && c != 32 && d != 32) := by
  rw [Bool.eq_iff_iff]
  simp only [contains_cons, contains_nil2, List.isPrefixOf]
  simp [twos]
  grind
theorem one_index (c : UInt8) : ones.contains c = decide (0 ≤ Lib.indexByte [40, 41, 123, 125, 44, 46, 58, 124, 33, 61, 60, 62, 43, 45, 42, 47, 37, 36] c) := by
  have h : ∀ n : Fin 256, ones.contains (UInt8.ofNat n.val) = decide (0 ≤ Lib.indexByte [40, 41, 123, 125, 44, 46, 58, 124, 33, 61, 60, 62, 43, 45, 42, 47, 37, 36] (UInt8.ofNat n.val)) := by decide +kernel
  have := h ⟨c.toNat, c.toNat_lt⟩
  simpa using this
theorem twos_one (c : UInt8) : twos.contains ([c].take 2) = false := by simp [twos]
theorem ne32 (d : UInt8) : ((d.toNat : Int) != 32) = (d != 32) := by
  have h : ∀ n : Fin 256, (((UInt8.ofNat n.val).toNat : Int) != 32) = (UInt8.ofNat n.val != 32) := by decide +kernel
  have := h ⟨d.toNat, d.toNat_lt⟩
  simpa using this
theorem add_of {w : World} {B b : Nat} {s x : ByteArray} {q k : Nat} {l : List Tk} {why fat : Int} {tx : List UInt8} (h : RS w B b s (q : Int) l why fat) (hl : l.length ≤ 65536) (hq : q ≤ 65536) (hk : k ≤ 65536) (hB : B ≤ w.heap.size) (hx : x.data.toList = tx) (kk : Int) (hkk : kk = (k : Int)) :
    ∀ w2, Below w.heap.size w w2 → Calls Tryd.prog 32 #[.pointer (some ⟨b, 0, none⟩), .agg #[.int .i64 4, .string x, .int .i64 0, .int .i64 0], .int .i64 kk] w2 fun e w' => e = .returned (.bool true) ∧ RS w' B b s ((q + k : Nat) : Int) (l ++ [⟨4, tx, 0, q⟩]) why fat ∧ Below B w2 w' := fun w2 hb => by
  subst hx hkk
  have := add_any w2 B b s (q : Int) l why fat 4 x 0 0 (k : Int) (h.below hb) hl (by omega) (by omega) (by omega) (by omega) (Nat.le_trans hB hb.size)
  rw [← Int.natCast_add] at this
  exact this
theorem sign_head {c : UInt8} {r : List UInt8} {N : Nat} (hN : word r = N) (hc : c = 46) (hh : heads.contains ((c :: r).take (1 + N)) = true) : sign (c :: r) = .tok 4 ((c :: r).take (1 + N)) 0 (1 + N) := by
  subst hN hc
  have e : signLen (46 :: r) = 1 + word r := by unfold signLen; rw [if_pos ⟨rfl, hh⟩]; rfl
  unfold sign
  rw [e, if_neg (by omega)]
theorem sign_nohead {c : UInt8} {r : List UInt8} (h : ¬ (c = 46 ∧ heads.contains ((c :: r).take (1 + word r)) = true)) : signLen (c :: r) = if twos.contains ((c :: r).take 2) = true then 2 else if ones.contains c = true then 1 else 0 := by
  unfold signLen
  rw [if_neg (by simpa using h)]
theorem heads_of (hd : ByteArray) {L : List UInt8} (hL : heads.contains L = true) (h : (hd.toList == L) = true) : heads.contains hd.data.toList = true := by
  have e : hd.toList = L := by simpa using h
  rw [← Lib.toList_data, e]
  exact hL
theorem heads_not (hd : ByteArray) (h0 : (hd.toList == [46, 100, 101, 99, 108]) = false) (h1 : (hd.toList == [46, 116, 121, 112, 101]) = false) (h2 : (hd.toList == [46, 99, 111, 109, 112]) = false) (h3 : (hd.toList == [46, 105, 110, 105, 116]) = false) : ¬ heads.contains hd.data.toList = true := by
  rw [← Lib.toList_data]
  simp [heads] at *
  exact ⟨h0, h1, h2, h3⟩

set_option maxRecDepth 100000 in
set_option maxHeartbeats 8000000 in
theorem sign_any (w : World) (B b : Nat) (s : ByteArray) (q : Nat) (l : List Tk) (why fat : Int) (c : UInt8) (r : List UInt8) (h : RS w B b s (q : Int) l why fat) (hq : q ≤ s.size) (hs : s.size ≤ 65536) (hB0 : 0 < B) (hBw : B ≤ w.heap.size) (hl : l.length ≤ 65536) (hM : MaxVar w) (hcr : s.data.toList.drop q = c :: r) :
    Calls Tryd.prog 36 #[.pointer (some ⟨b, 0, none⟩)] w fun e w' => Below B w w' ∧ Took w' e B b s q l why fat (sign (c :: r)) := by
  have hz : s.size = s.data.toList.length := Lib.size_eq s
  obtain ⟨h0, v, hb, ho⟩ := id h
  have c0 := hb.cell 0
  have c1 := hb.cell 1
  simp at c0 c1
  have hblt := hb.lt
  obtain ⟨t, ht⟩ : ∃ t, s.extract q s.size = t := ⟨_, rfl⟩
  have htl : t.data.toList = c :: r := by rw [← ht, drop_data s q, hcr]
  have htz : t.size = s.size - q := by rw [Lib.size_eq, ← ht, drop_data, List.length_drop, ← hz]
  have htb : t.size ≤ 65536 := by omega
  have hz1 : 1 ≤ t.size := by rw [Lib.size_eq, htl]; simp
  have hq65 : q ≤ 65536 := by omega
  have hb0 : bt t 0 = (c.toNat : Int) := (bt_of t 0 c r (by rw [htl]; rfl)).1
  have hx0 : ∀ h : 0 < t.size, ((t[0]'h).toNat : Int) = bt t 0 := bt_at t 0
  have HR := Lib.hid h
  have HBW := Lib.hid hBw
  have HLL := Lib.hid hl
  have HTZ := Lib.hid htz
  have HTL := Lib.hid htl
  have HP : Hid (∀ w, Calls Tryd.prog 29 #[.string t, .string ⟨#[46]⟩] w fun e w' => e = .returned (.bool (c == 46)) ∧ w' = w) := Lib.hid (fun w => by
    have := Tryd.strings_HasPrefix t ⟨#[46]⟩ w
    rw [htl] at this
    have e : Lib.hasPrefix (c :: r) [46] = (c == 46) := by simp [Lib.hasPrefix, List.isPrefixOf, Bool.beq_comm]
    rw [← e]
    exact this)
  have HWD : Hid (∀ n, Calls Tryd.prog 25 #[.string (t.extract 1 t.size)] (w.drewN n) fun e w' => e = .returned (.int .i64 (word r : Int)) ∧ Drawn0 (w.drewN n) w') := Lib.hid (fun n => by
    have := word_any (t.extract 1 t.size) (by rw [Lib.size_eq, drop_data, List.length_drop, ← Lib.size_eq]; omega) (w.drewN n)
    rw [drop_data, htl] at this
    exact this)
  obtain ⟨I, hIv⟩ : ∃ I, Lib.indexByte [40, 41, 123, 125, 44, 46, 58, 124, 33, 61, 60, 62, 43, 45, 42, 47, 37, 36] c = I := ⟨_, rfl⟩
  have HI : Hid (∀ w, Calls Tryd.prog 28 #[.string ⟨#[40, 41, 123, 125, 44, 46, 58, 124, 33, 61, 60, 62, 43, 45, 42, 47, 37, 36]⟩, .int .u8 (bt t 0)] w fun e w' => e = .returned (.int .i64 I) ∧ w' = w) := Lib.hid (fun w => by
    have := Tryd.strings_IndexByte ⟨#[40, 41, 123, 125, 44, 46, 58, 124, 33, 61, 60, 62, 43, 45, 42, 47, 37, 36]⟩ (bt t 0) w
    have hc : (bt t 0).toNat.toUInt8 = c := by rw [hb0, Int.toNat_natCast]; exact UInt8.ofNat_toNat
    rw [hc] at this
    rw [← hIv]
    exact this)
  obtain ⟨k1, hk1⟩ : ∃ k, ones.contains c = k := ⟨_, rfl⟩
  have HONE := Lib.hid hk1
  have hI : decide (0 ≤ I) = k1 := by rw [← hk1, one_index, hIv]
  obtain ⟨u1, hu1⟩ : ∃ x, t.extract 0 1 = x := ⟨_, rfl⟩
  have HU1 : Hid (u1.data.toList = (c :: r).take 1) := Lib.hid (by rw [← hu1, take_data, htl])
  have hA0 : ∀ n, ((w.drewN n).alloc (.cells #[.int .i64 2, .int .i64 1] 3)).cell? ⟨w.heap.size, 0, none⟩ = some (.int .i64 2) := fun n => by simp [World.cell?, World.alloc]
  have hA1 : ∀ n, ((w.drewN n).alloc (.cells #[.int .i64 2, .int .i64 1] 3)).cell? ⟨w.heap.size, 1, none⟩ = some (.int .i64 1) := fun n => by simp [World.cell?, World.alloc]
  have hA2 : ∀ n, ((w.drewN n).alloc (.cells #[.int .i64 2, .int .i64 1] 3)).cell? ⟨b, 1, none⟩ = some (.int .i64 q) := fun n => cell1_below h ((below_drewN (Below.refl _ _) n).alloc (Nat.le_refl _) _)
  have hwl := word_le r
  have hrz : r.length + 1 = t.size := by rw [Lib.size_eq, htl]; rfl
  clear h hBw hl htz htl hz hcr hb ho hIv hk1
  go_enter Tryd.func36, Tryd.ntmps36
  go_wp2
  go_quiet (fail)
  obtain ⟨k46, hk46⟩ : ∃ k, (c == 46) = k := ⟨_, rfl⟩
  rw [hk46] at HP
  cases k46 with
  | true =>
    obtain ⟨N, hN⟩ : ∃ N, word r = N := ⟨_, rfl⟩
    rw [hN] at hwl HWD
    have HN := Lib.hid hN
    have HC46 : Hid (c = 46) := Lib.hid (by simpa using hk46)
    clear hN hk46
    have hNt : 1 + N ≤ t.size := by omega
    have hNt65 : 1 + N ≤ 65536 := by omega
    obtain ⟨hd, hhd⟩ : ∃ x, t.extract 0 (1 + N) = x := ⟨_, rfl⟩
    have HHD : Hid (hd.data.toList = (c :: r).take (1 + N)) := Lib.hid (by rw [← hhd, take_data, HTL.out])
    obtain ⟨e0, he0⟩ : ∃ k, (hd.toList == [46, 100, 101, 99, 108]) = k := ⟨_, rfl⟩
    cases e0 with
    | true =>
      have HSG := Lib.hid (show sign (c :: r) = .tok 4 ((c :: r).take (1 + N)) 0 (1 + N) from sign_head HN.out HC46.out (by rw [← HHD.out]; exact heads_of hd (L := [46, 100, 101, 99, 108]) (by decide) he0))
      have HA := Lib.hid (add_of (x := hd) (k := 1 + N) HR.out HLL.out hq65 hNt65 HBW.out HHD.out (1 + (N : Int)) (by push_cast; rfl))
      go_wp2_with (first
        | (go_at_call 29; (with_reducible refine (HP.out _).mono ?_); rintro e w2 ⟨rfl, rfl⟩)
        | (go_at_call 28; (with_reducible refine (HI.out _).mono ?_); rintro e w2 ⟨rfl, rfl⟩)
        | (go_at_call 46; (with_reducible refine (HC.out _ ?bel).mono ?_); (case bel => repeat (first | exact Below.refl _ _ | exact Nat.le_refl _ | apply below_drewN | apply Below.alloc)); rintro e w2 ⟨rfl, rfl⟩)
        | (go_at_call 25; (with_reducible refine (HWD.out _).mono ?_); rintro e w2 ⟨rfl, ⟨nd, rfl⟩⟩)
        | (go_at_call 31; (with_reducible refine (HF.out _ ?bel).mono ?_); (case bel => repeat (first | exact Below.refl _ _ | exact Nat.le_refl _ | apply below_drewN | apply Below.alloc)); rintro e w3 ⟨rfl, hr3, hb3⟩)
        | (go_at_call 32; (with_reducible refine (HA.out _ ?bel).mono ?_); (case bel => repeat (first | exact Below.refl _ _ | exact Nat.le_refl _ | apply below_drewN | apply Below.alloc)); rintro e w3 ⟨rfl, hr3, hb3⟩))
      go_ret
      refine ⟨Below.trans ?_ hb3, by rw [HSG.out]; exact ⟨rfl, hr3⟩⟩
      refine Below.mono (B := w.heap.size) ?_ HBW.out
      repeat (first | exact Below.refl _ _ | exact Nat.le_refl _ | apply below_drewN | apply Below.alloc)
    | false =>
      obtain ⟨e1, he1⟩ : ∃ k, (hd.toList == [46, 116, 121, 112, 101]) = k := ⟨_, rfl⟩
      cases e1 with
      | true =>
        have HSG := Lib.hid (show sign (c :: r) = .tok 4 ((c :: r).take (1 + N)) 0 (1 + N) from sign_head HN.out HC46.out (by rw [← HHD.out]; exact heads_of hd (L := [46, 116, 121, 112, 101]) (by decide) he1))
        have HA := Lib.hid (add_of (x := hd) (k := 1 + N) HR.out HLL.out hq65 hNt65 HBW.out HHD.out (1 + (N : Int)) (by push_cast; rfl))
        go_wp2_with (first
          | (go_at_call 29; (with_reducible refine (HP.out _).mono ?_); rintro e w2 ⟨rfl, rfl⟩)
          | (go_at_call 28; (with_reducible refine (HI.out _).mono ?_); rintro e w2 ⟨rfl, rfl⟩)
          | (go_at_call 46; (with_reducible refine (HC.out _ ?bel).mono ?_); (case bel => repeat (first | exact Below.refl _ _ | exact Nat.le_refl _ | apply below_drewN | apply Below.alloc)); rintro e w2 ⟨rfl, rfl⟩)
          | (go_at_call 25; (with_reducible refine (HWD.out _).mono ?_); rintro e w2 ⟨rfl, ⟨nd, rfl⟩⟩)
          | (go_at_call 31; (with_reducible refine (HF.out _ ?bel).mono ?_); (case bel => repeat (first | exact Below.refl _ _ | exact Nat.le_refl _ | apply below_drewN | apply Below.alloc)); rintro e w3 ⟨rfl, hr3, hb3⟩)
          | (go_at_call 32; (with_reducible refine (HA.out _ ?bel).mono ?_); (case bel => repeat (first | exact Below.refl _ _ | exact Nat.le_refl _ | apply below_drewN | apply Below.alloc)); rintro e w3 ⟨rfl, hr3, hb3⟩))
        go_ret
        refine ⟨Below.trans ?_ hb3, by rw [HSG.out]; exact ⟨rfl, hr3⟩⟩
        refine Below.mono (B := w.heap.size) ?_ HBW.out
        repeat (first | exact Below.refl _ _ | exact Nat.le_refl _ | apply below_drewN | apply Below.alloc)
      | false =>
        obtain ⟨e2, he2⟩ : ∃ k, (hd.toList == [46, 99, 111, 109, 112]) = k := ⟨_, rfl⟩
        cases e2 with
        | true =>
          have HSG := Lib.hid (show sign (c :: r) = .tok 4 ((c :: r).take (1 + N)) 0 (1 + N) from sign_head HN.out HC46.out (by rw [← HHD.out]; exact heads_of hd (L := [46, 99, 111, 109, 112]) (by decide) he2))
          have HA := Lib.hid (add_of (x := hd) (k := 1 + N) HR.out HLL.out hq65 hNt65 HBW.out HHD.out (1 + (N : Int)) (by push_cast; rfl))
          go_wp2_with (first
            | (go_at_call 29; (with_reducible refine (HP.out _).mono ?_); rintro e w2 ⟨rfl, rfl⟩)
            | (go_at_call 28; (with_reducible refine (HI.out _).mono ?_); rintro e w2 ⟨rfl, rfl⟩)
            | (go_at_call 46; (with_reducible refine (HC.out _ ?bel).mono ?_); (case bel => repeat (first | exact Below.refl _ _ | exact Nat.le_refl _ | apply below_drewN | apply Below.alloc)); rintro e w2 ⟨rfl, rfl⟩)
            | (go_at_call 25; (with_reducible refine (HWD.out _).mono ?_); rintro e w2 ⟨rfl, ⟨nd, rfl⟩⟩)
            | (go_at_call 31; (with_reducible refine (HF.out _ ?bel).mono ?_); (case bel => repeat (first | exact Below.refl _ _ | exact Nat.le_refl _ | apply below_drewN | apply Below.alloc)); rintro e w3 ⟨rfl, hr3, hb3⟩)
            | (go_at_call 32; (with_reducible refine (HA.out _ ?bel).mono ?_); (case bel => repeat (first | exact Below.refl _ _ | exact Nat.le_refl _ | apply below_drewN | apply Below.alloc)); rintro e w3 ⟨rfl, hr3, hb3⟩))
          go_ret
          refine ⟨Below.trans ?_ hb3, by rw [HSG.out]; exact ⟨rfl, hr3⟩⟩
          refine Below.mono (B := w.heap.size) ?_ HBW.out
          repeat (first | exact Below.refl _ _ | exact Nat.le_refl _ | apply below_drewN | apply Below.alloc)
        | false =>
          obtain ⟨e3, he3⟩ : ∃ k, (hd.toList == [46, 105, 110, 105, 116]) = k := ⟨_, rfl⟩
          cases e3 with
          | true =>
            have HSG := Lib.hid (show sign (c :: r) = .tok 4 ((c :: r).take (1 + N)) 0 (1 + N) from sign_head HN.out HC46.out (by rw [← HHD.out]; exact heads_of hd (L := [46, 105, 110, 105, 116]) (by decide) he3))
            have HA := Lib.hid (add_of (x := hd) (k := 1 + N) HR.out HLL.out hq65 hNt65 HBW.out HHD.out (1 + (N : Int)) (by push_cast; rfl))
            go_wp2_with (first
              | (go_at_call 29; (with_reducible refine (HP.out _).mono ?_); rintro e w2 ⟨rfl, rfl⟩)
              | (go_at_call 28; (with_reducible refine (HI.out _).mono ?_); rintro e w2 ⟨rfl, rfl⟩)
              | (go_at_call 46; (with_reducible refine (HC.out _ ?bel).mono ?_); (case bel => repeat (first | exact Below.refl _ _ | exact Nat.le_refl _ | apply below_drewN | apply Below.alloc)); rintro e w2 ⟨rfl, rfl⟩)
              | (go_at_call 25; (with_reducible refine (HWD.out _).mono ?_); rintro e w2 ⟨rfl, ⟨nd, rfl⟩⟩)
              | (go_at_call 31; (with_reducible refine (HF.out _ ?bel).mono ?_); (case bel => repeat (first | exact Below.refl _ _ | exact Nat.le_refl _ | apply below_drewN | apply Below.alloc)); rintro e w3 ⟨rfl, hr3, hb3⟩)
              | (go_at_call 32; (with_reducible refine (HA.out _ ?bel).mono ?_); (case bel => repeat (first | exact Below.refl _ _ | exact Nat.le_refl _ | apply below_drewN | apply Below.alloc)); rintro e w3 ⟨rfl, hr3, hb3⟩))
            go_ret
            refine ⟨Below.trans ?_ hb3, by rw [HSG.out]; exact ⟨rfl, hr3⟩⟩
            refine Below.mono (B := w.heap.size) ?_ HBW.out
            repeat (first | exact Below.refl _ _ | exact Nat.le_refl _ | apply below_drewN | apply Below.alloc)
          | false =>
            have HNH := Lib.hid (sign_nohead (c := c) (r := r) (by rw [HN.out]; exact fun h => heads_not hd he0 he1 he2 he3 (by rw [HHD.out]; exact h.2)))
            go_wp2_with (first
              | (go_at_call 29; (with_reducible refine (HP.out _).mono ?_); rintro e w2 ⟨rfl, rfl⟩)
              | (go_at_call 28; (with_reducible refine (HI.out _).mono ?_); rintro e w2 ⟨rfl, rfl⟩)
              | (go_at_call 46; (with_reducible refine (HC.out _ ?bel).mono ?_); (case bel => repeat (first | exact Below.refl _ _ | exact Nat.le_refl _ | apply below_drewN | apply Below.alloc)); rintro e w2 ⟨rfl, rfl⟩)
              | (go_at_call 25; (with_reducible refine (HWD.out _).mono ?_); rintro e w2 ⟨rfl, ⟨nd, rfl⟩⟩)
              | (go_at_call 31; (with_reducible refine (HF.out _ ?bel).mono ?_); (case bel => repeat (first | exact Below.refl _ _ | exact Nat.le_refl _ | apply below_drewN | apply Below.alloc)); rintro e w3 ⟨rfl, hr3, hb3⟩)
              | (go_at_call 32; (with_reducible refine (HA.out _ ?bel).mono ?_); (case bel => repeat (first | exact Below.refl _ _ | exact Nat.le_refl _ | apply below_drewN | apply Below.alloc)); rintro e w3 ⟨rfl, hr3, hb3⟩))
            cases hr2 : r with
            | nil =>
              have hz2 : decide ((t.size : Int) < 2) = true := decide_eq_true (by rw [← hrz, hr2]; decide)
              have HSL := Lib.hid (show signLen (c :: r) = if ones.contains c = true then 1 else 0 by rw [HNH.out, hr2]; rw [twos_one c]; rfl)
              clear hr2 hrz HNH hb0
              cases k1 with
              | true =>
                have HSG := Lib.hid (show sign (c :: r) = .tok 4 ((c :: r).take 1) 0 1 by unfold sign; rw [HSL.out, HONE.out]; rfl)
                have HA := Lib.hid (add_of (x := u1) (k := 1) HR.out HLL.out hq65 (by decide) HBW.out HU1.out 1 rfl)
                have hib : decide (0 ≤ I) = true := hI
                clear HSL HONE hI
                refine wp_loop_rounds 3 ?_
                rw [rounds_succ]
                go_wp2_with (first
                  | (go_at_call 29; (with_reducible refine (HP.out _).mono ?_); rintro e w2 ⟨rfl, rfl⟩)
                  | (go_at_call 28; (with_reducible refine (HI.out _).mono ?_); rintro e w2 ⟨rfl, rfl⟩)
                  | (go_at_call 46; (with_reducible refine (HC.out _ ?bel).mono ?_); (case bel => repeat (first | exact Below.refl _ _ | exact Nat.le_refl _ | apply below_drewN | apply Below.alloc)); rintro e w2 ⟨rfl, rfl⟩)
                  | (go_at_call 25; (with_reducible refine (HWD.out _).mono ?_); rintro e w2 ⟨rfl, ⟨nd, rfl⟩⟩)
                  | (go_at_call 31; (with_reducible refine (HF.out _ ?bel).mono ?_); (case bel => repeat (first | exact Below.refl _ _ | exact Nat.le_refl _ | apply below_drewN | apply Below.alloc)); rintro e w3 ⟨rfl, hr3, hb3⟩)
                  | (go_at_call 32; (with_reducible refine (HA.out _ ?bel).mono ?_); (case bel => repeat (first | exact Below.refl _ _ | exact Nat.le_refl _ | apply below_drewN | apply Below.alloc)); rintro e w3 ⟨rfl, hr3, hb3⟩))
                rw [rounds_succ]
                go_wp2_with (first
                  | (go_at_call 29; (with_reducible refine (HP.out _).mono ?_); rintro e w2 ⟨rfl, rfl⟩)
                  | (go_at_call 28; (with_reducible refine (HI.out _).mono ?_); rintro e w2 ⟨rfl, rfl⟩)
                  | (go_at_call 46; (with_reducible refine (HC.out _ ?bel).mono ?_); (case bel => repeat (first | exact Below.refl _ _ | exact Nat.le_refl _ | apply below_drewN | apply Below.alloc)); rintro e w2 ⟨rfl, rfl⟩)
                  | (go_at_call 25; (with_reducible refine (HWD.out _).mono ?_); rintro e w2 ⟨rfl, ⟨nd, rfl⟩⟩)
                  | (go_at_call 31; (with_reducible refine (HF.out _ ?bel).mono ?_); (case bel => repeat (first | exact Below.refl _ _ | exact Nat.le_refl _ | apply below_drewN | apply Below.alloc)); rintro e w3 ⟨rfl, hr3, hb3⟩)
                  | (go_at_call 32; (with_reducible refine (HA.out _ ?bel).mono ?_); (case bel => repeat (first | exact Below.refl _ _ | exact Nat.le_refl _ | apply below_drewN | apply Below.alloc)); rintro e w3 ⟨rfl, hr3, hb3⟩))
                go_ret
                refine ⟨Below.trans ?_ hb3, by rw [HSG.out]; exact ⟨rfl, hr3⟩⟩
                refine Below.mono (B := w.heap.size) ?_ HBW.out
                repeat (first | exact Below.refl _ _ | exact Nat.le_refl _ | apply below_drewN | apply Below.alloc)
              | false =>
                have HSG := Lib.hid (show sign (c :: r) = .bad 7 0 by unfold sign; rw [HSL.out, HONE.out]; rfl)
                have HF := Lib.hid (fun w2 hb => fail_any w2 B b s (q : Int) l why fat 7 (q : Int) (RS.below (w' := w2) HR.out hb))
                have hib : decide (0 ≤ I) = false := hI
                clear HSL HONE hI
                refine wp_loop_rounds 3 ?_
                rw [rounds_succ]
                go_wp2_with (first
                  | (go_at_call 29; (with_reducible refine (HP.out _).mono ?_); rintro e w2 ⟨rfl, rfl⟩)
                  | (go_at_call 28; (with_reducible refine (HI.out _).mono ?_); rintro e w2 ⟨rfl, rfl⟩)
                  | (go_at_call 46; (with_reducible refine (HC.out _ ?bel).mono ?_); (case bel => repeat (first | exact Below.refl _ _ | exact Nat.le_refl _ | apply below_drewN | apply Below.alloc)); rintro e w2 ⟨rfl, rfl⟩)
                  | (go_at_call 25; (with_reducible refine (HWD.out _).mono ?_); rintro e w2 ⟨rfl, ⟨nd, rfl⟩⟩)
                  | (go_at_call 31; (with_reducible refine (HF.out _ ?bel).mono ?_); (case bel => repeat (first | exact Below.refl _ _ | exact Nat.le_refl _ | apply below_drewN | apply Below.alloc)); rintro e w3 ⟨rfl, hr3, hb3⟩)
                  | (go_at_call 32; (with_reducible refine (HA.out _ ?bel).mono ?_); (case bel => repeat (first | exact Below.refl _ _ | exact Nat.le_refl _ | apply below_drewN | apply Below.alloc)); rintro e w3 ⟨rfl, hr3, hb3⟩))
                rw [rounds_succ]
                go_wp2_with (first
                  | (go_at_call 29; (with_reducible refine (HP.out _).mono ?_); rintro e w2 ⟨rfl, rfl⟩)
                  | (go_at_call 28; (with_reducible refine (HI.out _).mono ?_); rintro e w2 ⟨rfl, rfl⟩)
                  | (go_at_call 46; (with_reducible refine (HC.out _ ?bel).mono ?_); (case bel => repeat (first | exact Below.refl _ _ | exact Nat.le_refl _ | apply below_drewN | apply Below.alloc)); rintro e w2 ⟨rfl, rfl⟩)
                  | (go_at_call 25; (with_reducible refine (HWD.out _).mono ?_); rintro e w2 ⟨rfl, ⟨nd, rfl⟩⟩)
                  | (go_at_call 31; (with_reducible refine (HF.out _ ?bel).mono ?_); (case bel => repeat (first | exact Below.refl _ _ | exact Nat.le_refl _ | apply below_drewN | apply Below.alloc)); rintro e w3 ⟨rfl, hr3, hb3⟩)
                  | (go_at_call 32; (with_reducible refine (HA.out _ ?bel).mono ?_); (case bel => repeat (first | exact Below.refl _ _ | exact Nat.le_refl _ | apply below_drewN | apply Below.alloc)); rintro e w3 ⟨rfl, hr3, hb3⟩))
                rw [rounds_succ]
                go_wp2_with (first
                  | (go_at_call 29; (with_reducible refine (HP.out _).mono ?_); rintro e w2 ⟨rfl, rfl⟩)
                  | (go_at_call 28; (with_reducible refine (HI.out _).mono ?_); rintro e w2 ⟨rfl, rfl⟩)
                  | (go_at_call 46; (with_reducible refine (HC.out _ ?bel).mono ?_); (case bel => repeat (first | exact Below.refl _ _ | exact Nat.le_refl _ | apply below_drewN | apply Below.alloc)); rintro e w2 ⟨rfl, rfl⟩)
                  | (go_at_call 25; (with_reducible refine (HWD.out _).mono ?_); rintro e w2 ⟨rfl, ⟨nd, rfl⟩⟩)
                  | (go_at_call 31; (with_reducible refine (HF.out _ ?bel).mono ?_); (case bel => repeat (first | exact Below.refl _ _ | exact Nat.le_refl _ | apply below_drewN | apply Below.alloc)); rintro e w3 ⟨rfl, hr3, hb3⟩)
                  | (go_at_call 32; (with_reducible refine (HA.out _ ?bel).mono ?_); (case bel => repeat (first | exact Below.refl _ _ | exact Nat.le_refl _ | apply below_drewN | apply Below.alloc)); rintro e w3 ⟨rfl, hr3, hb3⟩))
                go_ret
                refine ⟨Below.trans ?_ hb3, by rw [HSG.out]; exact ⟨rfl, hr3⟩⟩
                refine Below.mono (B := w.heap.size) ?_ HBW.out
                repeat (first | exact Below.refl _ _ | exact Nat.le_refl _ | apply below_drewN | apply Below.alloc)
            | cons d r2 =>
              have hz2 : decide ((t.size : Int) < 2) = false := decide_eq_false (by rw [← hrz, hr2]; simp; omega)
              have h2s : 2 ≤ t.size := by rw [← hrz, hr2]; simp
              obtain ⟨hbd, _, _⟩ := bt_of t 1 d r2 (by rw [HTL.out, hr2]; rfl)
              have hxd : ∀ h : 1 < t.size, ((t[1]'h).toNat : Int) = bt t 1 := bt_at t 1
              obtain ⟨u, hu⟩ : ∃ x, t.extract 0 2 = x := ⟨_, rfl⟩
              have HU : Hid (u.data.toList = (c :: r).take 2) := Lib.hid (by rw [← hu, take_data, HTL.out])
              have hu2 : u.data.toList = [c, d] := by rw [HU.out, hr2]; rfl
              obtain ⟨K, hK⟩ : ∃ k, Lib.contains [58, 45, 32, 60, 58, 32, 60, 61, 32, 62, 61, 32, 33, 61] [c, d] = k := ⟨_, rfl⟩
              have HC : Hid (∀ w2, Below w.heap.size w w2 → Calls Tryd.prog 46 #[.string ⟨#[58, 45, 32, 60, 58, 32, 60, 61, 32, 62, 61, 32, 33, 61]⟩, .string u] w2 fun e w' => e = .returned (.bool K) ∧ w' = w2) := Lib.hid (fun w2 hb => by
                obtain ⟨m, hm⟩ := max_below hb (Nat.lt_of_lt_of_le hB0 HBW.out) hM
                have := Tryd.strings_Contains ⟨#[58, 45, 32, 60, 58, 32, 60, 61, 32, 62, 61, 32, 33, 61]⟩ u m w2 (by decide) hm
                rw [hu2] at this
                rw [← hK]
                exact this)
              have h2x := two_index c d
              rw [hK] at h2x
              obtain ⟨ka, hka⟩ : ∃ k, (c != 32) = k := ⟨_, rfl⟩
              obtain ⟨kb, hkb⟩ : ∃ k, (d != 32) = k := ⟨_, rfl⟩
              rw [hka, hkb] at h2x
              have hkb2 : (bt t 1 != 32) = kb := by rw [← hkb, show bt t 1 = (d.toNat : Int) from hbd]; exact ne32 d
              have hka2 : (bt t 0 != 32) = ka := by rw [← hka, hb0]; exact ne32 c
              have HNH2 := Lib.hid (show signLen (c :: r) = if (K && ka && kb) = true then 2 else if ones.contains c = true then 1 else 0 by rw [HNH.out, ← h2x, hr2]; rfl)
              clear hr2 hrz HNH hu2 hK h2x hka hkb hbd hb0
              cases K with
              | true =>
                cases ka with
                | true =>
                  cases kb with
                  | true =>
                    have HSL := Lib.hid (show signLen (c :: r) = 2 from HNH2.out)
                    clear HNH2
                    have HSG := Lib.hid (show sign (c :: r) = .tok 4 ((c :: r).take 2) 0 2 by unfold sign; rw [HSL.out]; rfl)
                    have HA := Lib.hid (add_of (x := u) (k := 2) HR.out HLL.out hq65 (by decide) HBW.out HU.out 2 rfl)
                    clear HSL hI
                    refine wp_loop_rounds 3 ?_
                    rw [rounds_succ]
                    go_wp2_with (first
                      | (go_at_call 29; (with_reducible refine (HP.out _).mono ?_); rintro e w2 ⟨rfl, rfl⟩)
                      | (go_at_call 28; (with_reducible refine (HI.out _).mono ?_); rintro e w2 ⟨rfl, rfl⟩)
                      | (go_at_call 46; (with_reducible refine (HC.out _ ?bel).mono ?_); (case bel => repeat (first | exact Below.refl _ _ | exact Nat.le_refl _ | apply below_drewN | apply Below.alloc)); rintro e w2 ⟨rfl, rfl⟩)
                      | (go_at_call 25; (with_reducible refine (HWD.out _).mono ?_); rintro e w2 ⟨rfl, ⟨nd, rfl⟩⟩)
                      | (go_at_call 31; (with_reducible refine (HF.out _ ?bel).mono ?_); (case bel => repeat (first | exact Below.refl _ _ | exact Nat.le_refl _ | apply below_drewN | apply Below.alloc)); rintro e w3 ⟨rfl, hr3, hb3⟩)
                      | (go_at_call 32; (with_reducible refine (HA.out _ ?bel).mono ?_); (case bel => repeat (first | exact Below.refl _ _ | exact Nat.le_refl _ | apply below_drewN | apply Below.alloc)); rintro e w3 ⟨rfl, hr3, hb3⟩))
                    go_ret
                    refine ⟨Below.trans ?_ hb3, by rw [HSG.out]; exact ⟨rfl, hr3⟩⟩
                    refine Below.mono (B := w.heap.size) ?_ HBW.out
                    repeat (first | exact Below.refl _ _ | exact Nat.le_refl _ | apply below_drewN | apply Below.alloc)
                  | false =>
                    have HSL := Lib.hid (show signLen (c :: r) = if ones.contains c = true then 1 else 0 from HNH2.out)
                    clear HNH2
                    cases k1 with
                    | true =>
                      have HSG := Lib.hid (show sign (c :: r) = .tok 4 ((c :: r).take 1) 0 1 by unfold sign; rw [HSL.out, HONE.out]; rfl)
                      have HA := Lib.hid (add_of (x := u1) (k := 1) HR.out HLL.out hq65 (by decide) HBW.out HU1.out 1 rfl)
                      have hib : decide (0 ≤ I) = true := hI
                      clear HSL HONE hI
                      refine wp_loop_rounds 3 ?_
                      rw [rounds_succ]
                      go_wp2_with (first
                        | (go_at_call 29; (with_reducible refine (HP.out _).mono ?_); rintro e w2 ⟨rfl, rfl⟩)
                        | (go_at_call 28; (with_reducible refine (HI.out _).mono ?_); rintro e w2 ⟨rfl, rfl⟩)
                        | (go_at_call 46; (with_reducible refine (HC.out _ ?bel).mono ?_); (case bel => repeat (first | exact Below.refl _ _ | exact Nat.le_refl _ | apply below_drewN | apply Below.alloc)); rintro e w2 ⟨rfl, rfl⟩)
                        | (go_at_call 25; (with_reducible refine (HWD.out _).mono ?_); rintro e w2 ⟨rfl, ⟨nd, rfl⟩⟩)
                        | (go_at_call 31; (with_reducible refine (HF.out _ ?bel).mono ?_); (case bel => repeat (first | exact Below.refl _ _ | exact Nat.le_refl _ | apply below_drewN | apply Below.alloc)); rintro e w3 ⟨rfl, hr3, hb3⟩)
                        | (go_at_call 32; (with_reducible refine (HA.out _ ?bel).mono ?_); (case bel => repeat (first | exact Below.refl _ _ | exact Nat.le_refl _ | apply below_drewN | apply Below.alloc)); rintro e w3 ⟨rfl, hr3, hb3⟩))
                      rw [rounds_succ]
                      go_wp2_with (first
                        | (go_at_call 29; (with_reducible refine (HP.out _).mono ?_); rintro e w2 ⟨rfl, rfl⟩)
                        | (go_at_call 28; (with_reducible refine (HI.out _).mono ?_); rintro e w2 ⟨rfl, rfl⟩)
                        | (go_at_call 46; (with_reducible refine (HC.out _ ?bel).mono ?_); (case bel => repeat (first | exact Below.refl _ _ | exact Nat.le_refl _ | apply below_drewN | apply Below.alloc)); rintro e w2 ⟨rfl, rfl⟩)
                        | (go_at_call 25; (with_reducible refine (HWD.out _).mono ?_); rintro e w2 ⟨rfl, ⟨nd, rfl⟩⟩)
                        | (go_at_call 31; (with_reducible refine (HF.out _ ?bel).mono ?_); (case bel => repeat (first | exact Below.refl _ _ | exact Nat.le_refl _ | apply below_drewN | apply Below.alloc)); rintro e w3 ⟨rfl, hr3, hb3⟩)
                        | (go_at_call 32; (with_reducible refine (HA.out _ ?bel).mono ?_); (case bel => repeat (first | exact Below.refl _ _ | exact Nat.le_refl _ | apply below_drewN | apply Below.alloc)); rintro e w3 ⟨rfl, hr3, hb3⟩))
                      go_ret
                      refine ⟨Below.trans ?_ hb3, by rw [HSG.out]; exact ⟨rfl, hr3⟩⟩
                      refine Below.mono (B := w.heap.size) ?_ HBW.out
                      repeat (first | exact Below.refl _ _ | exact Nat.le_refl _ | apply below_drewN | apply Below.alloc)
                    | false =>
                      have HSG := Lib.hid (show sign (c :: r) = .bad 7 0 by unfold sign; rw [HSL.out, HONE.out]; rfl)
                      have HF := Lib.hid (fun w2 hb => fail_any w2 B b s (q : Int) l why fat 7 (q : Int) (RS.below (w' := w2) HR.out hb))
                      have hib : decide (0 ≤ I) = false := hI
                      clear HSL HONE hI
                      refine wp_loop_rounds 3 ?_
                      rw [rounds_succ]
                      go_wp2_with (first
                        | (go_at_call 29; (with_reducible refine (HP.out _).mono ?_); rintro e w2 ⟨rfl, rfl⟩)
                        | (go_at_call 28; (with_reducible refine (HI.out _).mono ?_); rintro e w2 ⟨rfl, rfl⟩)
                        | (go_at_call 46; (with_reducible refine (HC.out _ ?bel).mono ?_); (case bel => repeat (first | exact Below.refl _ _ | exact Nat.le_refl _ | apply below_drewN | apply Below.alloc)); rintro e w2 ⟨rfl, rfl⟩)
                        | (go_at_call 25; (with_reducible refine (HWD.out _).mono ?_); rintro e w2 ⟨rfl, ⟨nd, rfl⟩⟩)
                        | (go_at_call 31; (with_reducible refine (HF.out _ ?bel).mono ?_); (case bel => repeat (first | exact Below.refl _ _ | exact Nat.le_refl _ | apply below_drewN | apply Below.alloc)); rintro e w3 ⟨rfl, hr3, hb3⟩)
                        | (go_at_call 32; (with_reducible refine (HA.out _ ?bel).mono ?_); (case bel => repeat (first | exact Below.refl _ _ | exact Nat.le_refl _ | apply below_drewN | apply Below.alloc)); rintro e w3 ⟨rfl, hr3, hb3⟩))
                      rw [rounds_succ]
                      go_wp2_with (first
                        | (go_at_call 29; (with_reducible refine (HP.out _).mono ?_); rintro e w2 ⟨rfl, rfl⟩)
                        | (go_at_call 28; (with_reducible refine (HI.out _).mono ?_); rintro e w2 ⟨rfl, rfl⟩)
                        | (go_at_call 46; (with_reducible refine (HC.out _ ?bel).mono ?_); (case bel => repeat (first | exact Below.refl _ _ | exact Nat.le_refl _ | apply below_drewN | apply Below.alloc)); rintro e w2 ⟨rfl, rfl⟩)
                        | (go_at_call 25; (with_reducible refine (HWD.out _).mono ?_); rintro e w2 ⟨rfl, ⟨nd, rfl⟩⟩)
                        | (go_at_call 31; (with_reducible refine (HF.out _ ?bel).mono ?_); (case bel => repeat (first | exact Below.refl _ _ | exact Nat.le_refl _ | apply below_drewN | apply Below.alloc)); rintro e w3 ⟨rfl, hr3, hb3⟩)
                        | (go_at_call 32; (with_reducible refine (HA.out _ ?bel).mono ?_); (case bel => repeat (first | exact Below.refl _ _ | exact Nat.le_refl _ | apply below_drewN | apply Below.alloc)); rintro e w3 ⟨rfl, hr3, hb3⟩))
                      rw [rounds_succ]
                      go_wp2_with (first
                        | (go_at_call 29; (with_reducible refine (HP.out _).mono ?_); rintro e w2 ⟨rfl, rfl⟩)
                        | (go_at_call 28; (with_reducible refine (HI.out _).mono ?_); rintro e w2 ⟨rfl, rfl⟩)
                        | (go_at_call 46; (with_reducible refine (HC.out _ ?bel).mono ?_); (case bel => repeat (first | exact Below.refl _ _ | exact Nat.le_refl _ | apply below_drewN | apply Below.alloc)); rintro e w2 ⟨rfl, rfl⟩)
                        | (go_at_call 25; (with_reducible refine (HWD.out _).mono ?_); rintro e w2 ⟨rfl, ⟨nd, rfl⟩⟩)
                        | (go_at_call 31; (with_reducible refine (HF.out _ ?bel).mono ?_); (case bel => repeat (first | exact Below.refl _ _ | exact Nat.le_refl _ | apply below_drewN | apply Below.alloc)); rintro e w3 ⟨rfl, hr3, hb3⟩)
                        | (go_at_call 32; (with_reducible refine (HA.out _ ?bel).mono ?_); (case bel => repeat (first | exact Below.refl _ _ | exact Nat.le_refl _ | apply below_drewN | apply Below.alloc)); rintro e w3 ⟨rfl, hr3, hb3⟩))
                      go_ret
                      refine ⟨Below.trans ?_ hb3, by rw [HSG.out]; exact ⟨rfl, hr3⟩⟩
                      refine Below.mono (B := w.heap.size) ?_ HBW.out
                      repeat (first | exact Below.refl _ _ | exact Nat.le_refl _ | apply below_drewN | apply Below.alloc)
                | false =>
                  have HSL := Lib.hid (show signLen (c :: r) = if ones.contains c = true then 1 else 0 from HNH2.out)
                  clear HNH2
                  cases k1 with
                  | true =>
                    have HSG := Lib.hid (show sign (c :: r) = .tok 4 ((c :: r).take 1) 0 1 by unfold sign; rw [HSL.out, HONE.out]; rfl)
                    have HA := Lib.hid (add_of (x := u1) (k := 1) HR.out HLL.out hq65 (by decide) HBW.out HU1.out 1 rfl)
                    have hib : decide (0 ≤ I) = true := hI
                    clear HSL HONE hI
                    refine wp_loop_rounds 3 ?_
                    rw [rounds_succ]
                    go_wp2_with (first
                      | (go_at_call 29; (with_reducible refine (HP.out _).mono ?_); rintro e w2 ⟨rfl, rfl⟩)
                      | (go_at_call 28; (with_reducible refine (HI.out _).mono ?_); rintro e w2 ⟨rfl, rfl⟩)
                      | (go_at_call 46; (with_reducible refine (HC.out _ ?bel).mono ?_); (case bel => repeat (first | exact Below.refl _ _ | exact Nat.le_refl _ | apply below_drewN | apply Below.alloc)); rintro e w2 ⟨rfl, rfl⟩)
                      | (go_at_call 25; (with_reducible refine (HWD.out _).mono ?_); rintro e w2 ⟨rfl, ⟨nd, rfl⟩⟩)
                      | (go_at_call 31; (with_reducible refine (HF.out _ ?bel).mono ?_); (case bel => repeat (first | exact Below.refl _ _ | exact Nat.le_refl _ | apply below_drewN | apply Below.alloc)); rintro e w3 ⟨rfl, hr3, hb3⟩)
                      | (go_at_call 32; (with_reducible refine (HA.out _ ?bel).mono ?_); (case bel => repeat (first | exact Below.refl _ _ | exact Nat.le_refl _ | apply below_drewN | apply Below.alloc)); rintro e w3 ⟨rfl, hr3, hb3⟩))
                    rw [rounds_succ]
                    go_wp2_with (first
                      | (go_at_call 29; (with_reducible refine (HP.out _).mono ?_); rintro e w2 ⟨rfl, rfl⟩)
                      | (go_at_call 28; (with_reducible refine (HI.out _).mono ?_); rintro e w2 ⟨rfl, rfl⟩)
                      | (go_at_call 46; (with_reducible refine (HC.out _ ?bel).mono ?_); (case bel => repeat (first | exact Below.refl _ _ | exact Nat.le_refl _ | apply below_drewN | apply Below.alloc)); rintro e w2 ⟨rfl, rfl⟩)
                      | (go_at_call 25; (with_reducible refine (HWD.out _).mono ?_); rintro e w2 ⟨rfl, ⟨nd, rfl⟩⟩)
                      | (go_at_call 31; (with_reducible refine (HF.out _ ?bel).mono ?_); (case bel => repeat (first | exact Below.refl _ _ | exact Nat.le_refl _ | apply below_drewN | apply Below.alloc)); rintro e w3 ⟨rfl, hr3, hb3⟩)
                      | (go_at_call 32; (with_reducible refine (HA.out _ ?bel).mono ?_); (case bel => repeat (first | exact Below.refl _ _ | exact Nat.le_refl _ | apply below_drewN | apply Below.alloc)); rintro e w3 ⟨rfl, hr3, hb3⟩))
                    go_ret
                    refine ⟨Below.trans ?_ hb3, by rw [HSG.out]; exact ⟨rfl, hr3⟩⟩
                    refine Below.mono (B := w.heap.size) ?_ HBW.out
                    repeat (first | exact Below.refl _ _ | exact Nat.le_refl _ | apply below_drewN | apply Below.alloc)
                  | false =>
                    have HSG := Lib.hid (show sign (c :: r) = .bad 7 0 by unfold sign; rw [HSL.out, HONE.out]; rfl)
                    have HF := Lib.hid (fun w2 hb => fail_any w2 B b s (q : Int) l why fat 7 (q : Int) (RS.below (w' := w2) HR.out hb))
                    have hib : decide (0 ≤ I) = false := hI
                    clear HSL HONE hI
                    refine wp_loop_rounds 3 ?_
                    rw [rounds_succ]
                    go_wp2_with (first
                      | (go_at_call 29; (with_reducible refine (HP.out _).mono ?_); rintro e w2 ⟨rfl, rfl⟩)
                      | (go_at_call 28; (with_reducible refine (HI.out _).mono ?_); rintro e w2 ⟨rfl, rfl⟩)
                      | (go_at_call 46; (with_reducible refine (HC.out _ ?bel).mono ?_); (case bel => repeat (first | exact Below.refl _ _ | exact Nat.le_refl _ | apply below_drewN | apply Below.alloc)); rintro e w2 ⟨rfl, rfl⟩)
                      | (go_at_call 25; (with_reducible refine (HWD.out _).mono ?_); rintro e w2 ⟨rfl, ⟨nd, rfl⟩⟩)
                      | (go_at_call 31; (with_reducible refine (HF.out _ ?bel).mono ?_); (case bel => repeat (first | exact Below.refl _ _ | exact Nat.le_refl _ | apply below_drewN | apply Below.alloc)); rintro e w3 ⟨rfl, hr3, hb3⟩)
                      | (go_at_call 32; (with_reducible refine (HA.out _ ?bel).mono ?_); (case bel => repeat (first | exact Below.refl _ _ | exact Nat.le_refl _ | apply below_drewN | apply Below.alloc)); rintro e w3 ⟨rfl, hr3, hb3⟩))
                    rw [rounds_succ]
                    go_wp2_with (first
                      | (go_at_call 29; (with_reducible refine (HP.out _).mono ?_); rintro e w2 ⟨rfl, rfl⟩)
                      | (go_at_call 28; (with_reducible refine (HI.out _).mono ?_); rintro e w2 ⟨rfl, rfl⟩)
                      | (go_at_call 46; (with_reducible refine (HC.out _ ?bel).mono ?_); (case bel => repeat (first | exact Below.refl _ _ | exact Nat.le_refl _ | apply below_drewN | apply Below.alloc)); rintro e w2 ⟨rfl, rfl⟩)
                      | (go_at_call 25; (with_reducible refine (HWD.out _).mono ?_); rintro e w2 ⟨rfl, ⟨nd, rfl⟩⟩)
                      | (go_at_call 31; (with_reducible refine (HF.out _ ?bel).mono ?_); (case bel => repeat (first | exact Below.refl _ _ | exact Nat.le_refl _ | apply below_drewN | apply Below.alloc)); rintro e w3 ⟨rfl, hr3, hb3⟩)
                      | (go_at_call 32; (with_reducible refine (HA.out _ ?bel).mono ?_); (case bel => repeat (first | exact Below.refl _ _ | exact Nat.le_refl _ | apply below_drewN | apply Below.alloc)); rintro e w3 ⟨rfl, hr3, hb3⟩))
                    rw [rounds_succ]
                    go_wp2_with (first
                      | (go_at_call 29; (with_reducible refine (HP.out _).mono ?_); rintro e w2 ⟨rfl, rfl⟩)
                      | (go_at_call 28; (with_reducible refine (HI.out _).mono ?_); rintro e w2 ⟨rfl, rfl⟩)
                      | (go_at_call 46; (with_reducible refine (HC.out _ ?bel).mono ?_); (case bel => repeat (first | exact Below.refl _ _ | exact Nat.le_refl _ | apply below_drewN | apply Below.alloc)); rintro e w2 ⟨rfl, rfl⟩)
                      | (go_at_call 25; (with_reducible refine (HWD.out _).mono ?_); rintro e w2 ⟨rfl, ⟨nd, rfl⟩⟩)
                      | (go_at_call 31; (with_reducible refine (HF.out _ ?bel).mono ?_); (case bel => repeat (first | exact Below.refl _ _ | exact Nat.le_refl _ | apply below_drewN | apply Below.alloc)); rintro e w3 ⟨rfl, hr3, hb3⟩)
                      | (go_at_call 32; (with_reducible refine (HA.out _ ?bel).mono ?_); (case bel => repeat (first | exact Below.refl _ _ | exact Nat.le_refl _ | apply below_drewN | apply Below.alloc)); rintro e w3 ⟨rfl, hr3, hb3⟩))
                    go_ret
                    refine ⟨Below.trans ?_ hb3, by rw [HSG.out]; exact ⟨rfl, hr3⟩⟩
                    refine Below.mono (B := w.heap.size) ?_ HBW.out
                    repeat (first | exact Below.refl _ _ | exact Nat.le_refl _ | apply below_drewN | apply Below.alloc)
              | false =>
                have HSL := Lib.hid (show signLen (c :: r) = if ones.contains c = true then 1 else 0 from HNH2.out)
                clear HNH2
                cases k1 with
                | true =>
                  have HSG := Lib.hid (show sign (c :: r) = .tok 4 ((c :: r).take 1) 0 1 by unfold sign; rw [HSL.out, HONE.out]; rfl)
                  have HA := Lib.hid (add_of (x := u1) (k := 1) HR.out HLL.out hq65 (by decide) HBW.out HU1.out 1 rfl)
                  have hib : decide (0 ≤ I) = true := hI
                  clear HSL HONE hI
                  refine wp_loop_rounds 3 ?_
                  rw [rounds_succ]
                  go_wp2_with (first
                    | (go_at_call 29; (with_reducible refine (HP.out _).mono ?_); rintro e w2 ⟨rfl, rfl⟩)
                    | (go_at_call 28; (with_reducible refine (HI.out _).mono ?_); rintro e w2 ⟨rfl, rfl⟩)
                    | (go_at_call 46; (with_reducible refine (HC.out _ ?bel).mono ?_); (case bel => repeat (first | exact Below.refl _ _ | exact Nat.le_refl _ | apply below_drewN | apply Below.alloc)); rintro e w2 ⟨rfl, rfl⟩)
                    | (go_at_call 25; (with_reducible refine (HWD.out _).mono ?_); rintro e w2 ⟨rfl, ⟨nd, rfl⟩⟩)
                    | (go_at_call 31; (with_reducible refine (HF.out _ ?bel).mono ?_); (case bel => repeat (first | exact Below.refl _ _ | exact Nat.le_refl _ | apply below_drewN | apply Below.alloc)); rintro e w3 ⟨rfl, hr3, hb3⟩)
                    | (go_at_call 32; (with_reducible refine (HA.out _ ?bel).mono ?_); (case bel => repeat (first | exact Below.refl _ _ | exact Nat.le_refl _ | apply below_drewN | apply Below.alloc)); rintro e w3 ⟨rfl, hr3, hb3⟩))
                  rw [rounds_succ]
                  go_wp2_with (first
                    | (go_at_call 29; (with_reducible refine (HP.out _).mono ?_); rintro e w2 ⟨rfl, rfl⟩)
                    | (go_at_call 28; (with_reducible refine (HI.out _).mono ?_); rintro e w2 ⟨rfl, rfl⟩)
                    | (go_at_call 46; (with_reducible refine (HC.out _ ?bel).mono ?_); (case bel => repeat (first | exact Below.refl _ _ | exact Nat.le_refl _ | apply below_drewN | apply Below.alloc)); rintro e w2 ⟨rfl, rfl⟩)
                    | (go_at_call 25; (with_reducible refine (HWD.out _).mono ?_); rintro e w2 ⟨rfl, ⟨nd, rfl⟩⟩)
                    | (go_at_call 31; (with_reducible refine (HF.out _ ?bel).mono ?_); (case bel => repeat (first | exact Below.refl _ _ | exact Nat.le_refl _ | apply below_drewN | apply Below.alloc)); rintro e w3 ⟨rfl, hr3, hb3⟩)
                    | (go_at_call 32; (with_reducible refine (HA.out _ ?bel).mono ?_); (case bel => repeat (first | exact Below.refl _ _ | exact Nat.le_refl _ | apply below_drewN | apply Below.alloc)); rintro e w3 ⟨rfl, hr3, hb3⟩))
                  go_ret
                  refine ⟨Below.trans ?_ hb3, by rw [HSG.out]; exact ⟨rfl, hr3⟩⟩
                  refine Below.mono (B := w.heap.size) ?_ HBW.out
                  repeat (first | exact Below.refl _ _ | exact Nat.le_refl _ | apply below_drewN | apply Below.alloc)
                | false =>
                  have HSG := Lib.hid (show sign (c :: r) = .bad 7 0 by unfold sign; rw [HSL.out, HONE.out]; rfl)
                  have HF := Lib.hid (fun w2 hb => fail_any w2 B b s (q : Int) l why fat 7 (q : Int) (RS.below (w' := w2) HR.out hb))
                  have hib : decide (0 ≤ I) = false := hI
                  clear HSL HONE hI
                  refine wp_loop_rounds 3 ?_
                  rw [rounds_succ]
                  go_wp2_with (first
                    | (go_at_call 29; (with_reducible refine (HP.out _).mono ?_); rintro e w2 ⟨rfl, rfl⟩)
                    | (go_at_call 28; (with_reducible refine (HI.out _).mono ?_); rintro e w2 ⟨rfl, rfl⟩)
                    | (go_at_call 46; (with_reducible refine (HC.out _ ?bel).mono ?_); (case bel => repeat (first | exact Below.refl _ _ | exact Nat.le_refl _ | apply below_drewN | apply Below.alloc)); rintro e w2 ⟨rfl, rfl⟩)
                    | (go_at_call 25; (with_reducible refine (HWD.out _).mono ?_); rintro e w2 ⟨rfl, ⟨nd, rfl⟩⟩)
                    | (go_at_call 31; (with_reducible refine (HF.out _ ?bel).mono ?_); (case bel => repeat (first | exact Below.refl _ _ | exact Nat.le_refl _ | apply below_drewN | apply Below.alloc)); rintro e w3 ⟨rfl, hr3, hb3⟩)
                    | (go_at_call 32; (with_reducible refine (HA.out _ ?bel).mono ?_); (case bel => repeat (first | exact Below.refl _ _ | exact Nat.le_refl _ | apply below_drewN | apply Below.alloc)); rintro e w3 ⟨rfl, hr3, hb3⟩))
                  rw [rounds_succ]
                  go_wp2_with (first
                    | (go_at_call 29; (with_reducible refine (HP.out _).mono ?_); rintro e w2 ⟨rfl, rfl⟩)
                    | (go_at_call 28; (with_reducible refine (HI.out _).mono ?_); rintro e w2 ⟨rfl, rfl⟩)
                    | (go_at_call 46; (with_reducible refine (HC.out _ ?bel).mono ?_); (case bel => repeat (first | exact Below.refl _ _ | exact Nat.le_refl _ | apply below_drewN | apply Below.alloc)); rintro e w2 ⟨rfl, rfl⟩)
                    | (go_at_call 25; (with_reducible refine (HWD.out _).mono ?_); rintro e w2 ⟨rfl, ⟨nd, rfl⟩⟩)
                    | (go_at_call 31; (with_reducible refine (HF.out _ ?bel).mono ?_); (case bel => repeat (first | exact Below.refl _ _ | exact Nat.le_refl _ | apply below_drewN | apply Below.alloc)); rintro e w3 ⟨rfl, hr3, hb3⟩)
                    | (go_at_call 32; (with_reducible refine (HA.out _ ?bel).mono ?_); (case bel => repeat (first | exact Below.refl _ _ | exact Nat.le_refl _ | apply below_drewN | apply Below.alloc)); rintro e w3 ⟨rfl, hr3, hb3⟩))
                  rw [rounds_succ]
                  go_wp2_with (first
                    | (go_at_call 29; (with_reducible refine (HP.out _).mono ?_); rintro e w2 ⟨rfl, rfl⟩)
                    | (go_at_call 28; (with_reducible refine (HI.out _).mono ?_); rintro e w2 ⟨rfl, rfl⟩)
                    | (go_at_call 46; (with_reducible refine (HC.out _ ?bel).mono ?_); (case bel => repeat (first | exact Below.refl _ _ | exact Nat.le_refl _ | apply below_drewN | apply Below.alloc)); rintro e w2 ⟨rfl, rfl⟩)
                    | (go_at_call 25; (with_reducible refine (HWD.out _).mono ?_); rintro e w2 ⟨rfl, ⟨nd, rfl⟩⟩)
                    | (go_at_call 31; (with_reducible refine (HF.out _ ?bel).mono ?_); (case bel => repeat (first | exact Below.refl _ _ | exact Nat.le_refl _ | apply below_drewN | apply Below.alloc)); rintro e w3 ⟨rfl, hr3, hb3⟩)
                    | (go_at_call 32; (with_reducible refine (HA.out _ ?bel).mono ?_); (case bel => repeat (first | exact Below.refl _ _ | exact Nat.le_refl _ | apply below_drewN | apply Below.alloc)); rintro e w3 ⟨rfl, hr3, hb3⟩))
                  go_ret
                  refine ⟨Below.trans ?_ hb3, by rw [HSG.out]; exact ⟨rfl, hr3⟩⟩
                  refine Below.mono (B := w.heap.size) ?_ HBW.out
                  repeat (first | exact Below.refl _ _ | exact Nat.le_refl _ | apply below_drewN | apply Below.alloc)
  | false =>
    have HNH := Lib.hid (sign_nohead (c := c) (r := r) (fun h => by rw [h.1] at hk46; cases hk46))
    clear hwl HWD hk46
    go_wp2_with (first
      | (go_at_call 29; (with_reducible refine (HP.out _).mono ?_); rintro e w2 ⟨rfl, rfl⟩)
      | (go_at_call 28; (with_reducible refine (HI.out _).mono ?_); rintro e w2 ⟨rfl, rfl⟩)
      | (go_at_call 46; (with_reducible refine (HC.out _ ?bel).mono ?_); (case bel => repeat (first | exact Below.refl _ _ | exact Nat.le_refl _ | apply below_drewN | apply Below.alloc)); rintro e w2 ⟨rfl, rfl⟩)
      | (go_at_call 25; (with_reducible refine (HWD.out _).mono ?_); rintro e w2 ⟨rfl, ⟨nd, rfl⟩⟩)
      | (go_at_call 31; (with_reducible refine (HF.out _ ?bel).mono ?_); (case bel => repeat (first | exact Below.refl _ _ | exact Nat.le_refl _ | apply below_drewN | apply Below.alloc)); rintro e w3 ⟨rfl, hr3, hb3⟩)
      | (go_at_call 32; (with_reducible refine (HA.out _ ?bel).mono ?_); (case bel => repeat (first | exact Below.refl _ _ | exact Nat.le_refl _ | apply below_drewN | apply Below.alloc)); rintro e w3 ⟨rfl, hr3, hb3⟩))
    cases hr2 : r with
    | nil =>
      have hz2 : decide ((t.size : Int) < 2) = true := decide_eq_true (by rw [← hrz, hr2]; decide)
      have HSL := Lib.hid (show signLen (c :: r) = if ones.contains c = true then 1 else 0 by rw [HNH.out, hr2]; rw [twos_one c]; rfl)
      clear hr2 hrz HNH hb0
      cases k1 with
      | true =>
        have HSG := Lib.hid (show sign (c :: r) = .tok 4 ((c :: r).take 1) 0 1 by unfold sign; rw [HSL.out, HONE.out]; rfl)
        have HA := Lib.hid (add_of (x := u1) (k := 1) HR.out HLL.out hq65 (by decide) HBW.out HU1.out 1 rfl)
        have hib : decide (0 ≤ I) = true := hI
        clear HSL HONE hI
        refine wp_loop_rounds 3 ?_
        rw [rounds_succ]
        go_wp2_with (first
          | (go_at_call 29; (with_reducible refine (HP.out _).mono ?_); rintro e w2 ⟨rfl, rfl⟩)
          | (go_at_call 28; (with_reducible refine (HI.out _).mono ?_); rintro e w2 ⟨rfl, rfl⟩)
          | (go_at_call 46; (with_reducible refine (HC.out _ ?bel).mono ?_); (case bel => repeat (first | exact Below.refl _ _ | exact Nat.le_refl _ | apply below_drewN | apply Below.alloc)); rintro e w2 ⟨rfl, rfl⟩)
          | (go_at_call 25; (with_reducible refine (HWD.out _).mono ?_); rintro e w2 ⟨rfl, ⟨nd, rfl⟩⟩)
          | (go_at_call 31; (with_reducible refine (HF.out _ ?bel).mono ?_); (case bel => repeat (first | exact Below.refl _ _ | exact Nat.le_refl _ | apply below_drewN | apply Below.alloc)); rintro e w3 ⟨rfl, hr3, hb3⟩)
          | (go_at_call 32; (with_reducible refine (HA.out _ ?bel).mono ?_); (case bel => repeat (first | exact Below.refl _ _ | exact Nat.le_refl _ | apply below_drewN | apply Below.alloc)); rintro e w3 ⟨rfl, hr3, hb3⟩))
        rw [rounds_succ]
        go_wp2_with (first
          | (go_at_call 29; (with_reducible refine (HP.out _).mono ?_); rintro e w2 ⟨rfl, rfl⟩)
          | (go_at_call 28; (with_reducible refine (HI.out _).mono ?_); rintro e w2 ⟨rfl, rfl⟩)
          | (go_at_call 46; (with_reducible refine (HC.out _ ?bel).mono ?_); (case bel => repeat (first | exact Below.refl _ _ | exact Nat.le_refl _ | apply below_drewN | apply Below.alloc)); rintro e w2 ⟨rfl, rfl⟩)
          | (go_at_call 25; (with_reducible refine (HWD.out _).mono ?_); rintro e w2 ⟨rfl, ⟨nd, rfl⟩⟩)
          | (go_at_call 31; (with_reducible refine (HF.out _ ?bel).mono ?_); (case bel => repeat (first | exact Below.refl _ _ | exact Nat.le_refl _ | apply below_drewN | apply Below.alloc)); rintro e w3 ⟨rfl, hr3, hb3⟩)
          | (go_at_call 32; (with_reducible refine (HA.out _ ?bel).mono ?_); (case bel => repeat (first | exact Below.refl _ _ | exact Nat.le_refl _ | apply below_drewN | apply Below.alloc)); rintro e w3 ⟨rfl, hr3, hb3⟩))
        go_ret
        refine ⟨Below.trans ?_ hb3, by rw [HSG.out]; exact ⟨rfl, hr3⟩⟩
        refine Below.mono (B := w.heap.size) ?_ HBW.out
        repeat (first | exact Below.refl _ _ | exact Nat.le_refl _ | apply below_drewN | apply Below.alloc)
      | false =>
        have HSG := Lib.hid (show sign (c :: r) = .bad 7 0 by unfold sign; rw [HSL.out, HONE.out]; rfl)
        have HF := Lib.hid (fun w2 hb => fail_any w2 B b s (q : Int) l why fat 7 (q : Int) (RS.below (w' := w2) HR.out hb))
        have hib : decide (0 ≤ I) = false := hI
        clear HSL HONE hI
        refine wp_loop_rounds 3 ?_
        rw [rounds_succ]
        go_wp2_with (first
          | (go_at_call 29; (with_reducible refine (HP.out _).mono ?_); rintro e w2 ⟨rfl, rfl⟩)
          | (go_at_call 28; (with_reducible refine (HI.out _).mono ?_); rintro e w2 ⟨rfl, rfl⟩)
          | (go_at_call 46; (with_reducible refine (HC.out _ ?bel).mono ?_); (case bel => repeat (first | exact Below.refl _ _ | exact Nat.le_refl _ | apply below_drewN | apply Below.alloc)); rintro e w2 ⟨rfl, rfl⟩)
          | (go_at_call 25; (with_reducible refine (HWD.out _).mono ?_); rintro e w2 ⟨rfl, ⟨nd, rfl⟩⟩)
          | (go_at_call 31; (with_reducible refine (HF.out _ ?bel).mono ?_); (case bel => repeat (first | exact Below.refl _ _ | exact Nat.le_refl _ | apply below_drewN | apply Below.alloc)); rintro e w3 ⟨rfl, hr3, hb3⟩)
          | (go_at_call 32; (with_reducible refine (HA.out _ ?bel).mono ?_); (case bel => repeat (first | exact Below.refl _ _ | exact Nat.le_refl _ | apply below_drewN | apply Below.alloc)); rintro e w3 ⟨rfl, hr3, hb3⟩))
        rw [rounds_succ]
        go_wp2_with (first
          | (go_at_call 29; (with_reducible refine (HP.out _).mono ?_); rintro e w2 ⟨rfl, rfl⟩)
          | (go_at_call 28; (with_reducible refine (HI.out _).mono ?_); rintro e w2 ⟨rfl, rfl⟩)
          | (go_at_call 46; (with_reducible refine (HC.out _ ?bel).mono ?_); (case bel => repeat (first | exact Below.refl _ _ | exact Nat.le_refl _ | apply below_drewN | apply Below.alloc)); rintro e w2 ⟨rfl, rfl⟩)
          | (go_at_call 25; (with_reducible refine (HWD.out _).mono ?_); rintro e w2 ⟨rfl, ⟨nd, rfl⟩⟩)
          | (go_at_call 31; (with_reducible refine (HF.out _ ?bel).mono ?_); (case bel => repeat (first | exact Below.refl _ _ | exact Nat.le_refl _ | apply below_drewN | apply Below.alloc)); rintro e w3 ⟨rfl, hr3, hb3⟩)
          | (go_at_call 32; (with_reducible refine (HA.out _ ?bel).mono ?_); (case bel => repeat (first | exact Below.refl _ _ | exact Nat.le_refl _ | apply below_drewN | apply Below.alloc)); rintro e w3 ⟨rfl, hr3, hb3⟩))
        rw [rounds_succ]
        go_wp2_with (first
          | (go_at_call 29; (with_reducible refine (HP.out _).mono ?_); rintro e w2 ⟨rfl, rfl⟩)
          | (go_at_call 28; (with_reducible refine (HI.out _).mono ?_); rintro e w2 ⟨rfl, rfl⟩)
          | (go_at_call 46; (with_reducible refine (HC.out _ ?bel).mono ?_); (case bel => repeat (first | exact Below.refl _ _ | exact Nat.le_refl _ | apply below_drewN | apply Below.alloc)); rintro e w2 ⟨rfl, rfl⟩)
          | (go_at_call 25; (with_reducible refine (HWD.out _).mono ?_); rintro e w2 ⟨rfl, ⟨nd, rfl⟩⟩)
          | (go_at_call 31; (with_reducible refine (HF.out _ ?bel).mono ?_); (case bel => repeat (first | exact Below.refl _ _ | exact Nat.le_refl _ | apply below_drewN | apply Below.alloc)); rintro e w3 ⟨rfl, hr3, hb3⟩)
          | (go_at_call 32; (with_reducible refine (HA.out _ ?bel).mono ?_); (case bel => repeat (first | exact Below.refl _ _ | exact Nat.le_refl _ | apply below_drewN | apply Below.alloc)); rintro e w3 ⟨rfl, hr3, hb3⟩))
        go_ret
        refine ⟨Below.trans ?_ hb3, by rw [HSG.out]; exact ⟨rfl, hr3⟩⟩
        refine Below.mono (B := w.heap.size) ?_ HBW.out
        repeat (first | exact Below.refl _ _ | exact Nat.le_refl _ | apply below_drewN | apply Below.alloc)
    | cons d r2 =>
      have hz2 : decide ((t.size : Int) < 2) = false := decide_eq_false (by rw [← hrz, hr2]; simp; omega)
      have h2s : 2 ≤ t.size := by rw [← hrz, hr2]; simp
      obtain ⟨hbd, _, _⟩ := bt_of t 1 d r2 (by rw [HTL.out, hr2]; rfl)
      have hxd : ∀ h : 1 < t.size, ((t[1]'h).toNat : Int) = bt t 1 := bt_at t 1
      obtain ⟨u, hu⟩ : ∃ x, t.extract 0 2 = x := ⟨_, rfl⟩
      have HU : Hid (u.data.toList = (c :: r).take 2) := Lib.hid (by rw [← hu, take_data, HTL.out])
      have hu2 : u.data.toList = [c, d] := by rw [HU.out, hr2]; rfl
      obtain ⟨K, hK⟩ : ∃ k, Lib.contains [58, 45, 32, 60, 58, 32, 60, 61, 32, 62, 61, 32, 33, 61] [c, d] = k := ⟨_, rfl⟩
      have HC : Hid (∀ w2, Below w.heap.size w w2 → Calls Tryd.prog 46 #[.string ⟨#[58, 45, 32, 60, 58, 32, 60, 61, 32, 62, 61, 32, 33, 61]⟩, .string u] w2 fun e w' => e = .returned (.bool K) ∧ w' = w2) := Lib.hid (fun w2 hb => by
        obtain ⟨m, hm⟩ := max_below hb (Nat.lt_of_lt_of_le hB0 HBW.out) hM
        have := Tryd.strings_Contains ⟨#[58, 45, 32, 60, 58, 32, 60, 61, 32, 62, 61, 32, 33, 61]⟩ u m w2 (by decide) hm
        rw [hu2] at this
        rw [← hK]
        exact this)
      have h2x := two_index c d
      rw [hK] at h2x
      obtain ⟨ka, hka⟩ : ∃ k, (c != 32) = k := ⟨_, rfl⟩
      obtain ⟨kb, hkb⟩ : ∃ k, (d != 32) = k := ⟨_, rfl⟩
      rw [hka, hkb] at h2x
      have hkb2 : (bt t 1 != 32) = kb := by rw [← hkb, show bt t 1 = (d.toNat : Int) from hbd]; exact ne32 d
      have hka2 : (bt t 0 != 32) = ka := by rw [← hka, hb0]; exact ne32 c
      have HNH2 := Lib.hid (show signLen (c :: r) = if (K && ka && kb) = true then 2 else if ones.contains c = true then 1 else 0 by rw [HNH.out, ← h2x, hr2]; rfl)
      clear hr2 hrz HNH hu2 hK h2x hka hkb hbd hb0
      cases K with
      | true =>
        cases ka with
        | true =>
          cases kb with
          | true =>
            have HSL := Lib.hid (show signLen (c :: r) = 2 from HNH2.out)
            clear HNH2
            have HSG := Lib.hid (show sign (c :: r) = .tok 4 ((c :: r).take 2) 0 2 by unfold sign; rw [HSL.out]; rfl)
            have HA := Lib.hid (add_of (x := u) (k := 2) HR.out HLL.out hq65 (by decide) HBW.out HU.out 2 rfl)
            clear HSL hI
            refine wp_loop_rounds 3 ?_
            rw [rounds_succ]
            go_wp2_with (first
              | (go_at_call 29; (with_reducible refine (HP.out _).mono ?_); rintro e w2 ⟨rfl, rfl⟩)
              | (go_at_call 28; (with_reducible refine (HI.out _).mono ?_); rintro e w2 ⟨rfl, rfl⟩)
              | (go_at_call 46; (with_reducible refine (HC.out _ ?bel).mono ?_); (case bel => repeat (first | exact Below.refl _ _ | exact Nat.le_refl _ | apply below_drewN | apply Below.alloc)); rintro e w2 ⟨rfl, rfl⟩)
              | (go_at_call 25; (with_reducible refine (HWD.out _).mono ?_); rintro e w2 ⟨rfl, ⟨nd, rfl⟩⟩)
              | (go_at_call 31; (with_reducible refine (HF.out _ ?bel).mono ?_); (case bel => repeat (first | exact Below.refl _ _ | exact Nat.le_refl _ | apply below_drewN | apply Below.alloc)); rintro e w3 ⟨rfl, hr3, hb3⟩)
              | (go_at_call 32; (with_reducible refine (HA.out _ ?bel).mono ?_); (case bel => repeat (first | exact Below.refl _ _ | exact Nat.le_refl _ | apply below_drewN | apply Below.alloc)); rintro e w3 ⟨rfl, hr3, hb3⟩))
            go_ret
            refine ⟨Below.trans ?_ hb3, by rw [HSG.out]; exact ⟨rfl, hr3⟩⟩
            refine Below.mono (B := w.heap.size) ?_ HBW.out
            repeat (first | exact Below.refl _ _ | exact Nat.le_refl _ | apply below_drewN | apply Below.alloc)
          | false =>
            have HSL := Lib.hid (show signLen (c :: r) = if ones.contains c = true then 1 else 0 from HNH2.out)
            clear HNH2
            cases k1 with
            | true =>
              have HSG := Lib.hid (show sign (c :: r) = .tok 4 ((c :: r).take 1) 0 1 by unfold sign; rw [HSL.out, HONE.out]; rfl)
              have HA := Lib.hid (add_of (x := u1) (k := 1) HR.out HLL.out hq65 (by decide) HBW.out HU1.out 1 rfl)
              have hib : decide (0 ≤ I) = true := hI
              clear HSL HONE hI
              refine wp_loop_rounds 3 ?_
              rw [rounds_succ]
              go_wp2_with (first
                | (go_at_call 29; (with_reducible refine (HP.out _).mono ?_); rintro e w2 ⟨rfl, rfl⟩)
                | (go_at_call 28; (with_reducible refine (HI.out _).mono ?_); rintro e w2 ⟨rfl, rfl⟩)
                | (go_at_call 46; (with_reducible refine (HC.out _ ?bel).mono ?_); (case bel => repeat (first | exact Below.refl _ _ | exact Nat.le_refl _ | apply below_drewN | apply Below.alloc)); rintro e w2 ⟨rfl, rfl⟩)
                | (go_at_call 25; (with_reducible refine (HWD.out _).mono ?_); rintro e w2 ⟨rfl, ⟨nd, rfl⟩⟩)
                | (go_at_call 31; (with_reducible refine (HF.out _ ?bel).mono ?_); (case bel => repeat (first | exact Below.refl _ _ | exact Nat.le_refl _ | apply below_drewN | apply Below.alloc)); rintro e w3 ⟨rfl, hr3, hb3⟩)
                | (go_at_call 32; (with_reducible refine (HA.out _ ?bel).mono ?_); (case bel => repeat (first | exact Below.refl _ _ | exact Nat.le_refl _ | apply below_drewN | apply Below.alloc)); rintro e w3 ⟨rfl, hr3, hb3⟩))
              rw [rounds_succ]
              go_wp2_with (first
                | (go_at_call 29; (with_reducible refine (HP.out _).mono ?_); rintro e w2 ⟨rfl, rfl⟩)
                | (go_at_call 28; (with_reducible refine (HI.out _).mono ?_); rintro e w2 ⟨rfl, rfl⟩)
                | (go_at_call 46; (with_reducible refine (HC.out _ ?bel).mono ?_); (case bel => repeat (first | exact Below.refl _ _ | exact Nat.le_refl _ | apply below_drewN | apply Below.alloc)); rintro e w2 ⟨rfl, rfl⟩)
                | (go_at_call 25; (with_reducible refine (HWD.out _).mono ?_); rintro e w2 ⟨rfl, ⟨nd, rfl⟩⟩)
                | (go_at_call 31; (with_reducible refine (HF.out _ ?bel).mono ?_); (case bel => repeat (first | exact Below.refl _ _ | exact Nat.le_refl _ | apply below_drewN | apply Below.alloc)); rintro e w3 ⟨rfl, hr3, hb3⟩)
                | (go_at_call 32; (with_reducible refine (HA.out _ ?bel).mono ?_); (case bel => repeat (first | exact Below.refl _ _ | exact Nat.le_refl _ | apply below_drewN | apply Below.alloc)); rintro e w3 ⟨rfl, hr3, hb3⟩))
              go_ret
              refine ⟨Below.trans ?_ hb3, by rw [HSG.out]; exact ⟨rfl, hr3⟩⟩
              refine Below.mono (B := w.heap.size) ?_ HBW.out
              repeat (first | exact Below.refl _ _ | exact Nat.le_refl _ | apply below_drewN | apply Below.alloc)
            | false =>
              have HSG := Lib.hid (show sign (c :: r) = .bad 7 0 by unfold sign; rw [HSL.out, HONE.out]; rfl)
              have HF := Lib.hid (fun w2 hb => fail_any w2 B b s (q : Int) l why fat 7 (q : Int) (RS.below (w' := w2) HR.out hb))
              have hib : decide (0 ≤ I) = false := hI
              clear HSL HONE hI
              refine wp_loop_rounds 3 ?_
              rw [rounds_succ]
              go_wp2_with (first
                | (go_at_call 29; (with_reducible refine (HP.out _).mono ?_); rintro e w2 ⟨rfl, rfl⟩)
                | (go_at_call 28; (with_reducible refine (HI.out _).mono ?_); rintro e w2 ⟨rfl, rfl⟩)
                | (go_at_call 46; (with_reducible refine (HC.out _ ?bel).mono ?_); (case bel => repeat (first | exact Below.refl _ _ | exact Nat.le_refl _ | apply below_drewN | apply Below.alloc)); rintro e w2 ⟨rfl, rfl⟩)
                | (go_at_call 25; (with_reducible refine (HWD.out _).mono ?_); rintro e w2 ⟨rfl, ⟨nd, rfl⟩⟩)
                | (go_at_call 31; (with_reducible refine (HF.out _ ?bel).mono ?_); (case bel => repeat (first | exact Below.refl _ _ | exact Nat.le_refl _ | apply below_drewN | apply Below.alloc)); rintro e w3 ⟨rfl, hr3, hb3⟩)
                | (go_at_call 32; (with_reducible refine (HA.out _ ?bel).mono ?_); (case bel => repeat (first | exact Below.refl _ _ | exact Nat.le_refl _ | apply below_drewN | apply Below.alloc)); rintro e w3 ⟨rfl, hr3, hb3⟩))
              rw [rounds_succ]
              go_wp2_with (first
                | (go_at_call 29; (with_reducible refine (HP.out _).mono ?_); rintro e w2 ⟨rfl, rfl⟩)
                | (go_at_call 28; (with_reducible refine (HI.out _).mono ?_); rintro e w2 ⟨rfl, rfl⟩)
                | (go_at_call 46; (with_reducible refine (HC.out _ ?bel).mono ?_); (case bel => repeat (first | exact Below.refl _ _ | exact Nat.le_refl _ | apply below_drewN | apply Below.alloc)); rintro e w2 ⟨rfl, rfl⟩)
                | (go_at_call 25; (with_reducible refine (HWD.out _).mono ?_); rintro e w2 ⟨rfl, ⟨nd, rfl⟩⟩)
                | (go_at_call 31; (with_reducible refine (HF.out _ ?bel).mono ?_); (case bel => repeat (first | exact Below.refl _ _ | exact Nat.le_refl _ | apply below_drewN | apply Below.alloc)); rintro e w3 ⟨rfl, hr3, hb3⟩)
                | (go_at_call 32; (with_reducible refine (HA.out _ ?bel).mono ?_); (case bel => repeat (first | exact Below.refl _ _ | exact Nat.le_refl _ | apply below_drewN | apply Below.alloc)); rintro e w3 ⟨rfl, hr3, hb3⟩))
              rw [rounds_succ]
              go_wp2_with (first
                | (go_at_call 29; (with_reducible refine (HP.out _).mono ?_); rintro e w2 ⟨rfl, rfl⟩)
                | (go_at_call 28; (with_reducible refine (HI.out _).mono ?_); rintro e w2 ⟨rfl, rfl⟩)
                | (go_at_call 46; (with_reducible refine (HC.out _ ?bel).mono ?_); (case bel => repeat (first | exact Below.refl _ _ | exact Nat.le_refl _ | apply below_drewN | apply Below.alloc)); rintro e w2 ⟨rfl, rfl⟩)
                | (go_at_call 25; (with_reducible refine (HWD.out _).mono ?_); rintro e w2 ⟨rfl, ⟨nd, rfl⟩⟩)
                | (go_at_call 31; (with_reducible refine (HF.out _ ?bel).mono ?_); (case bel => repeat (first | exact Below.refl _ _ | exact Nat.le_refl _ | apply below_drewN | apply Below.alloc)); rintro e w3 ⟨rfl, hr3, hb3⟩)
                | (go_at_call 32; (with_reducible refine (HA.out _ ?bel).mono ?_); (case bel => repeat (first | exact Below.refl _ _ | exact Nat.le_refl _ | apply below_drewN | apply Below.alloc)); rintro e w3 ⟨rfl, hr3, hb3⟩))
              go_ret
              refine ⟨Below.trans ?_ hb3, by rw [HSG.out]; exact ⟨rfl, hr3⟩⟩
              refine Below.mono (B := w.heap.size) ?_ HBW.out
              repeat (first | exact Below.refl _ _ | exact Nat.le_refl _ | apply below_drewN | apply Below.alloc)
        | false =>
          have HSL := Lib.hid (show signLen (c :: r) = if ones.contains c = true then 1 else 0 from HNH2.out)
          clear HNH2
          cases k1 with
          | true =>
            have HSG := Lib.hid (show sign (c :: r) = .tok 4 ((c :: r).take 1) 0 1 by unfold sign; rw [HSL.out, HONE.out]; rfl)
            have HA := Lib.hid (add_of (x := u1) (k := 1) HR.out HLL.out hq65 (by decide) HBW.out HU1.out 1 rfl)
            have hib : decide (0 ≤ I) = true := hI
            clear HSL HONE hI
            refine wp_loop_rounds 3 ?_
            rw [rounds_succ]
            go_wp2_with (first
              | (go_at_call 29; (with_reducible refine (HP.out _).mono ?_); rintro e w2 ⟨rfl, rfl⟩)
              | (go_at_call 28; (with_reducible refine (HI.out _).mono ?_); rintro e w2 ⟨rfl, rfl⟩)
              | (go_at_call 46; (with_reducible refine (HC.out _ ?bel).mono ?_); (case bel => repeat (first | exact Below.refl _ _ | exact Nat.le_refl _ | apply below_drewN | apply Below.alloc)); rintro e w2 ⟨rfl, rfl⟩)
              | (go_at_call 25; (with_reducible refine (HWD.out _).mono ?_); rintro e w2 ⟨rfl, ⟨nd, rfl⟩⟩)
              | (go_at_call 31; (with_reducible refine (HF.out _ ?bel).mono ?_); (case bel => repeat (first | exact Below.refl _ _ | exact Nat.le_refl _ | apply below_drewN | apply Below.alloc)); rintro e w3 ⟨rfl, hr3, hb3⟩)
              | (go_at_call 32; (with_reducible refine (HA.out _ ?bel).mono ?_); (case bel => repeat (first | exact Below.refl _ _ | exact Nat.le_refl _ | apply below_drewN | apply Below.alloc)); rintro e w3 ⟨rfl, hr3, hb3⟩))
            rw [rounds_succ]
            go_wp2_with (first
              | (go_at_call 29; (with_reducible refine (HP.out _).mono ?_); rintro e w2 ⟨rfl, rfl⟩)
              | (go_at_call 28; (with_reducible refine (HI.out _).mono ?_); rintro e w2 ⟨rfl, rfl⟩)
              | (go_at_call 46; (with_reducible refine (HC.out _ ?bel).mono ?_); (case bel => repeat (first | exact Below.refl _ _ | exact Nat.le_refl _ | apply below_drewN | apply Below.alloc)); rintro e w2 ⟨rfl, rfl⟩)
              | (go_at_call 25; (with_reducible refine (HWD.out _).mono ?_); rintro e w2 ⟨rfl, ⟨nd, rfl⟩⟩)
              | (go_at_call 31; (with_reducible refine (HF.out _ ?bel).mono ?_); (case bel => repeat (first | exact Below.refl _ _ | exact Nat.le_refl _ | apply below_drewN | apply Below.alloc)); rintro e w3 ⟨rfl, hr3, hb3⟩)
              | (go_at_call 32; (with_reducible refine (HA.out _ ?bel).mono ?_); (case bel => repeat (first | exact Below.refl _ _ | exact Nat.le_refl _ | apply below_drewN | apply Below.alloc)); rintro e w3 ⟨rfl, hr3, hb3⟩))
            go_ret
            refine ⟨Below.trans ?_ hb3, by rw [HSG.out]; exact ⟨rfl, hr3⟩⟩
            refine Below.mono (B := w.heap.size) ?_ HBW.out
            repeat (first | exact Below.refl _ _ | exact Nat.le_refl _ | apply below_drewN | apply Below.alloc)
          | false =>
            have HSG := Lib.hid (show sign (c :: r) = .bad 7 0 by unfold sign; rw [HSL.out, HONE.out]; rfl)
            have HF := Lib.hid (fun w2 hb => fail_any w2 B b s (q : Int) l why fat 7 (q : Int) (RS.below (w' := w2) HR.out hb))
            have hib : decide (0 ≤ I) = false := hI
            clear HSL HONE hI
            refine wp_loop_rounds 3 ?_
            rw [rounds_succ]
            go_wp2_with (first
              | (go_at_call 29; (with_reducible refine (HP.out _).mono ?_); rintro e w2 ⟨rfl, rfl⟩)
              | (go_at_call 28; (with_reducible refine (HI.out _).mono ?_); rintro e w2 ⟨rfl, rfl⟩)
              | (go_at_call 46; (with_reducible refine (HC.out _ ?bel).mono ?_); (case bel => repeat (first | exact Below.refl _ _ | exact Nat.le_refl _ | apply below_drewN | apply Below.alloc)); rintro e w2 ⟨rfl, rfl⟩)
              | (go_at_call 25; (with_reducible refine (HWD.out _).mono ?_); rintro e w2 ⟨rfl, ⟨nd, rfl⟩⟩)
              | (go_at_call 31; (with_reducible refine (HF.out _ ?bel).mono ?_); (case bel => repeat (first | exact Below.refl _ _ | exact Nat.le_refl _ | apply below_drewN | apply Below.alloc)); rintro e w3 ⟨rfl, hr3, hb3⟩)
              | (go_at_call 32; (with_reducible refine (HA.out _ ?bel).mono ?_); (case bel => repeat (first | exact Below.refl _ _ | exact Nat.le_refl _ | apply below_drewN | apply Below.alloc)); rintro e w3 ⟨rfl, hr3, hb3⟩))
            rw [rounds_succ]
            go_wp2_with (first
              | (go_at_call 29; (with_reducible refine (HP.out _).mono ?_); rintro e w2 ⟨rfl, rfl⟩)
              | (go_at_call 28; (with_reducible refine (HI.out _).mono ?_); rintro e w2 ⟨rfl, rfl⟩)
              | (go_at_call 46; (with_reducible refine (HC.out _ ?bel).mono ?_); (case bel => repeat (first | exact Below.refl _ _ | exact Nat.le_refl _ | apply below_drewN | apply Below.alloc)); rintro e w2 ⟨rfl, rfl⟩)
              | (go_at_call 25; (with_reducible refine (HWD.out _).mono ?_); rintro e w2 ⟨rfl, ⟨nd, rfl⟩⟩)
              | (go_at_call 31; (with_reducible refine (HF.out _ ?bel).mono ?_); (case bel => repeat (first | exact Below.refl _ _ | exact Nat.le_refl _ | apply below_drewN | apply Below.alloc)); rintro e w3 ⟨rfl, hr3, hb3⟩)
              | (go_at_call 32; (with_reducible refine (HA.out _ ?bel).mono ?_); (case bel => repeat (first | exact Below.refl _ _ | exact Nat.le_refl _ | apply below_drewN | apply Below.alloc)); rintro e w3 ⟨rfl, hr3, hb3⟩))
            rw [rounds_succ]
            go_wp2_with (first
              | (go_at_call 29; (with_reducible refine (HP.out _).mono ?_); rintro e w2 ⟨rfl, rfl⟩)
              | (go_at_call 28; (with_reducible refine (HI.out _).mono ?_); rintro e w2 ⟨rfl, rfl⟩)
              | (go_at_call 46; (with_reducible refine (HC.out _ ?bel).mono ?_); (case bel => repeat (first | exact Below.refl _ _ | exact Nat.le_refl _ | apply below_drewN | apply Below.alloc)); rintro e w2 ⟨rfl, rfl⟩)
              | (go_at_call 25; (with_reducible refine (HWD.out _).mono ?_); rintro e w2 ⟨rfl, ⟨nd, rfl⟩⟩)
              | (go_at_call 31; (with_reducible refine (HF.out _ ?bel).mono ?_); (case bel => repeat (first | exact Below.refl _ _ | exact Nat.le_refl _ | apply below_drewN | apply Below.alloc)); rintro e w3 ⟨rfl, hr3, hb3⟩)
              | (go_at_call 32; (with_reducible refine (HA.out _ ?bel).mono ?_); (case bel => repeat (first | exact Below.refl _ _ | exact Nat.le_refl _ | apply below_drewN | apply Below.alloc)); rintro e w3 ⟨rfl, hr3, hb3⟩))
            go_ret
            refine ⟨Below.trans ?_ hb3, by rw [HSG.out]; exact ⟨rfl, hr3⟩⟩
            refine Below.mono (B := w.heap.size) ?_ HBW.out
            repeat (first | exact Below.refl _ _ | exact Nat.le_refl _ | apply below_drewN | apply Below.alloc)
      | false =>
        have HSL := Lib.hid (show signLen (c :: r) = if ones.contains c = true then 1 else 0 from HNH2.out)
        clear HNH2
        cases k1 with
        | true =>
          have HSG := Lib.hid (show sign (c :: r) = .tok 4 ((c :: r).take 1) 0 1 by unfold sign; rw [HSL.out, HONE.out]; rfl)
          have HA := Lib.hid (add_of (x := u1) (k := 1) HR.out HLL.out hq65 (by decide) HBW.out HU1.out 1 rfl)
          have hib : decide (0 ≤ I) = true := hI
          clear HSL HONE hI
          refine wp_loop_rounds 3 ?_
          rw [rounds_succ]
          go_wp2_with (first
            | (go_at_call 29; (with_reducible refine (HP.out _).mono ?_); rintro e w2 ⟨rfl, rfl⟩)
            | (go_at_call 28; (with_reducible refine (HI.out _).mono ?_); rintro e w2 ⟨rfl, rfl⟩)
            | (go_at_call 46; (with_reducible refine (HC.out _ ?bel).mono ?_); (case bel => repeat (first | exact Below.refl _ _ | exact Nat.le_refl _ | apply below_drewN | apply Below.alloc)); rintro e w2 ⟨rfl, rfl⟩)
            | (go_at_call 25; (with_reducible refine (HWD.out _).mono ?_); rintro e w2 ⟨rfl, ⟨nd, rfl⟩⟩)
            | (go_at_call 31; (with_reducible refine (HF.out _ ?bel).mono ?_); (case bel => repeat (first | exact Below.refl _ _ | exact Nat.le_refl _ | apply below_drewN | apply Below.alloc)); rintro e w3 ⟨rfl, hr3, hb3⟩)
            | (go_at_call 32; (with_reducible refine (HA.out _ ?bel).mono ?_); (case bel => repeat (first | exact Below.refl _ _ | exact Nat.le_refl _ | apply below_drewN | apply Below.alloc)); rintro e w3 ⟨rfl, hr3, hb3⟩))
          rw [rounds_succ]
          go_wp2_with (first
            | (go_at_call 29; (with_reducible refine (HP.out _).mono ?_); rintro e w2 ⟨rfl, rfl⟩)
            | (go_at_call 28; (with_reducible refine (HI.out _).mono ?_); rintro e w2 ⟨rfl, rfl⟩)
            | (go_at_call 46; (with_reducible refine (HC.out _ ?bel).mono ?_); (case bel => repeat (first | exact Below.refl _ _ | exact Nat.le_refl _ | apply below_drewN | apply Below.alloc)); rintro e w2 ⟨rfl, rfl⟩)
            | (go_at_call 25; (with_reducible refine (HWD.out _).mono ?_); rintro e w2 ⟨rfl, ⟨nd, rfl⟩⟩)
            | (go_at_call 31; (with_reducible refine (HF.out _ ?bel).mono ?_); (case bel => repeat (first | exact Below.refl _ _ | exact Nat.le_refl _ | apply below_drewN | apply Below.alloc)); rintro e w3 ⟨rfl, hr3, hb3⟩)
            | (go_at_call 32; (with_reducible refine (HA.out _ ?bel).mono ?_); (case bel => repeat (first | exact Below.refl _ _ | exact Nat.le_refl _ | apply below_drewN | apply Below.alloc)); rintro e w3 ⟨rfl, hr3, hb3⟩))
          go_ret
          refine ⟨Below.trans ?_ hb3, by rw [HSG.out]; exact ⟨rfl, hr3⟩⟩
          refine Below.mono (B := w.heap.size) ?_ HBW.out
          repeat (first | exact Below.refl _ _ | exact Nat.le_refl _ | apply below_drewN | apply Below.alloc)
        | false =>
          have HSG := Lib.hid (show sign (c :: r) = .bad 7 0 by unfold sign; rw [HSL.out, HONE.out]; rfl)
          have HF := Lib.hid (fun w2 hb => fail_any w2 B b s (q : Int) l why fat 7 (q : Int) (RS.below (w' := w2) HR.out hb))
          have hib : decide (0 ≤ I) = false := hI
          clear HSL HONE hI
          refine wp_loop_rounds 3 ?_
          rw [rounds_succ]
          go_wp2_with (first
            | (go_at_call 29; (with_reducible refine (HP.out _).mono ?_); rintro e w2 ⟨rfl, rfl⟩)
            | (go_at_call 28; (with_reducible refine (HI.out _).mono ?_); rintro e w2 ⟨rfl, rfl⟩)
            | (go_at_call 46; (with_reducible refine (HC.out _ ?bel).mono ?_); (case bel => repeat (first | exact Below.refl _ _ | exact Nat.le_refl _ | apply below_drewN | apply Below.alloc)); rintro e w2 ⟨rfl, rfl⟩)
            | (go_at_call 25; (with_reducible refine (HWD.out _).mono ?_); rintro e w2 ⟨rfl, ⟨nd, rfl⟩⟩)
            | (go_at_call 31; (with_reducible refine (HF.out _ ?bel).mono ?_); (case bel => repeat (first | exact Below.refl _ _ | exact Nat.le_refl _ | apply below_drewN | apply Below.alloc)); rintro e w3 ⟨rfl, hr3, hb3⟩)
            | (go_at_call 32; (with_reducible refine (HA.out _ ?bel).mono ?_); (case bel => repeat (first | exact Below.refl _ _ | exact Nat.le_refl _ | apply below_drewN | apply Below.alloc)); rintro e w3 ⟨rfl, hr3, hb3⟩))
          rw [rounds_succ]
          go_wp2_with (first
            | (go_at_call 29; (with_reducible refine (HP.out _).mono ?_); rintro e w2 ⟨rfl, rfl⟩)
            | (go_at_call 28; (with_reducible refine (HI.out _).mono ?_); rintro e w2 ⟨rfl, rfl⟩)
            | (go_at_call 46; (with_reducible refine (HC.out _ ?bel).mono ?_); (case bel => repeat (first | exact Below.refl _ _ | exact Nat.le_refl _ | apply below_drewN | apply Below.alloc)); rintro e w2 ⟨rfl, rfl⟩)
            | (go_at_call 25; (with_reducible refine (HWD.out _).mono ?_); rintro e w2 ⟨rfl, ⟨nd, rfl⟩⟩)
            | (go_at_call 31; (with_reducible refine (HF.out _ ?bel).mono ?_); (case bel => repeat (first | exact Below.refl _ _ | exact Nat.le_refl _ | apply below_drewN | apply Below.alloc)); rintro e w3 ⟨rfl, hr3, hb3⟩)
            | (go_at_call 32; (with_reducible refine (HA.out _ ?bel).mono ?_); (case bel => repeat (first | exact Below.refl _ _ | exact Nat.le_refl _ | apply below_drewN | apply Below.alloc)); rintro e w3 ⟨rfl, hr3, hb3⟩))
          rw [rounds_succ]
          go_wp2_with (first
            | (go_at_call 29; (with_reducible refine (HP.out _).mono ?_); rintro e w2 ⟨rfl, rfl⟩)
            | (go_at_call 28; (with_reducible refine (HI.out _).mono ?_); rintro e w2 ⟨rfl, rfl⟩)
            | (go_at_call 46; (with_reducible refine (HC.out _ ?bel).mono ?_); (case bel => repeat (first | exact Below.refl _ _ | exact Nat.le_refl _ | apply below_drewN | apply Below.alloc)); rintro e w2 ⟨rfl, rfl⟩)
            | (go_at_call 25; (with_reducible refine (HWD.out _).mono ?_); rintro e w2 ⟨rfl, ⟨nd, rfl⟩⟩)
            | (go_at_call 31; (with_reducible refine (HF.out _ ?bel).mono ?_); (case bel => repeat (first | exact Below.refl _ _ | exact Nat.le_refl _ | apply below_drewN | apply Below.alloc)); rintro e w3 ⟨rfl, hr3, hb3⟩)
            | (go_at_call 32; (with_reducible refine (HA.out _ ?bel).mono ?_); (case bel => repeat (first | exact Below.refl _ _ | exact Nat.le_refl _ | apply below_drewN | apply Below.alloc)); rintro e w3 ⟨rfl, hr3, hb3⟩))
          go_ret
          refine ⟨Below.trans ?_ hb3, by rw [HSG.out]; exact ⟨rfl, hr3⟩⟩
          refine Below.mono (B := w.heap.size) ?_ HBW.out
          repeat (first | exact Below.refl _ _ | exact Nat.le_refl _ | apply below_drewN | apply Below.alloc)
end Go.Proofs.YtafndkgoeabehaaDoor.LexSign
