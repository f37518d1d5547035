/- A claim's texts, in the order of what they need: LexSign, LexToken, LexToks, LexTokens, LexAlive, LexRise, LexRises, LexShaped, LexSame, PTokensx0, PTokensx1, PTokensx2, PTokensx3. -/
import Derived.Test.YtafndkgoeabehaaDoorBLexOwn3
import Derived.LoopN
import Derived.Deep.Onto
import Derived.Handed
import Derived.HandedShaped
import Derived.SizedLaws
import Derived.Shelf.Vars
namespace Go.Proofs.YtafndkgoeabehaaDoor.LexSign
open Go Go.RowKit Go.Proofs.YtafndkgoeabehaaDoor.NumPure Go.Proofs.YtafndkgoeabehaaDoor.NumRead Go.Proofs.YtafndkgoeabehaaDoor.LexPure Go.Proofs.YtafndkgoeabehaaDoor.LexGap Go.Proofs.YtafndkgoeabehaaDoor.LexMem Go.Proofs.YtafndkgoeabehaaDoor.LexWord Go.Proofs.YtafndkgoeabehaaDoor.LexGaps Go.Proofs.YtafndkgoeabehaaDoor.LexTook Go.Proofs.YtafndkgoeabehaaDoorW.PrintWords
theorem contains_cons (x : UInt8) (xs sub : List UInt8) : Lib.contains (x :: xs) sub = (sub.isPrefixOf (x :: xs) || Lib.contains xs sub) := by
  have hi : Lib.index (x :: xs) sub = if sub.isPrefixOf (x :: xs) = true then 0 else if (Lib.index xs sub == -1) = true then -1 else Lib.index xs sub + 1 := rfl
  have hg := Lib.index_ge xs sub
  unfold Lib.contains
  rw [hi]
  by_cases hp : sub.isPrefixOf (x :: xs) = true
  · rw [if_pos hp, hp]; rfl
  · rw [if_neg hp, Bool.eq_false_iff.2 hp]
    by_cases h1 : Lib.index xs sub = -1
    · rw [if_pos (by rw [h1]; rfl), h1]; rfl
    · rw [if_neg (by simpa using h1)]
      have e1 : decide (0 ≤ Lib.index xs sub + 1) = true := decide_eq_true (by omega)
      have e2 : decide (0 ≤ Lib.index xs sub) = true := decide_eq_true (by omega)
      rw [e1, e2]; rfl
theorem contains_nil2 (c d : UInt8) : Lib.contains [] [c, d] = false := rfl
theorem two_index (c d : UInt8) : twos.contains [c, d] = (Lib.contains [58, 45, 32, 60, 58, 32, 60, 61, 32, 62, 61, 32, 33, 61] [c, d] && c != 32 && d != 32) := by
  rw [Bool.eq_iff_iff]
  simp only [contains_cons, contains_nil2, List.isPrefixOf]
  simp [twos]
  grind
theorem one_index (c : UInt8) : ones.contains c = decide (0 ≤ Lib.indexByte [40, 41, 123, 125, 44, 46, 58, 124, 33, 61, 60, 62, 43, 45, 42, 47, 37, 36] c) := by
  have h : ∀ n : Fin 256, ones.contains (UInt8.ofNat n.val) = decide (0 ≤ Lib.indexByte [40, 41, 123, 125, 44, 46, 58, 124, 33, 61, 60, 62, 43, 45, 42, 47, 37, 36] (UInt8.ofNat n.val)) := by decide +kernel
  have := h ⟨c.toNat, c.toNat_lt⟩
  simpa using this
theorem twos_one (c : UInt8) : twos.contains ([c].take 2) = false := by simp [twos]
theorem ne32 (d : UInt8) : ((d.toNat : Int) != 32) = (d != 32) := by
  have h : ∀ n : Fin 256, (((UInt8.ofNat n.val).toNat : Int) != 32) = (UInt8.ofNat n.val != 32) := by decide +kernel
  have := h ⟨d.toNat, d.toNat_lt⟩
  simpa using this
theorem add_of {w : World} {B b : Nat} {s x : ByteArray} {q k : Nat} {l : List Tk} {why fat : Int} {tx : List UInt8} (h : RS w B b s (q : Int) l why fat) (hl : l.length ≤ 65536) (hq : q ≤ 65536) (hk : k ≤ 65536) (hB : B ≤ w.heap.size) (hx : x.data.toList = tx) (kk : Int) (hkk : kk = (k : Int)) :
    ∀ w2, Below w.heap.size w w2 → Calls Tryd.prog 32 #[.pointer (some ⟨b, 0, none⟩), .agg #[.int .i64 4, .string x, .int .i64 0, .int .i64 0], .int .i64 kk] w2 fun e w' => e = .returned (.bool true) ∧ RS w' B b s ((q + k : Nat) : Int) (l ++ [⟨4, tx, 0, q⟩]) why fat ∧ Below B w2 w' := fun w2 hb => by
  subst hx hkk
  have := add_any w2 B b s (q : Int) l why fat 4 x 0 0 (k : Int) (h.below hb) hl (by omega) (by omega) (by omega) (by omega) (Nat.le_trans hB hb.size)
  rw [← Int.natCast_add] at this
  exact this
theorem sign_head {c : UInt8} {r : List UInt8} {N : Nat} (hN : word r = N) (hc : c = 46) (hh : heads.contains ((c :: r).take (1 + N)) = true) : sign (c :: r) = .tok 4 ((c :: r).take (1 + N)) 0 (1 + N) := by
  subst hN hc
  have e : signLen (46 :: r) = 1 + word r := by unfold signLen; rw [if_pos ⟨rfl, hh⟩]; rfl
  unfold sign
  rw [e, if_neg (by omega)]
theorem sign_nohead {c : UInt8} {r : List UInt8} (h : ¬ (c = 46 ∧ heads.contains ((c :: r).take (1 + word r)) = true)) : signLen (c :: r) = if twos.contains ((c :: r).take 2) = true then 2 else if ones.contains c = true then 1 else 0 := by
  unfold signLen
  rw [if_neg (by simpa using h)]
theorem heads_of (hd : ByteArray) {L : List UInt8} (hL : heads.contains L = true) (h : (hd.toList == L) = true) : heads.contains hd.data.toList = true := by
  have e : hd.toList = L := by simpa using h
  rw [← Lib.toList_data, e]
  exact hL
theorem heads_not (hd : ByteArray) (h0 : (hd.toList == [46, 100, 101, 99, 108]) = false) (h1 : (hd.toList == [46, 116, 121, 112, 101]) = false) (h2 : (hd.toList == [46, 99, 111, 109, 112]) = false) (h3 : (hd.toList == [46, 105, 110, 105, 116]) = false) : ¬ heads.contains hd.data.toList = true := by
  rw [← Lib.toList_data]
  simp [heads] at *
  exact ⟨h0, h1, h2, h3⟩
set_option maxRecDepth 100000 in
set_option maxHeartbeats 8000000 in
theorem sign_any (w : World) (B b : Nat) (s : ByteArray) (q : Nat) (l : List Tk) (why fat : Int) (c : UInt8) (r : List UInt8) (h : RS w B b s (q : Int) l why fat) (hq : q ≤ s.size) (hs : s.size ≤ 65536) (hB0 : 0 < B) (hBw : B ≤ w.heap.size) (hl : l.length ≤ 65536) (hM : MaxVar w) (hcr : s.data.toList.drop q = c :: r) :
    Calls Tryd.prog 36 #[.pointer (some ⟨b, 0, none⟩)] w fun e w' => Below B w w' ∧ Took w' e B b s q l why fat (sign (c :: r)) := by
  have hz : s.size = s.data.toList.length := Lib.size_eq s
  obtain ⟨h0, v, hb, ho⟩ := id h
  have c0 := hb.cell 0
  have c1 := hb.cell 1
  simp at c0 c1
  have hblt := hb.lt
  obtain ⟨t, ht⟩ : ∃ t, s.extract q s.size = t := ⟨_, rfl⟩
  have htl : t.data.toList = c :: r := by rw [← ht, drop_data s q, hcr]
  have htz : t.size = s.size - q := by rw [Lib.size_eq, ← ht, drop_data, List.length_drop, ← hz]
  have htb : t.size ≤ 65536 := by omega
  have hz1 : 1 ≤ t.size := by rw [Lib.size_eq, htl]; simp
  have hq65 : q ≤ 65536 := by omega
  have hb0 : bt t 0 = (c.toNat : Int) := (bt_of t 0 c r (by rw [htl]; rfl)).1
  have hx0 : ∀ h : 0 < t.size, ((t[0]'h).toNat : Int) = bt t 0 := bt_at t 0
  have HR := Lib.hid h
  have HBW := Lib.hid hBw
  have HLL := Lib.hid hl
  have HTZ := Lib.hid htz
  have HTL := Lib.hid htl
  have HP : Hid (∀ w, Calls Tryd.prog 29 #[.string t, .string ⟨#[46]⟩] w fun e w' => e = .returned (.bool (c == 46)) ∧ w' = w) := Lib.hid (fun w => by
    have := Tryd.strings_HasPrefix t ⟨#[46]⟩ w
    rw [htl] at this
    have e : Lib.hasPrefix (c :: r) [46] = (c == 46) := by simp [Lib.hasPrefix, List.isPrefixOf, Bool.beq_comm]
    rw [← e]
    exact this)
  have HWD : Hid (∀ n, Calls Tryd.prog 25 #[.string (t.extract 1 t.size)] (w.drewN n) fun e w' => e = .returned (.int .i64 (word r : Int)) ∧ Drawn0 (w.drewN n) w') := Lib.hid (fun n => by
    have := word_any (t.extract 1 t.size) (by rw [Lib.size_eq, drop_data, List.length_drop, ← Lib.size_eq]; omega) (w.drewN n)
    rw [drop_data, htl] at this
    exact this)
  obtain ⟨I, hIv⟩ : ∃ I, Lib.indexByte [40, 41, 123, 125, 44, 46, 58, 124, 33, 61, 60, 62, 43, 45, 42, 47, 37, 36] c = I := ⟨_, rfl⟩
  have HI : Hid (∀ w, Calls Tryd.prog 28 #[.string ⟨#[40, 41, 123, 125, 44, 46, 58, 124, 33, 61, 60, 62, 43, 45, 42, 47, 37, 36]⟩, .int .u8 (bt t 0)] w fun e w' => e = .returned (.int .i64 I) ∧ w' = w) := Lib.hid (fun w => by
    have := Tryd.strings_IndexByte ⟨#[40, 41, 123, 125, 44, 46, 58, 124, 33, 61, 60, 62, 43, 45, 42, 47, 37, 36]⟩ (bt t 0) w
    have hc : (bt t 0).toNat.toUInt8 = c := by rw [hb0, Int.toNat_natCast]; exact UInt8.ofNat_toNat
    rw [hc] at this
    rw [← hIv]
    exact this)
  obtain ⟨k1, hk1⟩ : ∃ k, ones.contains c = k := ⟨_, rfl⟩
  have HONE := Lib.hid hk1
  have hI : decide (0 ≤ I) = k1 := by rw [← hk1, one_index, hIv]
  obtain ⟨u1, hu1⟩ : ∃ x, t.extract 0 1 = x := ⟨_, rfl⟩
  have HU1 : Hid (u1.data.toList = (c :: r).take 1) := Lib.hid (by rw [← hu1, take_data, htl])
  have hA0 : ∀ n, ((w.drewN n).alloc (.cells #[.int .i64 2, .int .i64 1] 3)).cell? ⟨w.heap.size, 0, none⟩ = some (.int .i64 2) := fun n => by simp [World.cell?, World.alloc]
  have hA1 : ∀ n, ((w.drewN n).alloc (.cells #[.int .i64 2, .int .i64 1] 3)).cell? ⟨w.heap.size, 1, none⟩ = some (.int .i64 1) := fun n => by simp [World.cell?, World.alloc]
  have hA2 : ∀ n, ((w.drewN n).alloc (.cells #[.int .i64 2, .int .i64 1] 3)).cell? ⟨b, 1, none⟩ = some (.int .i64 q) := fun n => cell1_below h ((below_drewN (Below.refl _ _) n).alloc (Nat.le_refl _) _)
  have hwl := word_le r
  have hrz : r.length + 1 = t.size := by rw [Lib.size_eq, htl]; rfl
  clear h hBw hl htz htl hz hcr hb ho hIv hk1
  go_enter Tryd.func36, Tryd.ntmps36
  go_wp2
  go_quiet (fail)
  obtain ⟨k46, hk46⟩ : ∃ k, (c == 46) = k := ⟨_, rfl⟩
  rw [hk46] at HP
  cases k46 with
  | true =>
    obtain ⟨N, hN⟩ : ∃ N, word r = N := ⟨_, rfl⟩
    rw [hN] at hwl HWD
    have HN := Lib.hid hN
    have HC46 : Hid (c = 46) := Lib.hid (by simpa using hk46)
    clear hN hk46
    have hNt : 1 + N ≤ t.size := by omega
    have hNt65 : 1 + N ≤ 65536 := by omega
    obtain ⟨hd, hhd⟩ : ∃ x, t.extract 0 (1 + N) = x := ⟨_, rfl⟩
    have HHD : Hid (hd.data.toList = (c :: r).take (1 + N)) := Lib.hid (by rw [← hhd, take_data, HTL.out])
    obtain ⟨e0, he0⟩ : ∃ k, (hd.toList == [46, 100, 101, 99, 108]) = k := ⟨_, rfl⟩
    cases e0 with
    | true =>
      have HSG := Lib.hid (show sign (c :: r) = .tok 4 ((c :: r).take (1 + N)) 0 (1 + N) from sign_head HN.out HC46.out (by rw [← HHD.out]; exact heads_of hd (L := [46, 100, 101, 99, 108]) (by decide) he0))
      have HA := Lib.hid (add_of (x := hd) (k := 1 + N) HR.out HLL.out hq65 hNt65 HBW.out HHD.out (1 + (N : Int)) (by push_cast; rfl))
      go_wp2_with (first
        | (go_at_call 29; (with_reducible refine (HP.out _).mono ?_); rintro e w2 ⟨rfl, rfl⟩)
        | (go_at_call 28; (with_reducible refine (HI.out _).mono ?_); rintro e w2 ⟨rfl, rfl⟩)
        | (go_at_call 46; (with_reducible refine (HC.out _ ?bel).mono ?_); (case bel => repeat (first | exact Below.refl _ _ | exact Nat.le_refl _ | apply below_drewN | apply Below.alloc)); rintro e w2 ⟨rfl, rfl⟩)
        | (go_at_call 25; (with_reducible refine (HWD.out _).mono ?_); rintro e w2 ⟨rfl, ⟨nd, rfl⟩⟩)
        | (go_at_call 31; (with_reducible refine (HF.out _ ?bel).mono ?_); (case bel => repeat (first | exact Below.refl _ _ | exact Nat.le_refl _ | apply below_drewN | apply Below.alloc)); rintro e w3 ⟨rfl, hr3, hb3⟩)
        | (go_at_call 32; (with_reducible refine (HA.out _ ?bel).mono ?_); (case bel => repeat (first | exact Below.refl _ _ | exact Nat.le_refl _ | apply below_drewN | apply Below.alloc)); rintro e w3 ⟨rfl, hr3, hb3⟩))
      go_ret
      refine ⟨Below.trans ?_ hb3, by rw [HSG.out]; exact ⟨rfl, hr3⟩⟩
      refine Below.mono (B := w.heap.size) ?_ HBW.out
      repeat (first | exact Below.refl _ _ | exact Nat.le_refl _ | apply below_drewN | apply Below.alloc)
    | false =>
      obtain ⟨e1, he1⟩ : ∃ k, (hd.toList == [46, 116, 121, 112, 101]) = k := ⟨_, rfl⟩
      cases e1 with
      | true =>
        have HSG := Lib.hid (show sign (c :: r) = .tok 4 ((c :: r).take (1 + N)) 0 (1 + N) from sign_head HN.out HC46.out (by rw [← HHD.out]; exact heads_of hd (L := [46, 116, 121, 112, 101]) (by decide) he1))
        have HA := Lib.hid (add_of (x := hd) (k := 1 + N) HR.out HLL.out hq65 hNt65 HBW.out HHD.out (1 + (N : Int)) (by push_cast; rfl))
        go_wp2_with (first
          | (go_at_call 29; (with_reducible refine (HP.out _).mono ?_); rintro e w2 ⟨rfl, rfl⟩)
          | (go_at_call 28; (with_reducible refine (HI.out _).mono ?_); rintro e w2 ⟨rfl, rfl⟩)
          | (go_at_call 46; (with_reducible refine (HC.out _ ?bel).mono ?_); (case bel => repeat (first | exact Below.refl _ _ | exact Nat.le_refl _ | apply below_drewN | apply Below.alloc)); rintro e w2 ⟨rfl, rfl⟩)
          | (go_at_call 25; (with_reducible refine (HWD.out _).mono ?_); rintro e w2 ⟨rfl, ⟨nd, rfl⟩⟩)
          | (go_at_call 31; (with_reducible refine (HF.out _ ?bel).mono ?_); (case bel => repeat (first | exact Below.refl _ _ | exact Nat.le_refl _ | apply below_drewN | apply Below.alloc)); rintro e w3 ⟨rfl, hr3, hb3⟩)
          | (go_at_call 32; (with_reducible refine (HA.out _ ?bel).mono ?_); (case bel => repeat (first | exact Below.refl _ _ | exact Nat.le_refl _ | apply below_drewN | apply Below.alloc)); rintro e w3 ⟨rfl, hr3, hb3⟩))
        go_ret
        refine ⟨Below.trans ?_ hb3, by rw [HSG.out]; exact ⟨rfl, hr3⟩⟩
        refine Below.mono (B := w.heap.size) ?_ HBW.out
        repeat (first | exact Below.refl _ _ | exact Nat.le_refl _ | apply below_drewN | apply Below.alloc)
      | false =>
        obtain ⟨e2, he2⟩ : ∃ k, (hd.toList == [46, 99, 111, 109, 112]) = k := ⟨_, rfl⟩
        cases e2 with
        | true =>
          have HSG := Lib.hid (show sign (c :: r) = .tok 4 ((c :: r).take (1 + N)) 0 (1 + N) from sign_head HN.out HC46.out (by rw [← HHD.out]; exact heads_of hd (L := [46, 99, 111, 109, 112]) (by decide) he2))
          have HA := Lib.hid (add_of (x := hd) (k := 1 + N) HR.out HLL.out hq65 hNt65 HBW.out HHD.out (1 + (N : Int)) (by push_cast; rfl))
          go_wp2_with (first
            | (go_at_call 29; (with_reducible refine (HP.out _).mono ?_); rintro e w2 ⟨rfl, rfl⟩)
            | (go_at_call 28; (with_reducible refine (HI.out _).mono ?_); rintro e w2 ⟨rfl, rfl⟩)
            | (go_at_call 46; (with_reducible refine (HC.out _ ?bel).mono ?_); (case bel => repeat (first | exact Below.refl _ _ | exact Nat.le_refl _ | apply below_drewN | apply Below.alloc)); rintro e w2 ⟨rfl, rfl⟩)
            | (go_at_call 25; (with_reducible refine (HWD.out _).mono ?_); rintro e w2 ⟨rfl, ⟨nd, rfl⟩⟩)
            | (go_at_call 31; (with_reducible refine (HF.out _ ?bel).mono ?_); (case bel => repeat (first | exact Below.refl _ _ | exact Nat.le_refl _ | apply below_drewN | apply Below.alloc)); rintro e w3 ⟨rfl, hr3, hb3⟩)
            | (go_at_call 32; (with_reducible refine (HA.out _ ?bel).mono ?_); (case bel => repeat (first | exact Below.refl _ _ | exact Nat.le_refl _ | apply below_drewN | apply Below.alloc)); rintro e w3 ⟨rfl, hr3, hb3⟩))
          go_ret
          refine ⟨Below.trans ?_ hb3, by rw [HSG.out]; exact ⟨rfl, hr3⟩⟩
          refine Below.mono (B := w.heap.size) ?_ HBW.out
          repeat (first | exact Below.refl _ _ | exact Nat.le_refl _ | apply below_drewN | apply Below.alloc)
        | false =>
          obtain ⟨e3, he3⟩ : ∃ k, (hd.toList == [46, 105, 110, 105, 116]) = k := ⟨_, rfl⟩
          cases e3 with
          | true =>
            have HSG := Lib.hid (show sign (c :: r) = .tok 4 ((c :: r).take (1 + N)) 0 (1 + N) from sign_head HN.out HC46.out (by rw [← HHD.out]; exact heads_of hd (L := [46, 105, 110, 105, 116]) (by decide) he3))
            have HA := Lib.hid (add_of (x := hd) (k := 1 + N) HR.out HLL.out hq65 hNt65 HBW.out HHD.out (1 + (N : Int)) (by push_cast; rfl))
            go_wp2_with (first
              | (go_at_call 29; (with_reducible refine (HP.out _).mono ?_); rintro e w2 ⟨rfl, rfl⟩)
              | (go_at_call 28; (with_reducible refine (HI.out _).mono ?_); rintro e w2 ⟨rfl, rfl⟩)
              | (go_at_call 46; (with_reducible refine (HC.out _ ?bel).mono ?_); (case bel => repeat (first | exact Below.refl _ _ | exact Nat.le_refl _ | apply below_drewN | apply Below.alloc)); rintro e w2 ⟨rfl, rfl⟩)
              | (go_at_call 25; (with_reducible refine (HWD.out _).mono ?_); rintro e w2 ⟨rfl, ⟨nd, rfl⟩⟩)
              | (go_at_call 31; (with_reducible refine (HF.out _ ?bel).mono ?_); (case bel => repeat (first | exact Below.refl _ _ | exact Nat.le_refl _ | apply below_drewN | apply Below.alloc)); rintro e w3 ⟨rfl, hr3, hb3⟩)
              | (go_at_call 32; (with_reducible refine (HA.out _ ?bel).mono ?_); (case bel => repeat (first | exact Below.refl _ _ | exact Nat.le_refl _ | apply below_drewN | apply Below.alloc)); rintro e w3 ⟨rfl, hr3, hb3⟩))
            go_ret
            refine ⟨Below.trans ?_ hb3, by rw [HSG.out]; exact ⟨rfl, hr3⟩⟩
            refine Below.mono (B := w.heap.size) ?_ HBW.out
            repeat (first | exact Below.refl _ _ | exact Nat.le_refl _ | apply below_drewN | apply Below.alloc)
          | false =>
            have HNH := Lib.hid (sign_nohead (c := c) (r := r) (by rw [HN.out]; exact fun h => heads_not hd he0 he1 he2 he3 (by rw [HHD.out]; exact h.2)))
            go_wp2_with (first
              | (go_at_call 29; (with_reducible refine (HP.out _).mono ?_); rintro e w2 ⟨rfl, rfl⟩)
              | (go_at_call 28; (with_reducible refine (HI.out _).mono ?_); rintro e w2 ⟨rfl, rfl⟩)
              | (go_at_call 46; (with_reducible refine (HC.out _ ?bel).mono ?_); (case bel => repeat (first | exact Below.refl _ _ | exact Nat.le_refl _ | apply below_drewN | apply Below.alloc)); rintro e w2 ⟨rfl, rfl⟩)
              | (go_at_call 25; (with_reducible refine (HWD.out _).mono ?_); rintro e w2 ⟨rfl, ⟨nd, rfl⟩⟩)
              | (go_at_call 31; (with_reducible refine (HF.out _ ?bel).mono ?_); (case bel => repeat (first | exact Below.refl _ _ | exact Nat.le_refl _ | apply below_drewN | apply Below.alloc)); rintro e w3 ⟨rfl, hr3, hb3⟩)
              | (go_at_call 32; (with_reducible refine (HA.out _ ?bel).mono ?_); (case bel => repeat (first | exact Below.refl _ _ | exact Nat.le_refl _ | apply below_drewN | apply Below.alloc)); rintro e w3 ⟨rfl, hr3, hb3⟩))
            cases hr2 : r with
            | nil =>
              have hz2 : decide ((t.size : Int) < 2) = true := decide_eq_true (by rw [← hrz, hr2]; decide)
              have HSL := Lib.hid (show signLen (c :: r) = if ones.contains c = true then 1 else 0 by rw [HNH.out, hr2]; rw [twos_one c]; rfl)
              clear hr2 hrz HNH hb0
              cases k1 with
              | true =>
                have HSG := Lib.hid (show sign (c :: r) = .tok 4 ((c :: r).take 1) 0 1 by unfold sign; rw [HSL.out, HONE.out]; rfl)
                have HA := Lib.hid (add_of (x := u1) (k := 1) HR.out HLL.out hq65 (by decide) HBW.out HU1.out 1 rfl)
                have hib : decide (0 ≤ I) = true := hI
                clear HSL HONE hI
                refine wp_loop_rounds 3 ?_
                rw [rounds_succ]
                go_wp2_with (first
                  | (go_at_call 29; (with_reducible refine (HP.out _).mono ?_); rintro e w2 ⟨rfl, rfl⟩)
                  | (go_at_call 28; (with_reducible refine (HI.out _).mono ?_); rintro e w2 ⟨rfl, rfl⟩)
                  | (go_at_call 46; (with_reducible refine (HC.out _ ?bel).mono ?_); (case bel => repeat (first | exact Below.refl _ _ | exact Nat.le_refl _ | apply below_drewN | apply Below.alloc)); rintro e w2 ⟨rfl, rfl⟩)
                  | (go_at_call 25; (with_reducible refine (HWD.out _).mono ?_); rintro e w2 ⟨rfl, ⟨nd, rfl⟩⟩)
                  | (go_at_call 31; (with_reducible refine (HF.out _ ?bel).mono ?_); (case bel => repeat (first | exact Below.refl _ _ | exact Nat.le_refl _ | apply below_drewN | apply Below.alloc)); rintro e w3 ⟨rfl, hr3, hb3⟩)
                  | (go_at_call 32; (with_reducible refine (HA.out _ ?bel).mono ?_); (case bel => repeat (first | exact Below.refl _ _ | exact Nat.le_refl _ | apply below_drewN | apply Below.alloc)); rintro e w3 ⟨rfl, hr3, hb3⟩))
                rw [rounds_succ]
                go_wp2_with (first
                  | (go_at_call 29; (with_reducible refine (HP.out _).mono ?_); rintro e w2 ⟨rfl, rfl⟩)
                  | (go_at_call 28; (with_reducible refine (HI.out _).mono ?_); rintro e w2 ⟨rfl, rfl⟩)
                  | (go_at_call 46; (with_reducible refine (HC.out _ ?bel).mono ?_); (case bel => repeat (first | exact Below.refl _ _ | exact Nat.le_refl _ | apply below_drewN | apply Below.alloc)); rintro e w2 ⟨rfl, rfl⟩)
                  | (go_at_call 25; (with_reducible refine (HWD.out _).mono ?_); rintro e w2 ⟨rfl, ⟨nd, rfl⟩⟩)
                  | (go_at_call 31; (with_reducible refine (HF.out _ ?bel).mono ?_); (case bel => repeat (first | exact Below.refl _ _ | exact Nat.le_refl _ | apply below_drewN | apply Below.alloc)); rintro e w3 ⟨rfl, hr3, hb3⟩)
                  | (go_at_call 32; (with_reducible refine (HA.out _ ?bel).mono ?_); (case bel => repeat (first | exact Below.refl _ _ | exact Nat.le_refl _ | apply below_drewN | apply Below.alloc)); rintro e w3 ⟨rfl, hr3, hb3⟩))
                go_ret
                refine ⟨Below.trans ?_ hb3, by rw [HSG.out]; exact ⟨rfl, hr3⟩⟩
                refine Below.mono (B := w.heap.size) ?_ HBW.out
                repeat (first | exact Below.refl _ _ | exact Nat.le_refl _ | apply below_drewN | apply Below.alloc)
              | false =>
                have HSG := Lib.hid (show sign (c :: r) = .bad 7 0 by unfold sign; rw [HSL.out, HONE.out]; rfl)
                have HF := Lib.hid (fun w2 hb => fail_any w2 B b s (q : Int) l why fat 7 (q : Int) (RS.below (w' := w2) HR.out hb))
                have hib : decide (0 ≤ I) = false := hI
                clear HSL HONE hI
                refine wp_loop_rounds 3 ?_
                rw [rounds_succ]
                go_wp2_with (first
                  | (go_at_call 29; (with_reducible refine (HP.out _).mono ?_); rintro e w2 ⟨rfl, rfl⟩)
                  | (go_at_call 28; (with_reducible refine (HI.out _).mono ?_); rintro e w2 ⟨rfl, rfl⟩)
                  | (go_at_call 46; (with_reducible refine (HC.out _ ?bel).mono ?_); (case bel => repeat (first | exact Below.refl _ _ | exact Nat.le_refl _ | apply below_drewN | apply Below.alloc)); rintro e w2 ⟨rfl, rfl⟩)
                  | (go_at_call 25; (with_reducible refine (HWD.out _).mono ?_); rintro e w2 ⟨rfl, ⟨nd, rfl⟩⟩)
                  | (go_at_call 31; (with_reducible refine (HF.out _ ?bel).mono ?_); (case bel => repeat (first | exact Below.refl _ _ | exact Nat.le_refl _ | apply below_drewN | apply Below.alloc)); rintro e w3 ⟨rfl, hr3, hb3⟩)
                  | (go_at_call 32; (with_reducible refine (HA.out _ ?bel).mono ?_); (case bel => repeat (first | exact Below.refl _ _ | exact Nat.le_refl _ | apply below_drewN | apply Below.alloc)); rintro e w3 ⟨rfl, hr3, hb3⟩))
                rw [rounds_succ]
                go_wp2_with (first
                  | (go_at_call 29; (with_reducible refine (HP.out _).mono ?_); rintro e w2 ⟨rfl, rfl⟩)
                  | (go_at_call 28; (with_reducible refine (HI.out _).mono ?_); rintro e w2 ⟨rfl, rfl⟩)
                  | (go_at_call 46; (with_reducible refine (HC.out _ ?bel).mono ?_); (case bel => repeat (first | exact Below.refl _ _ | exact Nat.le_refl _ | apply below_drewN | apply Below.alloc)); rintro e w2 ⟨rfl, rfl⟩)
                  | (go_at_call 25; (with_reducible refine (HWD.out _).mono ?_); rintro e w2 ⟨rfl, ⟨nd, rfl⟩⟩)
                  | (go_at_call 31; (with_reducible refine (HF.out _ ?bel).mono ?_); (case bel => repeat (first | exact Below.refl _ _ | exact Nat.le_refl _ | apply below_drewN | apply Below.alloc)); rintro e w3 ⟨rfl, hr3, hb3⟩)
                  | (go_at_call 32; (with_reducible refine (HA.out _ ?bel).mono ?_); (case bel => repeat (first | exact Below.refl _ _ | exact Nat.le_refl _ | apply below_drewN | apply Below.alloc)); rintro e w3 ⟨rfl, hr3, hb3⟩))
                rw [rounds_succ]
                go_wp2_with (first
                  | (go_at_call 29; (with_reducible refine (HP.out _).mono ?_); rintro e w2 ⟨rfl, rfl⟩)
                  | (go_at_call 28; (with_reducible refine (HI.out _).mono ?_); rintro e w2 ⟨rfl, rfl⟩)
                  | (go_at_call 46; (with_reducible refine (HC.out _ ?bel).mono ?_); (case bel => repeat (first | exact Below.refl _ _ | exact Nat.le_refl _ | apply below_drewN | apply Below.alloc)); rintro e w2 ⟨rfl, rfl⟩)
                  | (go_at_call 25; (with_reducible refine (HWD.out _).mono ?_); rintro e w2 ⟨rfl, ⟨nd, rfl⟩⟩)
                  | (go_at_call 31; (with_reducible refine (HF.out _ ?bel).mono ?_); (case bel => repeat (first | exact Below.refl _ _ | exact Nat.le_refl _ | apply below_drewN | apply Below.alloc)); rintro e w3 ⟨rfl, hr3, hb3⟩)
                  | (go_at_call 32; (with_reducible refine (HA.out _ ?bel).mono ?_); (case bel => repeat (first | exact Below.refl _ _ | exact Nat.le_refl _ | apply below_drewN | apply Below.alloc)); rintro e w3 ⟨rfl, hr3, hb3⟩))
                go_ret
                refine ⟨Below.trans ?_ hb3, by rw [HSG.out]; exact ⟨rfl, hr3⟩⟩
                refine Below.mono (B := w.heap.size) ?_ HBW.out
                repeat (first | exact Below.refl _ _ | exact Nat.le_refl _ | apply below_drewN | apply Below.alloc)
            | cons d r2 =>
              have hz2 : decide ((t.size : Int) < 2) = false := decide_eq_false (by rw [← hrz, hr2]; simp; omega)
              have h2s : 2 ≤ t.size := by rw [← hrz, hr2]; simp
              obtain ⟨hbd, _, _⟩ := bt_of t 1 d r2 (by rw [HTL.out, hr2]; rfl)
              have hxd : ∀ h : 1 < t.size, ((t[1]'h).toNat : Int) = bt t 1 := bt_at t 1
              obtain ⟨u, hu⟩ : ∃ x, t.extract 0 2 = x := ⟨_, rfl⟩
              have HU : Hid (u.data.toList = (c :: r).take 2) := Lib.hid (by rw [← hu, take_data, HTL.out])
              have hu2 : u.data.toList = [c, d] := by rw [HU.out, hr2]; rfl
              obtain ⟨K, hK⟩ : ∃ k, Lib.contains [58, 45, 32, 60, 58, 32, 60, 61, 32, 62, 61, 32, 33, 61] [c, d] = k := ⟨_, rfl⟩
              have HC : Hid (∀ w2, Below w.heap.size w w2 → Calls Tryd.prog 46 #[.string ⟨#[58, 45, 32, 60, 58, 32, 60, 61, 32, 62, 61, 32, 33, 61]⟩, .string u] w2 fun e w' => e = .returned (.bool K) ∧ w' = w2) := Lib.hid (fun w2 hb => by
                obtain ⟨m, hm⟩ := max_below hb (Nat.lt_of_lt_of_le hB0 HBW.out) hM
                have := Tryd.strings_Contains ⟨#[58, 45, 32, 60, 58, 32, 60, 61, 32, 62, 61, 32, 33, 61]⟩ u m w2 (by decide) hm
                rw [hu2] at this
                rw [← hK]
                exact this)
              have h2x := two_index c d
              rw [hK] at h2x
              obtain ⟨ka, hka⟩ : ∃ k, (c != 32) = k := ⟨_, rfl⟩
              obtain ⟨kb, hkb⟩ : ∃ k, (d != 32) = k := ⟨_, rfl⟩
              rw [hka, hkb] at h2x
              have hkb2 : (bt t 1 != 32) = kb := by rw [← hkb, show bt t 1 = (d.toNat : Int) from hbd]; exact ne32 d
              have hka2 : (bt t 0 != 32) = ka := by rw [← hka, hb0]; exact ne32 c
              have HNH2 := Lib.hid (show signLen (c :: r) = if (K && ka && kb) = true then 2 else if ones.contains c = true then 1 else 0 by rw [HNH.out, ← h2x, hr2]; rfl)
              clear hr2 hrz HNH hu2 hK h2x hka hkb hbd hb0
              cases K with
              | true =>
                cases ka with
                | true =>
                  cases kb with
                  | true =>
                    have HSL := Lib.hid (show signLen (c :: r) = 2 from HNH2.out)
                    clear HNH2
                    have HSG := Lib.hid (show sign (c :: r) = .tok 4 ((c :: r).take 2) 0 2 by unfold sign; rw [HSL.out]; rfl)
                    have HA := Lib.hid (add_of (x := u) (k := 2) HR.out HLL.out hq65 (by decide) HBW.out HU.out 2 rfl)
                    clear HSL hI
                    refine wp_loop_rounds 3 ?_
                    rw [rounds_succ]
                    go_wp2_with (first
                      | (go_at_call 29; (with_reducible refine (HP.out _).mono ?_); rintro e w2 ⟨rfl, rfl⟩)
                      | (go_at_call 28; (with_reducible refine (HI.out _).mono ?_); rintro e w2 ⟨rfl, rfl⟩)
                      | (go_at_call 46; (with_reducible refine (HC.out _ ?bel).mono ?_); (case bel => repeat (first | exact Below.refl _ _ | exact Nat.le_refl _ | apply below_drewN | apply Below.alloc)); rintro e w2 ⟨rfl, rfl⟩)
                      | (go_at_call 25; (with_reducible refine (HWD.out _).mono ?_); rintro e w2 ⟨rfl, ⟨nd, rfl⟩⟩)
                      | (go_at_call 31; (with_reducible refine (HF.out _ ?bel).mono ?_); (case bel => repeat (first | exact Below.refl _ _ | exact Nat.le_refl _ | apply below_drewN | apply Below.alloc)); rintro e w3 ⟨rfl, hr3, hb3⟩)
                      | (go_at_call 32; (with_reducible refine (HA.out _ ?bel).mono ?_); (case bel => repeat (first | exact Below.refl _ _ | exact Nat.le_refl _ | apply below_drewN | apply Below.alloc)); rintro e w3 ⟨rfl, hr3, hb3⟩))
                    go_ret
                    refine ⟨Below.trans ?_ hb3, by rw [HSG.out]; exact ⟨rfl, hr3⟩⟩
                    refine Below.mono (B := w.heap.size) ?_ HBW.out
                    repeat (first | exact Below.refl _ _ | exact Nat.le_refl _ | apply below_drewN | apply Below.alloc)
                  | false =>
                    have HSL := Lib.hid (show signLen (c :: r) = if ones.contains c = true then 1 else 0 from HNH2.out)
                    clear HNH2
                    cases k1 with
                    | true =>
                      have HSG := Lib.hid (show sign (c :: r) = .tok 4 ((c :: r).take 1) 0 1 by unfold sign; rw [HSL.out, HONE.out]; rfl)
                      have HA := Lib.hid (add_of (x := u1) (k := 1) HR.out HLL.out hq65 (by decide) HBW.out HU1.out 1 rfl)
                      have hib : decide (0 ≤ I) = true := hI
                      clear HSL HONE hI
                      refine wp_loop_rounds 3 ?_
                      rw [rounds_succ]
                      go_wp2_with (first
                        | (go_at_call 29; (with_reducible refine (HP.out _).mono ?_); rintro e w2 ⟨rfl, rfl⟩)
                        | (go_at_call 28; (with_reducible refine (HI.out _).mono ?_); rintro e w2 ⟨rfl, rfl⟩)
                        | (go_at_call 46; (with_reducible refine (HC.out _ ?bel).mono ?_); (case bel => repeat (first | exact Below.refl _ _ | exact Nat.le_refl _ | apply below_drewN | apply Below.alloc)); rintro e w2 ⟨rfl, rfl⟩)
                        | (go_at_call 25; (with_reducible refine (HWD.out _).mono ?_); rintro e w2 ⟨rfl, ⟨nd, rfl⟩⟩)
                        | (go_at_call 31; (with_reducible refine (HF.out _ ?bel).mono ?_); (case bel => repeat (first | exact Below.refl _ _ | exact Nat.le_refl _ | apply below_drewN | apply Below.alloc)); rintro e w3 ⟨rfl, hr3, hb3⟩)
                        | (go_at_call 32; (with_reducible refine (HA.out _ ?bel).mono ?_); (case bel => repeat (first | exact Below.refl _ _ | exact Nat.le_refl _ | apply below_drewN | apply Below.alloc)); rintro e w3 ⟨rfl, hr3, hb3⟩))
                      rw [rounds_succ]
                      go_wp2_with (first
                        | (go_at_call 29; (with_reducible refine (HP.out _).mono ?_); rintro e w2 ⟨rfl, rfl⟩)
                        | (go_at_call 28; (with_reducible refine (HI.out _).mono ?_); rintro e w2 ⟨rfl, rfl⟩)
                        | (go_at_call 46; (with_reducible refine (HC.out _ ?bel).mono ?_); (case bel => repeat (first | exact Below.refl _ _ | exact Nat.le_refl _ | apply below_drewN | apply Below.alloc)); rintro e w2 ⟨rfl, rfl⟩)
                        | (go_at_call 25; (with_reducible refine (HWD.out _).mono ?_); rintro e w2 ⟨rfl, ⟨nd, rfl⟩⟩)
                        | (go_at_call 31; (with_reducible refine (HF.out _ ?bel).mono ?_); (case bel => repeat (first | exact Below.refl _ _ | exact Nat.le_refl _ | apply below_drewN | apply Below.alloc)); rintro e w3 ⟨rfl, hr3, hb3⟩)
                        | (go_at_call 32; (with_reducible refine (HA.out _ ?bel).mono ?_); (case bel => repeat (first | exact Below.refl _ _ | exact Nat.le_refl _ | apply below_drewN | apply Below.alloc)); rintro e w3 ⟨rfl, hr3, hb3⟩))
                      go_ret
                      refine ⟨Below.trans ?_ hb3, by rw [HSG.out]; exact ⟨rfl, hr3⟩⟩
                      refine Below.mono (B := w.heap.size) ?_ HBW.out
                      repeat (first | exact Below.refl _ _ | exact Nat.le_refl _ | apply below_drewN | apply Below.alloc)
                    | false =>
                      have HSG := Lib.hid (show sign (c :: r) = .bad 7 0 by unfold sign; rw [HSL.out, HONE.out]; rfl)
                      have HF := Lib.hid (fun w2 hb => fail_any w2 B b s (q : Int) l why fat 7 (q : Int) (RS.below (w' := w2) HR.out hb))
                      have hib : decide (0 ≤ I) = false := hI
                      clear HSL HONE hI
                      refine wp_loop_rounds 3 ?_
                      rw [rounds_succ]
                      go_wp2_with (first
                        | (go_at_call 29; (with_reducible refine (HP.out _).mono ?_); rintro e w2 ⟨rfl, rfl⟩)
                        | (go_at_call 28; (with_reducible refine (HI.out _).mono ?_); rintro e w2 ⟨rfl, rfl⟩)
                        | (go_at_call 46; (with_reducible refine (HC.out _ ?bel).mono ?_); (case bel => repeat (first | exact Below.refl _ _ | exact Nat.le_refl _ | apply below_drewN | apply Below.alloc)); rintro e w2 ⟨rfl, rfl⟩)
                        | (go_at_call 25; (with_reducible refine (HWD.out _).mono ?_); rintro e w2 ⟨rfl, ⟨nd, rfl⟩⟩)
                        | (go_at_call 31; (with_reducible refine (HF.out _ ?bel).mono ?_); (case bel => repeat (first | exact Below.refl _ _ | exact Nat.le_refl _ | apply below_drewN | apply Below.alloc)); rintro e w3 ⟨rfl, hr3, hb3⟩)
                        | (go_at_call 32; (with_reducible refine (HA.out _ ?bel).mono ?_); (case bel => repeat (first | exact Below.refl _ _ | exact Nat.le_refl _ | apply below_drewN | apply Below.alloc)); rintro e w3 ⟨rfl, hr3, hb3⟩))
                      rw [rounds_succ]
                      go_wp2_with (first
                        | (go_at_call 29; (with_reducible refine (HP.out _).mono ?_); rintro e w2 ⟨rfl, rfl⟩)
                        | (go_at_call 28; (with_reducible refine (HI.out _).mono ?_); rintro e w2 ⟨rfl, rfl⟩)
                        | (go_at_call 46; (with_reducible refine (HC.out _ ?bel).mono ?_); (case bel => repeat (first | exact Below.refl _ _ | exact Nat.le_refl _ | apply below_drewN | apply Below.alloc)); rintro e w2 ⟨rfl, rfl⟩)
                        | (go_at_call 25; (with_reducible refine (HWD.out _).mono ?_); rintro e w2 ⟨rfl, ⟨nd, rfl⟩⟩)
                        | (go_at_call 31; (with_reducible refine (HF.out _ ?bel).mono ?_); (case bel => repeat (first | exact Below.refl _ _ | exact Nat.le_refl _ | apply below_drewN | apply Below.alloc)); rintro e w3 ⟨rfl, hr3, hb3⟩)
                        | (go_at_call 32; (with_reducible refine (HA.out _ ?bel).mono ?_); (case bel => repeat (first | exact Below.refl _ _ | exact Nat.le_refl _ | apply below_drewN | apply Below.alloc)); rintro e w3 ⟨rfl, hr3, hb3⟩))
                      rw [rounds_succ]
                      go_wp2_with (first
                        | (go_at_call 29; (with_reducible refine (HP.out _).mono ?_); rintro e w2 ⟨rfl, rfl⟩)
                        | (go_at_call 28; (with_reducible refine (HI.out _).mono ?_); rintro e w2 ⟨rfl, rfl⟩)
                        | (go_at_call 46; (with_reducible refine (HC.out _ ?bel).mono ?_); (case bel => repeat (first | exact Below.refl _ _ | exact Nat.le_refl _ | apply below_drewN | apply Below.alloc)); rintro e w2 ⟨rfl, rfl⟩)
                        | (go_at_call 25; (with_reducible refine (HWD.out _).mono ?_); rintro e w2 ⟨rfl, ⟨nd, rfl⟩⟩)
                        | (go_at_call 31; (with_reducible refine (HF.out _ ?bel).mono ?_); (case bel => repeat (first | exact Below.refl _ _ | exact Nat.le_refl _ | apply below_drewN | apply Below.alloc)); rintro e w3 ⟨rfl, hr3, hb3⟩)
                        | (go_at_call 32; (with_reducible refine (HA.out _ ?bel).mono ?_); (case bel => repeat (first | exact Below.refl _ _ | exact Nat.le_refl _ | apply below_drewN | apply Below.alloc)); rintro e w3 ⟨rfl, hr3, hb3⟩))
                      go_ret
                      refine ⟨Below.trans ?_ hb3, by rw [HSG.out]; exact ⟨rfl, hr3⟩⟩
                      refine Below.mono (B := w.heap.size) ?_ HBW.out
                      repeat (first | exact Below.refl _ _ | exact Nat.le_refl _ | apply below_drewN | apply Below.alloc)
                | false =>
                  have HSL := Lib.hid (show signLen (c :: r) = if ones.contains c = true then 1 else 0 from HNH2.out)
                  clear HNH2
                  cases k1 with
                  | true =>
                    have HSG := Lib.hid (show sign (c :: r) = .tok 4 ((c :: r).take 1) 0 1 by unfold sign; rw [HSL.out, HONE.out]; rfl)
                    have HA := Lib.hid (add_of (x := u1) (k := 1) HR.out HLL.out hq65 (by decide) HBW.out HU1.out 1 rfl)
                    have hib : decide (0 ≤ I) = true := hI
                    clear HSL HONE hI
                    refine wp_loop_rounds 3 ?_
                    rw [rounds_succ]
                    go_wp2_with (first
                      | (go_at_call 29; (with_reducible refine (HP.out _).mono ?_); rintro e w2 ⟨rfl, rfl⟩)
                      | (go_at_call 28; (with_reducible refine (HI.out _).mono ?_); rintro e w2 ⟨rfl, rfl⟩)
                      | (go_at_call 46; (with_reducible refine (HC.out _ ?bel).mono ?_); (case bel => repeat (first | exact Below.refl _ _ | exact Nat.le_refl _ | apply below_drewN | apply Below.alloc)); rintro e w2 ⟨rfl, rfl⟩)
                      | (go_at_call 25; (with_reducible refine (HWD.out _).mono ?_); rintro e w2 ⟨rfl, ⟨nd, rfl⟩⟩)
                      | (go_at_call 31; (with_reducible refine (HF.out _ ?bel).mono ?_); (case bel => repeat (first | exact Below.refl _ _ | exact Nat.le_refl _ | apply below_drewN | apply Below.alloc)); rintro e w3 ⟨rfl, hr3, hb3⟩)
                      | (go_at_call 32; (with_reducible refine (HA.out _ ?bel).mono ?_); (case bel => repeat (first | exact Below.refl _ _ | exact Nat.le_refl _ | apply below_drewN | apply Below.alloc)); rintro e w3 ⟨rfl, hr3, hb3⟩))
                    rw [rounds_succ]
                    go_wp2_with (first
                      | (go_at_call 29; (with_reducible refine (HP.out _).mono ?_); rintro e w2 ⟨rfl, rfl⟩)
                      | (go_at_call 28; (with_reducible refine (HI.out _).mono ?_); rintro e w2 ⟨rfl, rfl⟩)
                      | (go_at_call 46; (with_reducible refine (HC.out _ ?bel).mono ?_); (case bel => repeat (first | exact Below.refl _ _ | exact Nat.le_refl _ | apply below_drewN | apply Below.alloc)); rintro e w2 ⟨rfl, rfl⟩)
                      | (go_at_call 25; (with_reducible refine (HWD.out _).mono ?_); rintro e w2 ⟨rfl, ⟨nd, rfl⟩⟩)
                      | (go_at_call 31; (with_reducible refine (HF.out _ ?bel).mono ?_); (case bel => repeat (first | exact Below.refl _ _ | exact Nat.le_refl _ | apply below_drewN | apply Below.alloc)); rintro e w3 ⟨rfl, hr3, hb3⟩)
                      | (go_at_call 32; (with_reducible refine (HA.out _ ?bel).mono ?_); (case bel => repeat (first | exact Below.refl _ _ | exact Nat.le_refl _ | apply below_drewN | apply Below.alloc)); rintro e w3 ⟨rfl, hr3, hb3⟩))
                    go_ret
                    refine ⟨Below.trans ?_ hb3, by rw [HSG.out]; exact ⟨rfl, hr3⟩⟩
                    refine Below.mono (B := w.heap.size) ?_ HBW.out
                    repeat (first | exact Below.refl _ _ | exact Nat.le_refl _ | apply below_drewN | apply Below.alloc)
                  | false =>
                    have HSG := Lib.hid (show sign (c :: r) = .bad 7 0 by unfold sign; rw [HSL.out, HONE.out]; rfl)
                    have HF := Lib.hid (fun w2 hb => fail_any w2 B b s (q : Int) l why fat 7 (q : Int) (RS.below (w' := w2) HR.out hb))
                    have hib : decide (0 ≤ I) = false := hI
                    clear HSL HONE hI
                    refine wp_loop_rounds 3 ?_
                    rw [rounds_succ]
                    go_wp2_with (first
                      | (go_at_call 29; (with_reducible refine (HP.out _).mono ?_); rintro e w2 ⟨rfl, rfl⟩)
                      | (go_at_call 28; (with_reducible refine (HI.out _).mono ?_); rintro e w2 ⟨rfl, rfl⟩)
                      | (go_at_call 46; (with_reducible refine (HC.out _ ?bel).mono ?_); (case bel => repeat (first | exact Below.refl _ _ | exact Nat.le_refl _ | apply below_drewN | apply Below.alloc)); rintro e w2 ⟨rfl, rfl⟩)
                      | (go_at_call 25; (with_reducible refine (HWD.out _).mono ?_); rintro e w2 ⟨rfl, ⟨nd, rfl⟩⟩)
                      | (go_at_call 31; (with_reducible refine (HF.out _ ?bel).mono ?_); (case bel => repeat (first | exact Below.refl _ _ | exact Nat.le_refl _ | apply below_drewN | apply Below.alloc)); rintro e w3 ⟨rfl, hr3, hb3⟩)
                      | (go_at_call 32; (with_reducible refine (HA.out _ ?bel).mono ?_); (case bel => repeat (first | exact Below.refl _ _ | exact Nat.le_refl _ | apply below_drewN | apply Below.alloc)); rintro e w3 ⟨rfl, hr3, hb3⟩))
                    rw [rounds_succ]
                    go_wp2_with (first
                      | (go_at_call 29; (with_reducible refine (HP.out _).mono ?_); rintro e w2 ⟨rfl, rfl⟩)
                      | (go_at_call 28; (with_reducible refine (HI.out _).mono ?_); rintro e w2 ⟨rfl, rfl⟩)
                      | (go_at_call 46; (with_reducible refine (HC.out _ ?bel).mono ?_); (case bel => repeat (first | exact Below.refl _ _ | exact Nat.le_refl _ | apply below_drewN | apply Below.alloc)); rintro e w2 ⟨rfl, rfl⟩)
                      | (go_at_call 25; (with_reducible refine (HWD.out _).mono ?_); rintro e w2 ⟨rfl, ⟨nd, rfl⟩⟩)
                      | (go_at_call 31; (with_reducible refine (HF.out _ ?bel).mono ?_); (case bel => repeat (first | exact Below.refl _ _ | exact Nat.le_refl _ | apply below_drewN | apply Below.alloc)); rintro e w3 ⟨rfl, hr3, hb3⟩)
                      | (go_at_call 32; (with_reducible refine (HA.out _ ?bel).mono ?_); (case bel => repeat (first | exact Below.refl _ _ | exact Nat.le_refl _ | apply below_drewN | apply Below.alloc)); rintro e w3 ⟨rfl, hr3, hb3⟩))
                    rw [rounds_succ]
                    go_wp2_with (first
                      | (go_at_call 29; (with_reducible refine (HP.out _).mono ?_); rintro e w2 ⟨rfl, rfl⟩)
                      | (go_at_call 28; (with_reducible refine (HI.out _).mono ?_); rintro e w2 ⟨rfl, rfl⟩)
                      | (go_at_call 46; (with_reducible refine (HC.out _ ?bel).mono ?_); (case bel => repeat (first | exact Below.refl _ _ | exact Nat.le_refl _ | apply below_drewN | apply Below.alloc)); rintro e w2 ⟨rfl, rfl⟩)
                      | (go_at_call 25; (with_reducible refine (HWD.out _).mono ?_); rintro e w2 ⟨rfl, ⟨nd, rfl⟩⟩)
                      | (go_at_call 31; (with_reducible refine (HF.out _ ?bel).mono ?_); (case bel => repeat (first | exact Below.refl _ _ | exact Nat.le_refl _ | apply below_drewN | apply Below.alloc)); rintro e w3 ⟨rfl, hr3, hb3⟩)
                      | (go_at_call 32; (with_reducible refine (HA.out _ ?bel).mono ?_); (case bel => repeat (first | exact Below.refl _ _ | exact Nat.le_refl _ | apply below_drewN | apply Below.alloc)); rintro e w3 ⟨rfl, hr3, hb3⟩))
                    go_ret
                    refine ⟨Below.trans ?_ hb3, by rw [HSG.out]; exact ⟨rfl, hr3⟩⟩
                    refine Below.mono (B := w.heap.size) ?_ HBW.out
                    repeat (first | exact Below.refl _ _ | exact Nat.le_refl _ | apply below_drewN | apply Below.alloc)
              | false =>
                have HSL := Lib.hid (show signLen (c :: r) = if ones.contains c = true then 1 else 0 from HNH2.out)
                clear HNH2
                cases k1 with
                | true =>
                  have HSG := Lib.hid (show sign (c :: r) = .tok 4 ((c :: r).take 1) 0 1 by unfold sign; rw [HSL.out, HONE.out]; rfl)
                  have HA := Lib.hid (add_of (x := u1) (k := 1) HR.out HLL.out hq65 (by decide) HBW.out HU1.out 1 rfl)
                  have hib : decide (0 ≤ I) = true := hI
                  clear HSL HONE hI
                  refine wp_loop_rounds 3 ?_
                  rw [rounds_succ]
                  go_wp2_with (first
                    | (go_at_call 29; (with_reducible refine (HP.out _).mono ?_); rintro e w2 ⟨rfl, rfl⟩)
                    | (go_at_call 28; (with_reducible refine (HI.out _).mono ?_); rintro e w2 ⟨rfl, rfl⟩)
                    | (go_at_call 46; (with_reducible refine (HC.out _ ?bel).mono ?_); (case bel => repeat (first | exact Below.refl _ _ | exact Nat.le_refl _ | apply below_drewN | apply Below.alloc)); rintro e w2 ⟨rfl, rfl⟩)
                    | (go_at_call 25; (with_reducible refine (HWD.out _).mono ?_); rintro e w2 ⟨rfl, ⟨nd, rfl⟩⟩)
                    | (go_at_call 31; (with_reducible refine (HF.out _ ?bel).mono ?_); (case bel => repeat (first | exact Below.refl _ _ | exact Nat.le_refl _ | apply below_drewN | apply Below.alloc)); rintro e w3 ⟨rfl, hr3, hb3⟩)
                    | (go_at_call 32; (with_reducible refine (HA.out _ ?bel).mono ?_); (case bel => repeat (first | exact Below.refl _ _ | exact Nat.le_refl _ | apply below_drewN | apply Below.alloc)); rintro e w3 ⟨rfl, hr3, hb3⟩))
                  rw [rounds_succ]
                  go_wp2_with (first
                    | (go_at_call 29; (with_reducible refine (HP.out _).mono ?_); rintro e w2 ⟨rfl, rfl⟩)
                    | (go_at_call 28; (with_reducible refine (HI.out _).mono ?_); rintro e w2 ⟨rfl, rfl⟩)
                    | (go_at_call 46; (with_reducible refine (HC.out _ ?bel).mono ?_); (case bel => repeat (first | exact Below.refl _ _ | exact Nat.le_refl _ | apply below_drewN | apply Below.alloc)); rintro e w2 ⟨rfl, rfl⟩)
                    | (go_at_call 25; (with_reducible refine (HWD.out _).mono ?_); rintro e w2 ⟨rfl, ⟨nd, rfl⟩⟩)
                    | (go_at_call 31; (with_reducible refine (HF.out _ ?bel).mono ?_); (case bel => repeat (first | exact Below.refl _ _ | exact Nat.le_refl _ | apply below_drewN | apply Below.alloc)); rintro e w3 ⟨rfl, hr3, hb3⟩)
                    | (go_at_call 32; (with_reducible refine (HA.out _ ?bel).mono ?_); (case bel => repeat (first | exact Below.refl _ _ | exact Nat.le_refl _ | apply below_drewN | apply Below.alloc)); rintro e w3 ⟨rfl, hr3, hb3⟩))
                  go_ret
                  refine ⟨Below.trans ?_ hb3, by rw [HSG.out]; exact ⟨rfl, hr3⟩⟩
                  refine Below.mono (B := w.heap.size) ?_ HBW.out
                  repeat (first | exact Below.refl _ _ | exact Nat.le_refl _ | apply below_drewN | apply Below.alloc)
                | false =>
                  have HSG := Lib.hid (show sign (c :: r) = .bad 7 0 by unfold sign; rw [HSL.out, HONE.out]; rfl)
                  have HF := Lib.hid (fun w2 hb => fail_any w2 B b s (q : Int) l why fat 7 (q : Int) (RS.below (w' := w2) HR.out hb))
                  have hib : decide (0 ≤ I) = false := hI
                  clear HSL HONE hI
                  refine wp_loop_rounds 3 ?_
                  rw [rounds_succ]
                  go_wp2_with (first
                    | (go_at_call 29; (with_reducible refine (HP.out _).mono ?_); rintro e w2 ⟨rfl, rfl⟩)
                    | (go_at_call 28; (with_reducible refine (HI.out _).mono ?_); rintro e w2 ⟨rfl, rfl⟩)
                    | (go_at_call 46; (with_reducible refine (HC.out _ ?bel).mono ?_); (case bel => repeat (first | exact Below.refl _ _ | exact Nat.le_refl _ | apply below_drewN | apply Below.alloc)); rintro e w2 ⟨rfl, rfl⟩)
                    | (go_at_call 25; (with_reducible refine (HWD.out _).mono ?_); rintro e w2 ⟨rfl, ⟨nd, rfl⟩⟩)
                    | (go_at_call 31; (with_reducible refine (HF.out _ ?bel).mono ?_); (case bel => repeat (first | exact Below.refl _ _ | exact Nat.le_refl _ | apply below_drewN | apply Below.alloc)); rintro e w3 ⟨rfl, hr3, hb3⟩)
                    | (go_at_call 32; (with_reducible refine (HA.out _ ?bel).mono ?_); (case bel => repeat (first | exact Below.refl _ _ | exact Nat.le_refl _ | apply below_drewN | apply Below.alloc)); rintro e w3 ⟨rfl, hr3, hb3⟩))
                  rw [rounds_succ]
                  go_wp2_with (first
                    | (go_at_call 29; (with_reducible refine (HP.out _).mono ?_); rintro e w2 ⟨rfl, rfl⟩)
                    | (go_at_call 28; (with_reducible refine (HI.out _).mono ?_); rintro e w2 ⟨rfl, rfl⟩)
                    | (go_at_call 46; (with_reducible refine (HC.out _ ?bel).mono ?_); (case bel => repeat (first | exact Below.refl _ _ | exact Nat.le_refl _ | apply below_drewN | apply Below.alloc)); rintro e w2 ⟨rfl, rfl⟩)
                    | (go_at_call 25; (with_reducible refine (HWD.out _).mono ?_); rintro e w2 ⟨rfl, ⟨nd, rfl⟩⟩)
                    | (go_at_call 31; (with_reducible refine (HF.out _ ?bel).mono ?_); (case bel => repeat (first | exact Below.refl _ _ | exact Nat.le_refl _ | apply below_drewN | apply Below.alloc)); rintro e w3 ⟨rfl, hr3, hb3⟩)
                    | (go_at_call 32; (with_reducible refine (HA.out _ ?bel).mono ?_); (case bel => repeat (first | exact Below.refl _ _ | exact Nat.le_refl _ | apply below_drewN | apply Below.alloc)); rintro e w3 ⟨rfl, hr3, hb3⟩))
                  rw [rounds_succ]
                  go_wp2_with (first
                    | (go_at_call 29; (with_reducible refine (HP.out _).mono ?_); rintro e w2 ⟨rfl, rfl⟩)
                    | (go_at_call 28; (with_reducible refine (HI.out _).mono ?_); rintro e w2 ⟨rfl, rfl⟩)
                    | (go_at_call 46; (with_reducible refine (HC.out _ ?bel).mono ?_); (case bel => repeat (first | exact Below.refl _ _ | exact Nat.le_refl _ | apply below_drewN | apply Below.alloc)); rintro e w2 ⟨rfl, rfl⟩)
                    | (go_at_call 25; (with_reducible refine (HWD.out _).mono ?_); rintro e w2 ⟨rfl, ⟨nd, rfl⟩⟩)
                    | (go_at_call 31; (with_reducible refine (HF.out _ ?bel).mono ?_); (case bel => repeat (first | exact Below.refl _ _ | exact Nat.le_refl _ | apply below_drewN | apply Below.alloc)); rintro e w3 ⟨rfl, hr3, hb3⟩)
                    | (go_at_call 32; (with_reducible refine (HA.out _ ?bel).mono ?_); (case bel => repeat (first | exact Below.refl _ _ | exact Nat.le_refl _ | apply below_drewN | apply Below.alloc)); rintro e w3 ⟨rfl, hr3, hb3⟩))
                  go_ret
                  refine ⟨Below.trans ?_ hb3, by rw [HSG.out]; exact ⟨rfl, hr3⟩⟩
                  refine Below.mono (B := w.heap.size) ?_ HBW.out
                  repeat (first | exact Below.refl _ _ | exact Nat.le_refl _ | apply below_drewN | apply Below.alloc)
  | false =>
    have HNH := Lib.hid (sign_nohead (c := c) (r := r) (fun h => by rw [h.1] at hk46; cases hk46))
    clear hwl HWD hk46
    go_wp2_with (first
      | (go_at_call 29; (with_reducible refine (HP.out _).mono ?_); rintro e w2 ⟨rfl, rfl⟩)
      | (go_at_call 28; (with_reducible refine (HI.out _).mono ?_); rintro e w2 ⟨rfl, rfl⟩)
      | (go_at_call 46; (with_reducible refine (HC.out _ ?bel).mono ?_); (case bel => repeat (first | exact Below.refl _ _ | exact Nat.le_refl _ | apply below_drewN | apply Below.alloc)); rintro e w2 ⟨rfl, rfl⟩)
      | (go_at_call 25; (with_reducible refine (HWD.out _).mono ?_); rintro e w2 ⟨rfl, ⟨nd, rfl⟩⟩)
      | (go_at_call 31; (with_reducible refine (HF.out _ ?bel).mono ?_); (case bel => repeat (first | exact Below.refl _ _ | exact Nat.le_refl _ | apply below_drewN | apply Below.alloc)); rintro e w3 ⟨rfl, hr3, hb3⟩)
      | (go_at_call 32; (with_reducible refine (HA.out _ ?bel).mono ?_); (case bel => repeat (first | exact Below.refl _ _ | exact Nat.le_refl _ | apply below_drewN | apply Below.alloc)); rintro e w3 ⟨rfl, hr3, hb3⟩))
    cases hr2 : r with
    | nil =>
      have hz2 : decide ((t.size : Int) < 2) = true := decide_eq_true (by rw [← hrz, hr2]; decide)
      have HSL := Lib.hid (show signLen (c :: r) = if ones.contains c = true then 1 else 0 by rw [HNH.out, hr2]; rw [twos_one c]; rfl)
      clear hr2 hrz HNH hb0
      cases k1 with
      | true =>
        have HSG := Lib.hid (show sign (c :: r) = .tok 4 ((c :: r).take 1) 0 1 by unfold sign; rw [HSL.out, HONE.out]; rfl)
        have HA := Lib.hid (add_of (x := u1) (k := 1) HR.out HLL.out hq65 (by decide) HBW.out HU1.out 1 rfl)
        have hib : decide (0 ≤ I) = true := hI
        clear HSL HONE hI
        refine wp_loop_rounds 3 ?_
        rw [rounds_succ]
        go_wp2_with (first
          | (go_at_call 29; (with_reducible refine (HP.out _).mono ?_); rintro e w2 ⟨rfl, rfl⟩)
          | (go_at_call 28; (with_reducible refine (HI.out _).mono ?_); rintro e w2 ⟨rfl, rfl⟩)
          | (go_at_call 46; (with_reducible refine (HC.out _ ?bel).mono ?_); (case bel => repeat (first | exact Below.refl _ _ | exact Nat.le_refl _ | apply below_drewN | apply Below.alloc)); rintro e w2 ⟨rfl, rfl⟩)
          | (go_at_call 25; (with_reducible refine (HWD.out _).mono ?_); rintro e w2 ⟨rfl, ⟨nd, rfl⟩⟩)
          | (go_at_call 31; (with_reducible refine (HF.out _ ?bel).mono ?_); (case bel => repeat (first | exact Below.refl _ _ | exact Nat.le_refl _ | apply below_drewN | apply Below.alloc)); rintro e w3 ⟨rfl, hr3, hb3⟩)
          | (go_at_call 32; (with_reducible refine (HA.out _ ?bel).mono ?_); (case bel => repeat (first | exact Below.refl _ _ | exact Nat.le_refl _ | apply below_drewN | apply Below.alloc)); rintro e w3 ⟨rfl, hr3, hb3⟩))
        rw [rounds_succ]
        go_wp2_with (first
          | (go_at_call 29; (with_reducible refine (HP.out _).mono ?_); rintro e w2 ⟨rfl, rfl⟩)
          | (go_at_call 28; (with_reducible refine (HI.out _).mono ?_); rintro e w2 ⟨rfl, rfl⟩)
          | (go_at_call 46; (with_reducible refine (HC.out _ ?bel).mono ?_); (case bel => repeat (first | exact Below.refl _ _ | exact Nat.le_refl _ | apply below_drewN | apply Below.alloc)); rintro e w2 ⟨rfl, rfl⟩)
          | (go_at_call 25; (with_reducible refine (HWD.out _).mono ?_); rintro e w2 ⟨rfl, ⟨nd, rfl⟩⟩)
          | (go_at_call 31; (with_reducible refine (HF.out _ ?bel).mono ?_); (case bel => repeat (first | exact Below.refl _ _ | exact Nat.le_refl _ | apply below_drewN | apply Below.alloc)); rintro e w3 ⟨rfl, hr3, hb3⟩)
          | (go_at_call 32; (with_reducible refine (HA.out _ ?bel).mono ?_); (case bel => repeat (first | exact Below.refl _ _ | exact Nat.le_refl _ | apply below_drewN | apply Below.alloc)); rintro e w3 ⟨rfl, hr3, hb3⟩))
        go_ret
        refine ⟨Below.trans ?_ hb3, by rw [HSG.out]; exact ⟨rfl, hr3⟩⟩
        refine Below.mono (B := w.heap.size) ?_ HBW.out
        repeat (first | exact Below.refl _ _ | exact Nat.le_refl _ | apply below_drewN | apply Below.alloc)
      | false =>
        have HSG := Lib.hid (show sign (c :: r) = .bad 7 0 by unfold sign; rw [HSL.out, HONE.out]; rfl)
        have HF := Lib.hid (fun w2 hb => fail_any w2 B b s (q : Int) l why fat 7 (q : Int) (RS.below (w' := w2) HR.out hb))
        have hib : decide (0 ≤ I) = false := hI
        clear HSL HONE hI
        refine wp_loop_rounds 3 ?_
        rw [rounds_succ]
        go_wp2_with (first
          | (go_at_call 29; (with_reducible refine (HP.out _).mono ?_); rintro e w2 ⟨rfl, rfl⟩)
          | (go_at_call 28; (with_reducible refine (HI.out _).mono ?_); rintro e w2 ⟨rfl, rfl⟩)
          | (go_at_call 46; (with_reducible refine (HC.out _ ?bel).mono ?_); (case bel => repeat (first | exact Below.refl _ _ | exact Nat.le_refl _ | apply below_drewN | apply Below.alloc)); rintro e w2 ⟨rfl, rfl⟩)
          | (go_at_call 25; (with_reducible refine (HWD.out _).mono ?_); rintro e w2 ⟨rfl, ⟨nd, rfl⟩⟩)
          | (go_at_call 31; (with_reducible refine (HF.out _ ?bel).mono ?_); (case bel => repeat (first | exact Below.refl _ _ | exact Nat.le_refl _ | apply below_drewN | apply Below.alloc)); rintro e w3 ⟨rfl, hr3, hb3⟩)
          | (go_at_call 32; (with_reducible refine (HA.out _ ?bel).mono ?_); (case bel => repeat (first | exact Below.refl _ _ | exact Nat.le_refl _ | apply below_drewN | apply Below.alloc)); rintro e w3 ⟨rfl, hr3, hb3⟩))
        rw [rounds_succ]
        go_wp2_with (first
          | (go_at_call 29; (with_reducible refine (HP.out _).mono ?_); rintro e w2 ⟨rfl, rfl⟩)
          | (go_at_call 28; (with_reducible refine (HI.out _).mono ?_); rintro e w2 ⟨rfl, rfl⟩)
          | (go_at_call 46; (with_reducible refine (HC.out _ ?bel).mono ?_); (case bel => repeat (first | exact Below.refl _ _ | exact Nat.le_refl _ | apply below_drewN | apply Below.alloc)); rintro e w2 ⟨rfl, rfl⟩)
          | (go_at_call 25; (with_reducible refine (HWD.out _).mono ?_); rintro e w2 ⟨rfl, ⟨nd, rfl⟩⟩)
          | (go_at_call 31; (with_reducible refine (HF.out _ ?bel).mono ?_); (case bel => repeat (first | exact Below.refl _ _ | exact Nat.le_refl _ | apply below_drewN | apply Below.alloc)); rintro e w3 ⟨rfl, hr3, hb3⟩)
          | (go_at_call 32; (with_reducible refine (HA.out _ ?bel).mono ?_); (case bel => repeat (first | exact Below.refl _ _ | exact Nat.le_refl _ | apply below_drewN | apply Below.alloc)); rintro e w3 ⟨rfl, hr3, hb3⟩))
        rw [rounds_succ]
        go_wp2_with (first
          | (go_at_call 29; (with_reducible refine (HP.out _).mono ?_); rintro e w2 ⟨rfl, rfl⟩)
          | (go_at_call 28; (with_reducible refine (HI.out _).mono ?_); rintro e w2 ⟨rfl, rfl⟩)
          | (go_at_call 46; (with_reducible refine (HC.out _ ?bel).mono ?_); (case bel => repeat (first | exact Below.refl _ _ | exact Nat.le_refl _ | apply below_drewN | apply Below.alloc)); rintro e w2 ⟨rfl, rfl⟩)
          | (go_at_call 25; (with_reducible refine (HWD.out _).mono ?_); rintro e w2 ⟨rfl, ⟨nd, rfl⟩⟩)
          | (go_at_call 31; (with_reducible refine (HF.out _ ?bel).mono ?_); (case bel => repeat (first | exact Below.refl _ _ | exact Nat.le_refl _ | apply below_drewN | apply Below.alloc)); rintro e w3 ⟨rfl, hr3, hb3⟩)
          | (go_at_call 32; (with_reducible refine (HA.out _ ?bel).mono ?_); (case bel => repeat (first | exact Below.refl _ _ | exact Nat.le_refl _ | apply below_drewN | apply Below.alloc)); rintro e w3 ⟨rfl, hr3, hb3⟩))
        go_ret
        refine ⟨Below.trans ?_ hb3, by rw [HSG.out]; exact ⟨rfl, hr3⟩⟩
        refine Below.mono (B := w.heap.size) ?_ HBW.out
        repeat (first | exact Below.refl _ _ | exact Nat.le_refl _ | apply below_drewN | apply Below.alloc)
    | cons d r2 =>
      have hz2 : decide ((t.size : Int) < 2) = false := decide_eq_false (by rw [← hrz, hr2]; simp; omega)
      have h2s : 2 ≤ t.size := by rw [← hrz, hr2]; simp
      obtain ⟨hbd, _, _⟩ := bt_of t 1 d r2 (by rw [HTL.out, hr2]; rfl)
      have hxd : ∀ h : 1 < t.size, ((t[1]'h).toNat : Int) = bt t 1 := bt_at t 1
      obtain ⟨u, hu⟩ : ∃ x, t.extract 0 2 = x := ⟨_, rfl⟩
      have HU : Hid (u.data.toList = (c :: r).take 2) := Lib.hid (by rw [← hu, take_data, HTL.out])
      have hu2 : u.data.toList = [c, d] := by rw [HU.out, hr2]; rfl
      obtain ⟨K, hK⟩ : ∃ k, Lib.contains [58, 45, 32, 60, 58, 32, 60, 61, 32, 62, 61, 32, 33, 61] [c, d] = k := ⟨_, rfl⟩
      have HC : Hid (∀ w2, Below w.heap.size w w2 → Calls Tryd.prog 46 #[.string ⟨#[58, 45, 32, 60, 58, 32, 60, 61, 32, 62, 61, 32, 33, 61]⟩, .string u] w2 fun e w' => e = .returned (.bool K) ∧ w' = w2) := Lib.hid (fun w2 hb => by
        obtain ⟨m, hm⟩ := max_below hb (Nat.lt_of_lt_of_le hB0 HBW.out) hM
        have := Tryd.strings_Contains ⟨#[58, 45, 32, 60, 58, 32, 60, 61, 32, 62, 61, 32, 33, 61]⟩ u m w2 (by decide) hm
        rw [hu2] at this
        rw [← hK]
        exact this)
      have h2x := two_index c d
      rw [hK] at h2x
      obtain ⟨ka, hka⟩ : ∃ k, (c != 32) = k := ⟨_, rfl⟩
      obtain ⟨kb, hkb⟩ : ∃ k, (d != 32) = k := ⟨_, rfl⟩
      rw [hka, hkb] at h2x
      have hkb2 : (bt t 1 != 32) = kb := by rw [← hkb, show bt t 1 = (d.toNat : Int) from hbd]; exact ne32 d
      have hka2 : (bt t 0 != 32) = ka := by rw [← hka, hb0]; exact ne32 c
      have HNH2 := Lib.hid (show signLen (c :: r) = if (K && ka && kb) = true then 2 else if ones.contains c = true then 1 else 0 by rw [HNH.out, ← h2x, hr2]; rfl)
      clear hr2 hrz HNH hu2 hK h2x hka hkb hbd hb0
      cases K with
      | true =>
        cases ka with
        | true =>
          cases kb with
          | true =>
            have HSL := Lib.hid (show signLen (c :: r) = 2 from HNH2.out)
            clear HNH2
            have HSG := Lib.hid (show sign (c :: r) = .tok 4 ((c :: r).take 2) 0 2 by unfold sign; rw [HSL.out]; rfl)
            have HA := Lib.hid (add_of (x := u) (k := 2) HR.out HLL.out hq65 (by decide) HBW.out HU.out 2 rfl)
            clear HSL hI
            refine wp_loop_rounds 3 ?_
            rw [rounds_succ]
            go_wp2_with (first
              | (go_at_call 29; (with_reducible refine (HP.out _).mono ?_); rintro e w2 ⟨rfl, rfl⟩)
              | (go_at_call 28; (with_reducible refine (HI.out _).mono ?_); rintro e w2 ⟨rfl, rfl⟩)
              | (go_at_call 46; (with_reducible refine (HC.out _ ?bel).mono ?_); (case bel => repeat (first | exact Below.refl _ _ | exact Nat.le_refl _ | apply below_drewN | apply Below.alloc)); rintro e w2 ⟨rfl, rfl⟩)
              | (go_at_call 25; (with_reducible refine (HWD.out _).mono ?_); rintro e w2 ⟨rfl, ⟨nd, rfl⟩⟩)
              | (go_at_call 31; (with_reducible refine (HF.out _ ?bel).mono ?_); (case bel => repeat (first | exact Below.refl _ _ | exact Nat.le_refl _ | apply below_drewN | apply Below.alloc)); rintro e w3 ⟨rfl, hr3, hb3⟩)
              | (go_at_call 32; (with_reducible refine (HA.out _ ?bel).mono ?_); (case bel => repeat (first | exact Below.refl _ _ | exact Nat.le_refl _ | apply below_drewN | apply Below.alloc)); rintro e w3 ⟨rfl, hr3, hb3⟩))
            go_ret
            refine ⟨Below.trans ?_ hb3, by rw [HSG.out]; exact ⟨rfl, hr3⟩⟩
            refine Below.mono (B := w.heap.size) ?_ HBW.out
            repeat (first | exact Below.refl _ _ | exact Nat.le_refl _ | apply below_drewN | apply Below.alloc)
          | false =>
            have HSL := Lib.hid (show signLen (c :: r) = if ones.contains c = true then 1 else 0 from HNH2.out)
            clear HNH2
            cases k1 with
            | true =>
              have HSG := Lib.hid (show sign (c :: r) = .tok 4 ((c :: r).take 1) 0 1 by unfold sign; rw [HSL.out, HONE.out]; rfl)
              have HA := Lib.hid (add_of (x := u1) (k := 1) HR.out HLL.out hq65 (by decide) HBW.out HU1.out 1 rfl)
              have hib : decide (0 ≤ I) = true := hI
              clear HSL HONE hI
              refine wp_loop_rounds 3 ?_
              rw [rounds_succ]
              go_wp2_with (first
                | (go_at_call 29; (with_reducible refine (HP.out _).mono ?_); rintro e w2 ⟨rfl, rfl⟩)
                | (go_at_call 28; (with_reducible refine (HI.out _).mono ?_); rintro e w2 ⟨rfl, rfl⟩)
                | (go_at_call 46; (with_reducible refine (HC.out _ ?bel).mono ?_); (case bel => repeat (first | exact Below.refl _ _ | exact Nat.le_refl _ | apply below_drewN | apply Below.alloc)); rintro e w2 ⟨rfl, rfl⟩)
                | (go_at_call 25; (with_reducible refine (HWD.out _).mono ?_); rintro e w2 ⟨rfl, ⟨nd, rfl⟩⟩)
                | (go_at_call 31; (with_reducible refine (HF.out _ ?bel).mono ?_); (case bel => repeat (first | exact Below.refl _ _ | exact Nat.le_refl _ | apply below_drewN | apply Below.alloc)); rintro e w3 ⟨rfl, hr3, hb3⟩)
                | (go_at_call 32; (with_reducible refine (HA.out _ ?bel).mono ?_); (case bel => repeat (first | exact Below.refl _ _ | exact Nat.le_refl _ | apply below_drewN | apply Below.alloc)); rintro e w3 ⟨rfl, hr3, hb3⟩))
              rw [rounds_succ]
              go_wp2_with (first
                | (go_at_call 29; (with_reducible refine (HP.out _).mono ?_); rintro e w2 ⟨rfl, rfl⟩)
                | (go_at_call 28; (with_reducible refine (HI.out _).mono ?_); rintro e w2 ⟨rfl, rfl⟩)
                | (go_at_call 46; (with_reducible refine (HC.out _ ?bel).mono ?_); (case bel => repeat (first | exact Below.refl _ _ | exact Nat.le_refl _ | apply below_drewN | apply Below.alloc)); rintro e w2 ⟨rfl, rfl⟩)
                | (go_at_call 25; (with_reducible refine (HWD.out _).mono ?_); rintro e w2 ⟨rfl, ⟨nd, rfl⟩⟩)
                | (go_at_call 31; (with_reducible refine (HF.out _ ?bel).mono ?_); (case bel => repeat (first | exact Below.refl _ _ | exact Nat.le_refl _ | apply below_drewN | apply Below.alloc)); rintro e w3 ⟨rfl, hr3, hb3⟩)
                | (go_at_call 32; (with_reducible refine (HA.out _ ?bel).mono ?_); (case bel => repeat (first | exact Below.refl _ _ | exact Nat.le_refl _ | apply below_drewN | apply Below.alloc)); rintro e w3 ⟨rfl, hr3, hb3⟩))
              go_ret
              refine ⟨Below.trans ?_ hb3, by rw [HSG.out]; exact ⟨rfl, hr3⟩⟩
              refine Below.mono (B := w.heap.size) ?_ HBW.out
              repeat (first | exact Below.refl _ _ | exact Nat.le_refl _ | apply below_drewN | apply Below.alloc)
            | false =>
              have HSG := Lib.hid (show sign (c :: r) = .bad 7 0 by unfold sign; rw [HSL.out, HONE.out]; rfl)
              have HF := Lib.hid (fun w2 hb => fail_any w2 B b s (q : Int) l why fat 7 (q : Int) (RS.below (w' := w2) HR.out hb))
              have hib : decide (0 ≤ I) = false := hI
              clear HSL HONE hI
              refine wp_loop_rounds 3 ?_
              rw [rounds_succ]
              go_wp2_with (first
                | (go_at_call 29; (with_reducible refine (HP.out _).mono ?_); rintro e w2 ⟨rfl, rfl⟩)
                | (go_at_call 28; (with_reducible refine (HI.out _).mono ?_); rintro e w2 ⟨rfl, rfl⟩)
                | (go_at_call 46; (with_reducible refine (HC.out _ ?bel).mono ?_); (case bel => repeat (first | exact Below.refl _ _ | exact Nat.le_refl _ | apply below_drewN | apply Below.alloc)); rintro e w2 ⟨rfl, rfl⟩)
                | (go_at_call 25; (with_reducible refine (HWD.out _).mono ?_); rintro e w2 ⟨rfl, ⟨nd, rfl⟩⟩)
                | (go_at_call 31; (with_reducible refine (HF.out _ ?bel).mono ?_); (case bel => repeat (first | exact Below.refl _ _ | exact Nat.le_refl _ | apply below_drewN | apply Below.alloc)); rintro e w3 ⟨rfl, hr3, hb3⟩)
                | (go_at_call 32; (with_reducible refine (HA.out _ ?bel).mono ?_); (case bel => repeat (first | exact Below.refl _ _ | exact Nat.le_refl _ | apply below_drewN | apply Below.alloc)); rintro e w3 ⟨rfl, hr3, hb3⟩))
              rw [rounds_succ]
              go_wp2_with (first
                | (go_at_call 29; (with_reducible refine (HP.out _).mono ?_); rintro e w2 ⟨rfl, rfl⟩)
                | (go_at_call 28; (with_reducible refine (HI.out _).mono ?_); rintro e w2 ⟨rfl, rfl⟩)
                | (go_at_call 46; (with_reducible refine (HC.out _ ?bel).mono ?_); (case bel => repeat (first | exact Below.refl _ _ | exact Nat.le_refl _ | apply below_drewN | apply Below.alloc)); rintro e w2 ⟨rfl, rfl⟩)
                | (go_at_call 25; (with_reducible refine (HWD.out _).mono ?_); rintro e w2 ⟨rfl, ⟨nd, rfl⟩⟩)
                | (go_at_call 31; (with_reducible refine (HF.out _ ?bel).mono ?_); (case bel => repeat (first | exact Below.refl _ _ | exact Nat.le_refl _ | apply below_drewN | apply Below.alloc)); rintro e w3 ⟨rfl, hr3, hb3⟩)
                | (go_at_call 32; (with_reducible refine (HA.out _ ?bel).mono ?_); (case bel => repeat (first | exact Below.refl _ _ | exact Nat.le_refl _ | apply below_drewN | apply Below.alloc)); rintro e w3 ⟨rfl, hr3, hb3⟩))
              rw [rounds_succ]
              go_wp2_with (first
                | (go_at_call 29; (with_reducible refine (HP.out _).mono ?_); rintro e w2 ⟨rfl, rfl⟩)
                | (go_at_call 28; (with_reducible refine (HI.out _).mono ?_); rintro e w2 ⟨rfl, rfl⟩)
                | (go_at_call 46; (with_reducible refine (HC.out _ ?bel).mono ?_); (case bel => repeat (first | exact Below.refl _ _ | exact Nat.le_refl _ | apply below_drewN | apply Below.alloc)); rintro e w2 ⟨rfl, rfl⟩)
                | (go_at_call 25; (with_reducible refine (HWD.out _).mono ?_); rintro e w2 ⟨rfl, ⟨nd, rfl⟩⟩)
                | (go_at_call 31; (with_reducible refine (HF.out _ ?bel).mono ?_); (case bel => repeat (first | exact Below.refl _ _ | exact Nat.le_refl _ | apply below_drewN | apply Below.alloc)); rintro e w3 ⟨rfl, hr3, hb3⟩)
                | (go_at_call 32; (with_reducible refine (HA.out _ ?bel).mono ?_); (case bel => repeat (first | exact Below.refl _ _ | exact Nat.le_refl _ | apply below_drewN | apply Below.alloc)); rintro e w3 ⟨rfl, hr3, hb3⟩))
              go_ret
              refine ⟨Below.trans ?_ hb3, by rw [HSG.out]; exact ⟨rfl, hr3⟩⟩
              refine Below.mono (B := w.heap.size) ?_ HBW.out
              repeat (first | exact Below.refl _ _ | exact Nat.le_refl _ | apply below_drewN | apply Below.alloc)
        | false =>
          have HSL := Lib.hid (show signLen (c :: r) = if ones.contains c = true then 1 else 0 from HNH2.out)
          clear HNH2
          cases k1 with
          | true =>
            have HSG := Lib.hid (show sign (c :: r) = .tok 4 ((c :: r).take 1) 0 1 by unfold sign; rw [HSL.out, HONE.out]; rfl)
            have HA := Lib.hid (add_of (x := u1) (k := 1) HR.out HLL.out hq65 (by decide) HBW.out HU1.out 1 rfl)
            have hib : decide (0 ≤ I) = true := hI
            clear HSL HONE hI
            refine wp_loop_rounds 3 ?_
            rw [rounds_succ]
            go_wp2_with (first
              | (go_at_call 29; (with_reducible refine (HP.out _).mono ?_); rintro e w2 ⟨rfl, rfl⟩)
              | (go_at_call 28; (with_reducible refine (HI.out _).mono ?_); rintro e w2 ⟨rfl, rfl⟩)
              | (go_at_call 46; (with_reducible refine (HC.out _ ?bel).mono ?_); (case bel => repeat (first | exact Below.refl _ _ | exact Nat.le_refl _ | apply below_drewN | apply Below.alloc)); rintro e w2 ⟨rfl, rfl⟩)
              | (go_at_call 25; (with_reducible refine (HWD.out _).mono ?_); rintro e w2 ⟨rfl, ⟨nd, rfl⟩⟩)
              | (go_at_call 31; (with_reducible refine (HF.out _ ?bel).mono ?_); (case bel => repeat (first | exact Below.refl _ _ | exact Nat.le_refl _ | apply below_drewN | apply Below.alloc)); rintro e w3 ⟨rfl, hr3, hb3⟩)
              | (go_at_call 32; (with_reducible refine (HA.out _ ?bel).mono ?_); (case bel => repeat (first | exact Below.refl _ _ | exact Nat.le_refl _ | apply below_drewN | apply Below.alloc)); rintro e w3 ⟨rfl, hr3, hb3⟩))
            rw [rounds_succ]
            go_wp2_with (first
              | (go_at_call 29; (with_reducible refine (HP.out _).mono ?_); rintro e w2 ⟨rfl, rfl⟩)
              | (go_at_call 28; (with_reducible refine (HI.out _).mono ?_); rintro e w2 ⟨rfl, rfl⟩)
              | (go_at_call 46; (with_reducible refine (HC.out _ ?bel).mono ?_); (case bel => repeat (first | exact Below.refl _ _ | exact Nat.le_refl _ | apply below_drewN | apply Below.alloc)); rintro e w2 ⟨rfl, rfl⟩)
              | (go_at_call 25; (with_reducible refine (HWD.out _).mono ?_); rintro e w2 ⟨rfl, ⟨nd, rfl⟩⟩)
              | (go_at_call 31; (with_reducible refine (HF.out _ ?bel).mono ?_); (case bel => repeat (first | exact Below.refl _ _ | exact Nat.le_refl _ | apply below_drewN | apply Below.alloc)); rintro e w3 ⟨rfl, hr3, hb3⟩)
              | (go_at_call 32; (with_reducible refine (HA.out _ ?bel).mono ?_); (case bel => repeat (first | exact Below.refl _ _ | exact Nat.le_refl _ | apply below_drewN | apply Below.alloc)); rintro e w3 ⟨rfl, hr3, hb3⟩))
            go_ret
            refine ⟨Below.trans ?_ hb3, by rw [HSG.out]; exact ⟨rfl, hr3⟩⟩
            refine Below.mono (B := w.heap.size) ?_ HBW.out
            repeat (first | exact Below.refl _ _ | exact Nat.le_refl _ | apply below_drewN | apply Below.alloc)
          | false =>
            have HSG := Lib.hid (show sign (c :: r) = .bad 7 0 by unfold sign; rw [HSL.out, HONE.out]; rfl)
            have HF := Lib.hid (fun w2 hb => fail_any w2 B b s (q : Int) l why fat 7 (q : Int) (RS.below (w' := w2) HR.out hb))
            have hib : decide (0 ≤ I) = false := hI
            clear HSL HONE hI
            refine wp_loop_rounds 3 ?_
            rw [rounds_succ]
            go_wp2_with (first
              | (go_at_call 29; (with_reducible refine (HP.out _).mono ?_); rintro e w2 ⟨rfl, rfl⟩)
              | (go_at_call 28; (with_reducible refine (HI.out _).mono ?_); rintro e w2 ⟨rfl, rfl⟩)
              | (go_at_call 46; (with_reducible refine (HC.out _ ?bel).mono ?_); (case bel => repeat (first | exact Below.refl _ _ | exact Nat.le_refl _ | apply below_drewN | apply Below.alloc)); rintro e w2 ⟨rfl, rfl⟩)
              | (go_at_call 25; (with_reducible refine (HWD.out _).mono ?_); rintro e w2 ⟨rfl, ⟨nd, rfl⟩⟩)
              | (go_at_call 31; (with_reducible refine (HF.out _ ?bel).mono ?_); (case bel => repeat (first | exact Below.refl _ _ | exact Nat.le_refl _ | apply below_drewN | apply Below.alloc)); rintro e w3 ⟨rfl, hr3, hb3⟩)
              | (go_at_call 32; (with_reducible refine (HA.out _ ?bel).mono ?_); (case bel => repeat (first | exact Below.refl _ _ | exact Nat.le_refl _ | apply below_drewN | apply Below.alloc)); rintro e w3 ⟨rfl, hr3, hb3⟩))
            rw [rounds_succ]
            go_wp2_with (first
              | (go_at_call 29; (with_reducible refine (HP.out _).mono ?_); rintro e w2 ⟨rfl, rfl⟩)
              | (go_at_call 28; (with_reducible refine (HI.out _).mono ?_); rintro e w2 ⟨rfl, rfl⟩)
              | (go_at_call 46; (with_reducible refine (HC.out _ ?bel).mono ?_); (case bel => repeat (first | exact Below.refl _ _ | exact Nat.le_refl _ | apply below_drewN | apply Below.alloc)); rintro e w2 ⟨rfl, rfl⟩)
              | (go_at_call 25; (with_reducible refine (HWD.out _).mono ?_); rintro e w2 ⟨rfl, ⟨nd, rfl⟩⟩)
              | (go_at_call 31; (with_reducible refine (HF.out _ ?bel).mono ?_); (case bel => repeat (first | exact Below.refl _ _ | exact Nat.le_refl _ | apply below_drewN | apply Below.alloc)); rintro e w3 ⟨rfl, hr3, hb3⟩)
              | (go_at_call 32; (with_reducible refine (HA.out _ ?bel).mono ?_); (case bel => repeat (first | exact Below.refl _ _ | exact Nat.le_refl _ | apply below_drewN | apply Below.alloc)); rintro e w3 ⟨rfl, hr3, hb3⟩))
            rw [rounds_succ]
            go_wp2_with (first
              | (go_at_call 29; (with_reducible refine (HP.out _).mono ?_); rintro e w2 ⟨rfl, rfl⟩)
              | (go_at_call 28; (with_reducible refine (HI.out _).mono ?_); rintro e w2 ⟨rfl, rfl⟩)
              | (go_at_call 46; (with_reducible refine (HC.out _ ?bel).mono ?_); (case bel => repeat (first | exact Below.refl _ _ | exact Nat.le_refl _ | apply below_drewN | apply Below.alloc)); rintro e w2 ⟨rfl, rfl⟩)
              | (go_at_call 25; (with_reducible refine (HWD.out _).mono ?_); rintro e w2 ⟨rfl, ⟨nd, rfl⟩⟩)
              | (go_at_call 31; (with_reducible refine (HF.out _ ?bel).mono ?_); (case bel => repeat (first | exact Below.refl _ _ | exact Nat.le_refl _ | apply below_drewN | apply Below.alloc)); rintro e w3 ⟨rfl, hr3, hb3⟩)
              | (go_at_call 32; (with_reducible refine (HA.out _ ?bel).mono ?_); (case bel => repeat (first | exact Below.refl _ _ | exact Nat.le_refl _ | apply below_drewN | apply Below.alloc)); rintro e w3 ⟨rfl, hr3, hb3⟩))
            go_ret
            refine ⟨Below.trans ?_ hb3, by rw [HSG.out]; exact ⟨rfl, hr3⟩⟩
            refine Below.mono (B := w.heap.size) ?_ HBW.out
            repeat (first | exact Below.refl _ _ | exact Nat.le_refl _ | apply below_drewN | apply Below.alloc)
      | false =>
        have HSL := Lib.hid (show signLen (c :: r) = if ones.contains c = true then 1 else 0 from HNH2.out)
        clear HNH2
        cases k1 with
        | true =>
          have HSG := Lib.hid (show sign (c :: r) = .tok 4 ((c :: r).take 1) 0 1 by unfold sign; rw [HSL.out, HONE.out]; rfl)
          have HA := Lib.hid (add_of (x := u1) (k := 1) HR.out HLL.out hq65 (by decide) HBW.out HU1.out 1 rfl)
          have hib : decide (0 ≤ I) = true := hI
          clear HSL HONE hI
          refine wp_loop_rounds 3 ?_
          rw [rounds_succ]
          go_wp2_with (first
            | (go_at_call 29; (with_reducible refine (HP.out _).mono ?_); rintro e w2 ⟨rfl, rfl⟩)
            | (go_at_call 28; (with_reducible refine (HI.out _).mono ?_); rintro e w2 ⟨rfl, rfl⟩)
            | (go_at_call 46; (with_reducible refine (HC.out _ ?bel).mono ?_); (case bel => repeat (first | exact Below.refl _ _ | exact Nat.le_refl _ | apply below_drewN | apply Below.alloc)); rintro e w2 ⟨rfl, rfl⟩)
            | (go_at_call 25; (with_reducible refine (HWD.out _).mono ?_); rintro e w2 ⟨rfl, ⟨nd, rfl⟩⟩)
            | (go_at_call 31; (with_reducible refine (HF.out _ ?bel).mono ?_); (case bel => repeat (first | exact Below.refl _ _ | exact Nat.le_refl _ | apply below_drewN | apply Below.alloc)); rintro e w3 ⟨rfl, hr3, hb3⟩)
            | (go_at_call 32; (with_reducible refine (HA.out _ ?bel).mono ?_); (case bel => repeat (first | exact Below.refl _ _ | exact Nat.le_refl _ | apply below_drewN | apply Below.alloc)); rintro e w3 ⟨rfl, hr3, hb3⟩))
          rw [rounds_succ]
          go_wp2_with (first
            | (go_at_call 29; (with_reducible refine (HP.out _).mono ?_); rintro e w2 ⟨rfl, rfl⟩)
            | (go_at_call 28; (with_reducible refine (HI.out _).mono ?_); rintro e w2 ⟨rfl, rfl⟩)
            | (go_at_call 46; (with_reducible refine (HC.out _ ?bel).mono ?_); (case bel => repeat (first | exact Below.refl _ _ | exact Nat.le_refl _ | apply below_drewN | apply Below.alloc)); rintro e w2 ⟨rfl, rfl⟩)
            | (go_at_call 25; (with_reducible refine (HWD.out _).mono ?_); rintro e w2 ⟨rfl, ⟨nd, rfl⟩⟩)
            | (go_at_call 31; (with_reducible refine (HF.out _ ?bel).mono ?_); (case bel => repeat (first | exact Below.refl _ _ | exact Nat.le_refl _ | apply below_drewN | apply Below.alloc)); rintro e w3 ⟨rfl, hr3, hb3⟩)
            | (go_at_call 32; (with_reducible refine (HA.out _ ?bel).mono ?_); (case bel => repeat (first | exact Below.refl _ _ | exact Nat.le_refl _ | apply below_drewN | apply Below.alloc)); rintro e w3 ⟨rfl, hr3, hb3⟩))
          go_ret
          refine ⟨Below.trans ?_ hb3, by rw [HSG.out]; exact ⟨rfl, hr3⟩⟩
          refine Below.mono (B := w.heap.size) ?_ HBW.out
          repeat (first | exact Below.refl _ _ | exact Nat.le_refl _ | apply below_drewN | apply Below.alloc)
        | false =>
          have HSG := Lib.hid (show sign (c :: r) = .bad 7 0 by unfold sign; rw [HSL.out, HONE.out]; rfl)
          have HF := Lib.hid (fun w2 hb => fail_any w2 B b s (q : Int) l why fat 7 (q : Int) (RS.below (w' := w2) HR.out hb))
          have hib : decide (0 ≤ I) = false := hI
          clear HSL HONE hI
          refine wp_loop_rounds 3 ?_
          rw [rounds_succ]
          go_wp2_with (first
            | (go_at_call 29; (with_reducible refine (HP.out _).mono ?_); rintro e w2 ⟨rfl, rfl⟩)
            | (go_at_call 28; (with_reducible refine (HI.out _).mono ?_); rintro e w2 ⟨rfl, rfl⟩)
            | (go_at_call 46; (with_reducible refine (HC.out _ ?bel).mono ?_); (case bel => repeat (first | exact Below.refl _ _ | exact Nat.le_refl _ | apply below_drewN | apply Below.alloc)); rintro e w2 ⟨rfl, rfl⟩)
            | (go_at_call 25; (with_reducible refine (HWD.out _).mono ?_); rintro e w2 ⟨rfl, ⟨nd, rfl⟩⟩)
            | (go_at_call 31; (with_reducible refine (HF.out _ ?bel).mono ?_); (case bel => repeat (first | exact Below.refl _ _ | exact Nat.le_refl _ | apply below_drewN | apply Below.alloc)); rintro e w3 ⟨rfl, hr3, hb3⟩)
            | (go_at_call 32; (with_reducible refine (HA.out _ ?bel).mono ?_); (case bel => repeat (first | exact Below.refl _ _ | exact Nat.le_refl _ | apply below_drewN | apply Below.alloc)); rintro e w3 ⟨rfl, hr3, hb3⟩))
          rw [rounds_succ]
          go_wp2_with (first
            | (go_at_call 29; (with_reducible refine (HP.out _).mono ?_); rintro e w2 ⟨rfl, rfl⟩)
            | (go_at_call 28; (with_reducible refine (HI.out _).mono ?_); rintro e w2 ⟨rfl, rfl⟩)
            | (go_at_call 46; (with_reducible refine (HC.out _ ?bel).mono ?_); (case bel => repeat (first | exact Below.refl _ _ | exact Nat.le_refl _ | apply below_drewN | apply Below.alloc)); rintro e w2 ⟨rfl, rfl⟩)
            | (go_at_call 25; (with_reducible refine (HWD.out _).mono ?_); rintro e w2 ⟨rfl, ⟨nd, rfl⟩⟩)
            | (go_at_call 31; (with_reducible refine (HF.out _ ?bel).mono ?_); (case bel => repeat (first | exact Below.refl _ _ | exact Nat.le_refl _ | apply below_drewN | apply Below.alloc)); rintro e w3 ⟨rfl, hr3, hb3⟩)
            | (go_at_call 32; (with_reducible refine (HA.out _ ?bel).mono ?_); (case bel => repeat (first | exact Below.refl _ _ | exact Nat.le_refl _ | apply below_drewN | apply Below.alloc)); rintro e w3 ⟨rfl, hr3, hb3⟩))
          rw [rounds_succ]
          go_wp2_with (first
            | (go_at_call 29; (with_reducible refine (HP.out _).mono ?_); rintro e w2 ⟨rfl, rfl⟩)
            | (go_at_call 28; (with_reducible refine (HI.out _).mono ?_); rintro e w2 ⟨rfl, rfl⟩)
            | (go_at_call 46; (with_reducible refine (HC.out _ ?bel).mono ?_); (case bel => repeat (first | exact Below.refl _ _ | exact Nat.le_refl _ | apply below_drewN | apply Below.alloc)); rintro e w2 ⟨rfl, rfl⟩)
            | (go_at_call 25; (with_reducible refine (HWD.out _).mono ?_); rintro e w2 ⟨rfl, ⟨nd, rfl⟩⟩)
            | (go_at_call 31; (with_reducible refine (HF.out _ ?bel).mono ?_); (case bel => repeat (first | exact Below.refl _ _ | exact Nat.le_refl _ | apply below_drewN | apply Below.alloc)); rintro e w3 ⟨rfl, hr3, hb3⟩)
            | (go_at_call 32; (with_reducible refine (HA.out _ ?bel).mono ?_); (case bel => repeat (first | exact Below.refl _ _ | exact Nat.le_refl _ | apply below_drewN | apply Below.alloc)); rintro e w3 ⟨rfl, hr3, hb3⟩))
          go_ret
          refine ⟨Below.trans ?_ hb3, by rw [HSG.out]; exact ⟨rfl, hr3⟩⟩
          refine Below.mono (B := w.heap.size) ?_ HBW.out
          repeat (first | exact Below.refl _ _ | exact Nat.le_refl _ | apply below_drewN | apply Below.alloc)
end Go.Proofs.YtafndkgoeabehaaDoor.LexSign
namespace Go.Proofs.YtafndkgoeabehaaDoor.LexToken
open Go Go.RowKit Go.Proofs.YtafndkgoeabehaaDoor.NumPure Go.Proofs.YtafndkgoeabehaaDoor.NumRead Go.Proofs.YtafndkgoeabehaaDoor.NumParse Go.Proofs.YtafndkgoeabehaaDoor.LexPure Go.Proofs.YtafndkgoeabehaaDoor.LexGap Go.Proofs.YtafndkgoeabehaaDoor.LexMem Go.Proofs.YtafndkgoeabehaaDoor.LexWord Go.Proofs.YtafndkgoeabehaaDoor.LexGaps Go.Proofs.YtafndkgoeabehaaDoor.LexTook Go.Proofs.YtafndkgoeabehaaDoor.LexNumber Go.Proofs.YtafndkgoeabehaaDoor.LexText Go.Proofs.YtafndkgoeabehaaDoor.LexSign Go.Proofs.YtafndkgoeabehaaDoor.Pword Go.Proofs.YtafndkgoeabehaaDoorW.PrintWords
theorem took_bool {w' : World} {e : Ending} {B b : Nat} {s : ByteArray} {q : Nat} {l : List Tk} {why fat : Int} {o : Out} (h : Took w' e B b s q l why fat o) : ∃ k, e = .returned (.bool k) := by
  cases o with
  | tok kd tx n len => exact ⟨_, h.1⟩
  | bad y off => exact ⟨_, h.1⟩
set_option maxRecDepth 100000 in
set_option maxHeartbeats 4000000 in
theorem token_any (w : World) (B b : Nat) (s : ByteArray) (q : Nat) (l : List Tk) (why fat : Int) (c : UInt8) (r : List UInt8) (h : RS w B b s (q : Int) l why fat) (hq : q ≤ s.size) (hs : s.size ≤ 65536) (hB : 2 < B) (hB0 : 0 < B) (hBw : B ≤ w.heap.size) (hl : l.length ≤ 65536) (hM : MaxVar w) (he : ErrVar w) (hcr : s.data.toList.drop q = c :: r) :
    Calls Tryd.prog 17 #[.pointer (some ⟨b, 0, none⟩)] w fun e w' => Below B w w' ∧ Took w' e B b s q l why fat (token (c :: r)) := by
  have hz : s.size = s.data.toList.length := Lib.size_eq s
  obtain ⟨h0, v, hb, ho⟩ := id h
  have c0 := hb.cell 0
  have c1 := hb.cell 1
  simp at c0 c1
  have hblt := hb.lt
  obtain ⟨t, ht⟩ : ∃ t, s.extract q s.size = t := ⟨_, rfl⟩
  have htl : t.data.toList = c :: r := by rw [← ht, drop_data s q, hcr]
  have htz : t.size = s.size - q := by rw [Lib.size_eq, ← ht, drop_data, List.length_drop, ← hz]
  have htb : t.size ≤ 65536 := by omega
  have hz1 : 1 ≤ t.size := by rw [Lib.size_eq, htl]; simp
  have hq65 : q ≤ 65536 := by omega
  have hb0 : bt t 0 = (c.toNat : Int) := (bt_of t 0 c r (by rw [htl]; rfl)).1
  have hx0 : ∀ h : 0 < t.size, ((t[0]'h).toNat : Int) = bt t 0 := bt_at t 0
  obtain ⟨N, hNv⟩ : ∃ N, name (c :: r) = N := ⟨_, rfl⟩
  have hNt : N ≤ t.size := by rw [← hNv, Lib.size_eq, htl]; exact name_le _
  have HN : Hid (∀ n, Calls Tryd.prog 27 #[.string t] (w.drewN n) fun e w' => e = .returned (.int .i64 (N : Int)) ∧ Drawn0 (w.drewN n) w') := Lib.hid (fun n => by
    have := name_any t (by omega) (w.drewN n)
    rw [htl, hNv] at this
    exact this)
  have hHD := fun n => digit_calls c _ hb0 (w.drewN n)
  have HR := Lib.hid h
  have HBW := Lib.hid hBw
  have HLL := Lib.hid hl
  have HTZ := Lib.hid htz
  have HTL := Lib.hid htl
  have HNV := Lib.hid hNv
  have HB0 := Lib.hid hb0
  have HNU : Hid (dig c = true → ∀ n, Calls Tryd.prog 34 #[.pointer (some ⟨b, 0, none⟩)] (w.drewN n) fun e w' => Below B (w.drewN n) w' ∧ Took w' e B b s q l why fat (number (c :: r))) := Lib.hid (fun hc n => number_any (w.drewN n) B b s q l why fat c r (h.drewN n) hq hs hB hBw hl (err_drewN he n) hcr hc)
  have HTE : Hid (c = 34 → ∀ n, Calls Tryd.prog 35 #[.pointer (some ⟨b, 0, none⟩)] (w.drewN n) fun e w' => Below B (w.drewN n) w' ∧ Took w' e B b s q l why fat (text [] 1 r)) := Lib.hid (fun hc n => text_any (w.drewN n) B b s q l why fat r (h.drewN n) hq hs hBw hl (by rw [hcr, hc]))
  have HSI : Hid (∀ n, Calls Tryd.prog 36 #[.pointer (some ⟨b, 0, none⟩)] (w.drewN n) fun e w' => Below B (w.drewN n) w' ∧ Took w' e B b s q l why fat (sign (c :: r))) := Lib.hid (fun n => sign_any (w.drewN n) B b s q l why fat c r (h.drewN n) hq hs hB0 hBw hl hM hcr)
  clear h hB hBw hl he htz htl hNv hb0 hz hcr hb ho hM
  go_enter Tryd.func17, Tryd.ntmps17
  go_wp2
  go_quiet (fail)
  by_cases h64 : 64 < N
  · have h64b : decide (64 < (N : Int)) = true := decide_eq_true (by omega)
    have HTO := Lib.hid (show token (c :: r) = .bad 2 0 by unfold token; rw [HNV.out, if_pos h64])
    have HF := Lib.hid (fun n => fail_any (w.drewN n) B b s (q : Int) l why fat 2 (q : Int) (HR.out.drewN n))
    clear h64 hHD
    go_wp2_with (first
      | (go_at_call 27; (with_reducible refine (HN.out _).mono ?_); rintro e w2 ⟨rfl, ⟨nd, rfl⟩⟩)
      | (go_at_call 33; (with_reducible refine (HD.out _).mono ?_); rintro e w2 ⟨rfl, ⟨nd2, rfl⟩⟩)
      | (go_at_call 31; (with_reducible refine (HF.out _).mono ?_); rintro e w3 ⟨rfl, hr3, hb3⟩)
      | (go_at_call 32; (with_reducible refine (HA.out _).mono ?_); rintro e w3 ⟨rfl, hr3, hb3⟩)
      | (go_at_call 34; (with_reducible refine (HNU.out _).mono ?_); rintro e w3 ⟨hb3, hr3⟩; obtain ⟨be, rfl⟩ := took_bool hr3)
      | (go_at_call 35; (with_reducible refine (HTE.out _).mono ?_); rintro e w3 ⟨hb3, hr3⟩; obtain ⟨be, rfl⟩ := took_bool hr3)
      | (go_at_call 36; (with_reducible refine (HSI.out _).mono ?_); rintro e w3 ⟨hb3, hr3⟩; obtain ⟨be, rfl⟩ := took_bool hr3))
    go_ret
    exact ⟨(below_draws HBW.out).trans hb3, by rw [HTO.out]; exact ⟨rfl, hr3⟩⟩
  · have h64b : decide (64 < (N : Int)) = false := decide_eq_false (by omega)
    by_cases hN0 : 0 < N
    · have hN0b : decide (0 < (N : Int)) = true := decide_eq_true (by omega)
      have hN0c : decide (0 < N) = true := decide_eq_true hN0
      obtain ⟨u, hu⟩ : ∃ x, t.extract 0 N = x := ⟨_, rfl⟩
      have HU : Hid (u.data.toList = (c :: r).take N) := Lib.hid (by rw [← hu, take_data, HTL.out])
      have HTO := Lib.hid (show token (c :: r) = .tok 1 ((c :: r).take N) 0 N by unfold token; rw [HNV.out, if_neg h64, if_pos hN0])
      have HA : Hid (∀ n, Calls Tryd.prog 32 #[.pointer (some ⟨b, 0, none⟩), .agg #[.int .i64 1, .string u, .int .i64 0, .int .i64 0], .int .i64 (N : Int)] (w.drewN n) fun e w' => e = .returned (.bool true) ∧ RS w' B b s ((q + N : Nat) : Int) (l ++ [⟨1, (c :: r).take N, 0, q⟩]) why fat ∧ Below B (w.drewN n) w') := Lib.hid (fun n => by
        have := add_any (w.drewN n) B b s (q : Int) l why fat 1 u 0 0 (N : Int) (HR.out.drewN n) HLL.out (by omega) (by omega) (by omega) (by omega) HBW.out
        rw [← Int.natCast_add, HU.out] at this
        exact this)
      clear h64 hHD hN0
      go_wp2_with (first
        | (go_at_call 27; (with_reducible refine (HN.out _).mono ?_); rintro e w2 ⟨rfl, ⟨nd, rfl⟩⟩)
        | (go_at_call 33; (with_reducible refine (HD.out _).mono ?_); rintro e w2 ⟨rfl, ⟨nd2, rfl⟩⟩)
        | (go_at_call 31; (with_reducible refine (HF.out _).mono ?_); rintro e w3 ⟨rfl, hr3, hb3⟩)
        | (go_at_call 32; (with_reducible refine (HA.out _).mono ?_); rintro e w3 ⟨rfl, hr3, hb3⟩)
        | (go_at_call 34; (with_reducible refine (HNU.out _).mono ?_); rintro e w3 ⟨hb3, hr3⟩; obtain ⟨be, rfl⟩ := took_bool hr3)
        | (go_at_call 35; (with_reducible refine (HTE.out _).mono ?_); rintro e w3 ⟨hb3, hr3⟩; obtain ⟨be, rfl⟩ := took_bool hr3)
        | (go_at_call 36; (with_reducible refine (HSI.out _).mono ?_); rintro e w3 ⟨hb3, hr3⟩; obtain ⟨be, rfl⟩ := took_bool hr3))
      go_ret
      exact ⟨(below_draws HBW.out).trans hb3, by rw [HTO.out]; exact ⟨rfl, hr3⟩⟩
    · have hNz : N = 0 := by omega
      subst hNz
      have hto : token (c :: r) = if dig c = true then number (c :: r) else if c = 34 then text [] 1 r else sign (c :: r) := by unfold token; rw [HNV.out]; rfl
      by_cases hdc : dig c = true
      · have HTO := Lib.hid (show token (c :: r) = number (c :: r) by rw [hto, if_pos hdc])
        have HNU := Lib.hid (HNU.out hdc)
        rw [hdc] at hHD
        have HD := Lib.hid hHD
        clear hto hHD hdc h64 hN0
        go_wp2_with (first
          | (go_at_call 27; (with_reducible refine (HN.out _).mono ?_); rintro e w2 ⟨rfl, ⟨nd, rfl⟩⟩)
          | (go_at_call 33; (with_reducible refine (HD.out _).mono ?_); rintro e w2 ⟨rfl, ⟨nd2, rfl⟩⟩)
          | (go_at_call 31; (with_reducible refine (HF.out _).mono ?_); rintro e w3 ⟨rfl, hr3, hb3⟩)
          | (go_at_call 32; (with_reducible refine (HA.out _).mono ?_); rintro e w3 ⟨rfl, hr3, hb3⟩)
          | (go_at_call 34; (with_reducible refine (HNU.out _).mono ?_); rintro e w3 ⟨hb3, hr3⟩; obtain ⟨be, rfl⟩ := took_bool hr3)
          | (go_at_call 35; (with_reducible refine (HTE.out _).mono ?_); rintro e w3 ⟨hb3, hr3⟩; obtain ⟨be, rfl⟩ := took_bool hr3)
          | (go_at_call 36; (with_reducible refine (HSI.out _).mono ?_); rintro e w3 ⟨hb3, hr3⟩; obtain ⟨be, rfl⟩ := took_bool hr3))
        go_ret
        exact ⟨(below_draws HBW.out).trans hb3, by rw [HTO.out]; exact hr3⟩
      · rw [if_neg hdc] at hto
        rw [Bool.eq_false_iff.2 hdc] at hHD
        have HD := Lib.hid hHD
        by_cases h34 : c = 34
        · have h34b : (bt t 0 == 34) = true := by rw [HB0.out, h34]; rfl
          have HTO := Lib.hid (show token (c :: r) = text [] 1 r by rw [hto, if_pos h34])
          have HTE := Lib.hid (HTE.out h34)
          clear hto hHD hdc h64 hN0 h34
          go_wp2_with (first
            | (go_at_call 27; (with_reducible refine (HN.out _).mono ?_); rintro e w2 ⟨rfl, ⟨nd, rfl⟩⟩)
            | (go_at_call 33; (with_reducible refine (HD.out _).mono ?_); rintro e w2 ⟨rfl, ⟨nd2, rfl⟩⟩)
            | (go_at_call 31; (with_reducible refine (HF.out _).mono ?_); rintro e w3 ⟨rfl, hr3, hb3⟩)
            | (go_at_call 32; (with_reducible refine (HA.out _).mono ?_); rintro e w3 ⟨rfl, hr3, hb3⟩)
            | (go_at_call 34; (with_reducible refine (HNU.out _).mono ?_); rintro e w3 ⟨hb3, hr3⟩; obtain ⟨be, rfl⟩ := took_bool hr3)
            | (go_at_call 35; (with_reducible refine (HTE.out _).mono ?_); rintro e w3 ⟨hb3, hr3⟩; obtain ⟨be, rfl⟩ := took_bool hr3)
            | (go_at_call 36; (with_reducible refine (HSI.out _).mono ?_); rintro e w3 ⟨hb3, hr3⟩; obtain ⟨be, rfl⟩ := took_bool hr3))
          go_ret
          exact ⟨(below_draws HBW.out).trans hb3, by rw [HTO.out]; exact hr3⟩
        · have h34b : (bt t 0 == 34) = false := by rw [HB0.out]; exact beq_eq_false_iff_ne.mpr (fun x => h34 (UInt8.toNat_inj.mp (by have e : (34 : UInt8).toNat = 34 := rfl; omega)))
          have HTO := Lib.hid (show token (c :: r) = sign (c :: r) by rw [hto, if_neg h34])
          clear hto hHD hdc h64 hN0 h34
          go_wp2_with (first
            | (go_at_call 27; (with_reducible refine (HN.out _).mono ?_); rintro e w2 ⟨rfl, ⟨nd, rfl⟩⟩)
            | (go_at_call 33; (with_reducible refine (HD.out _).mono ?_); rintro e w2 ⟨rfl, ⟨nd2, rfl⟩⟩)
            | (go_at_call 31; (with_reducible refine (HF.out _).mono ?_); rintro e w3 ⟨rfl, hr3, hb3⟩)
            | (go_at_call 32; (with_reducible refine (HA.out _).mono ?_); rintro e w3 ⟨rfl, hr3, hb3⟩)
            | (go_at_call 34; (with_reducible refine (HNU.out _).mono ?_); rintro e w3 ⟨hb3, hr3⟩; obtain ⟨be, rfl⟩ := took_bool hr3)
            | (go_at_call 35; (with_reducible refine (HTE.out _).mono ?_); rintro e w3 ⟨hb3, hr3⟩; obtain ⟨be, rfl⟩ := took_bool hr3)
            | (go_at_call 36; (with_reducible refine (HSI.out _).mono ?_); rintro e w3 ⟨hb3, hr3⟩; obtain ⟨be, rfl⟩ := took_bool hr3))
          go_ret
          exact ⟨(below_draws HBW.out).trans hb3, by rw [HTO.out]; exact hr3⟩
end Go.Proofs.YtafndkgoeabehaaDoor.LexToken
namespace Go.Proofs.YtafndkgoeabehaaDoor.LexToks
open Go Go.RowKit Go.Proofs.YtafndkgoeabehaaDoor.NumPure Go.Proofs.YtafndkgoeabehaaDoor.NumRead Go.Proofs.YtafndkgoeabehaaDoor.LexPure Go.Proofs.YtafndkgoeabehaaDoor.LexGap
theorem run_le (l : List UInt8) : run l ≤ l.length := List.Sublist.length_le (List.takeWhile_sublist dig)
theorem numLen_bound (c : UInt8) (r : List UInt8) : 1 ≤ numLen (c :: r) ∧ numLen (c :: r) ≤ (c :: r).length := by
  have := run_le r
  unfold numLen
  split
  · simp
  · simp; omega
theorem text_le : ∀ (n : Nat) (r : List UInt8), r.length ≤ n → ∀ b i kd tx m len, text b i r = .tok kd tx m len → i + 1 ≤ len ∧ len ≤ i + r.length := by
  intro n
  induction n with
  | zero =>
    intro r hr b i kd tx m len h
    obtain rfl : r = [] := List.eq_nil_of_length_eq_zero (by omega)
    simp [text] at h
  | succ n ih =>
    intro r hr b i kd tx m len h
    cases r with
    | nil => simp [text] at h
    | cons c r =>
      have hc : text b i (c :: r) = if c = 34 then .tok 3 b 0 (i + 1) else if c = 10 then .bad 7 i else if c = 92 then (match r with | [] => .bad 7 i | d :: r' => match esc d with | none => .bad 7 i | some e => text (b ++ [e]) (i + 2) r') else text (b ++ [c]) (i + 1) r := by
        cases r with
        | nil => rfl
        | cons d r => rfl
      rw [hc] at h
      simp at hr
      split at h
      · injection h with _ _ _ h4
        simp; omega
      · split at h
        · cases h
        · split at h
          · cases r with
            | nil => simp at h
            | cons d r =>
              simp only [] at h
              cases he : esc d with
              | none => rw [he] at h; simp at h
              | some e =>
                rw [he] at h
                simp at hr
                have := ih r (by omega) _ _ _ _ _ _ h
                simp; omega
          · have := ih r (by omega) _ _ _ _ _ _ h
            simp; omega
theorem signLen_le (c : UInt8) (r : List UInt8) : signLen (c :: r) ≤ (c :: r).length := by
  have := word_le r
  unfold signLen
  split
  · simp; omega
  · split
    · rename_i h
      cases r with
      | nil => simp [twos] at h
      | cons d r => simp
    · simp only []; split <;> simp
theorem token_cons (c : UInt8) (r : List UInt8) : token (c :: r) = if 64 < name (c :: r) then .bad 2 0 else if 0 < name (c :: r) then .tok 1 ((c :: r).take (name (c :: r))) 0 (name (c :: r)) else if dig c = true then number (c :: r) else if c = 34 then text [] 1 r else sign (c :: r) := rfl
theorem token_le (c : UInt8) (r : List UInt8) (kd : Int) (tx : List UInt8) (m : Int) (len : Nat) (h : token (c :: r) = .tok kd tx m len) : 1 ≤ len ∧ len ≤ (c :: r).length := by
  rw [token_cons] at h
  have h1 := name_le (c :: r)
  split at h
  · cases h
  · split at h
    · injection h with _ _ _ h4
      omega
    · split at h
      · have := numLen_bound c r
        unfold number at h
        split at h
        · cases h
        · split at h
          · injection h with _ _ _ h4
            omega
          · cases h
      · split at h
        · have := text_le _ r (Nat.le_refl _) _ _ _ _ _ _ h
          simp; omega
        · have := signLen_le c r
          unfold sign at h
          split at h
          · cases h
          · injection h with _ _ _ h4
            omega
/-- behind a gap: the tokens from a byte on -/
def aft (f p : Nat) (l : List UInt8) (acc : List T) : List T × Int × Int :=
  match l with
  | [] => (acc, 0, 0)
  | c :: r => match token (c :: r) with
    | .bad why off => ([], why, ((p + off : Nat) : Int))
    | .tok kind tx n len => toks f (p + len) ((c :: r).drop len) (acc ++ [⟨kind, tx, n, p⟩])
theorem toks_ok {f p : Nat} {l : List UInt8} {acc : List T} (h : (G l).2 = true) : toks (f + 1) p l acc = aft f (p + (G l).1) (l.drop (G l).1) acc := by
  unfold G at *
  simp only [toks]
  rw [if_pos h]
  rfl
theorem toks_bad {f p : Nat} {l : List UInt8} {acc : List T} (h : (G l).2 = false) : toks (f + 1) p l acc = ([], 7, ((p + (G l).1 : Nat) : Int)) := by
  unfold G at *
  simp only [toks]
  rw [if_neg (by rw [h]; decide)]
theorem aft_nil (f p : Nat) (acc : List T) : aft f p [] acc = (acc, 0, 0) := rfl
theorem aft_tok {f p : Nat} {c : UInt8} {r : List UInt8} {acc : List T} {kd : Int} {tx : List UInt8} {n : Int} {len : Nat} (h : token (c :: r) = .tok kd tx n len) : aft f p (c :: r) acc = toks f (p + len) ((c :: r).drop len) (acc ++ [⟨kd, tx, n, p⟩]) := by
  unfold aft
  simp only [h]
theorem aft_bad {f p : Nat} {c : UInt8} {r : List UInt8} {acc : List T} {why : Int} {off : Nat} (h : token (c :: r) = .bad why off) : aft f p (c :: r) acc = ([], why, ((p + off : Nat) : Int)) := by
  unfold aft
  simp only [h]
end Go.Proofs.YtafndkgoeabehaaDoor.LexToks
namespace Go.Proofs.YtafndkgoeabehaaDoor.LexTokens
open Go Go.RowKit Go.Proofs.YtafndkgoeabehaaDoor.NumPure Go.Proofs.YtafndkgoeabehaaDoor.NumRead Go.Proofs.YtafndkgoeabehaaDoor.NumParse Go.Proofs.YtafndkgoeabehaaDoor.LexPure Go.Proofs.YtafndkgoeabehaaDoor.LexGap Go.Proofs.YtafndkgoeabehaaDoor.LexMem Go.Proofs.YtafndkgoeabehaaDoor.LexWord Go.Proofs.YtafndkgoeabehaaDoor.LexGaps Go.Proofs.YtafndkgoeabehaaDoor.LexTook Go.Proofs.YtafndkgoeabehaaDoor.LexNumber Go.Proofs.YtafndkgoeabehaaDoor.LexToken Go.Proofs.YtafndkgoeabehaaDoor.LexToks Go.Proofs.YtafndkgoeabehaaDoorW.PrintWords
def tk (t : T) : Tk := ⟨t.kind, t.text, t.n, t.at_⟩
set_option maxRecDepth 100000 in
theorem Tokens_long (w : World) (s : ByteArray) (hs : 65536 < s.size) : Calls Tryd.prog 8 #[.string s] w fun e w' => e = .returned (.tuple #[.slice none 0 0, .agg #[.int .i64 2, .int .i64 0]]) ∧ Below w.heap.size w w' := by
  have hsb : decide (65536 < (s.size : Int)) = true := decide_eq_true (by omega)
  clear hs
  go_enter Tryd.func8, Tryd.ntmps8
  go_wp2
  refine bodyPost_ret (results_tc rfl _ _ w.heap.size 25 #[.int .i64 2, .int .i64 0] (0, 0) _ rfl (blk_new w _) Tryd.underlying25 rfl (by kernel_rfl)) rfl ?_
  exact ⟨rfl, (Below.refl _ _).alloc (Nat.le_refl _) _⟩
  repeat (first | exact Below.refl _ _ | exact Nat.le_refl _ | apply below_drewN | apply Below.alloc | apply Below.setCell)
section
variable {w W0 : World} {s : ByteArray} {n : Nat} {V : List T × Int × Int}
/-- what holds at the loop's head: all read so far, or a fault -/
def Inv (V : List T × Int × Int) (W0 : World) (n : Nat) (s : ByteArray) (wr : World) (g : Nat) (k : Bool) : Prop :=
  Below (n + 1) W0 wr ∧ (k = true → ∃ (p f : Nat) (acc : List T), RS wr (n + 1) (n + 1) s (p : Int) (acc.map tk) 0 0 ∧ V = aft f p (s.data.toList.drop p) acc ∧ p ≤ s.size ∧ s.size - p ≤ f ∧ acc.length ≤ p ∧ s.size - p < g) ∧
  (k = false → ∃ p l y a, RS wr (n + 1) (n + 1) s p l y a ∧ V = ([], y, a))
theorem inv_start {w1 : World} (hV : toks (s.data.toList.length + 1) 0 s.data.toList [] = V) (hb : Below (n + 1) W0 w1) (ha : After w1 (n + 1) (n + 1) s 0 [] 0 0 (G s.data.toList)) : Inv V W0 n s w1 (s.size + 2) (G s.data.toList).2 := by
  have hz : s.size = s.data.toList.length := Lib.size_eq s
  have hg := G_le s.data.toList
  refine ⟨hb, fun hk => ?_, fun hk => ?_⟩
  · rw [toks_ok hk] at hV
    refine ⟨0 + (G s.data.toList).1, s.data.toList.length, [], ha.1 hk, ?_, by omega, ?_, by simp, by omega⟩
    · rw [← hV, Nat.zero_add]
    · omega
  · rw [toks_bad hk] at hV
    exact ⟨_, _, _, _, ha.2 hk, hV.symm⟩
theorem inv_step {w4 : World} {p f : Nat} {acc : List T} {c : UInt8} {r : List UInt8} {kd m : Int} {tx : List UInt8} {len : Nat} (hV : V = aft f p (c :: r) acc) (hdr : s.data.toList.drop p = c :: r) (hp : p < s.size) (hf : s.size - p ≤ f) (ha : acc.length ≤ p)
    (ht : token (c :: r) = .tok kd tx m len) (hb : Below (n + 1) W0 w4) (hq : After w4 (n + 1) (n + 1) s (p + len) ((acc ++ [(⟨kd, tx, m, p⟩ : T)]).map tk) 0 0 (G (s.data.toList.drop (p + len)))) : Inv V W0 n s w4 (s.size - p) (G (s.data.toList.drop (p + len))).2 := by
  have hz : s.size = s.data.toList.length := Lib.size_eq s
  have hl := token_le c r _ _ _ _ ht
  have hcl : (c :: r).length = s.size - p := by rw [← hdr, List.length_drop, hz]
  have hg := G_le (s.data.toList.drop (p + len))
  rw [List.length_drop, ← hz] at hg
  rw [aft_tok ht, ← hdr, List.drop_drop] at hV
  obtain ⟨f', rfl⟩ : ∃ f', f = f' + 1 := ⟨f - 1, by omega⟩
  refine ⟨hb, fun hk => ?_, fun hk => ?_⟩
  · rw [toks_ok hk, List.drop_drop] at hV
    exact ⟨_, f', acc ++ [⟨kd, tx, m, p⟩], hq.1 hk, hV, by omega, by omega, by rw [List.length_append]; simp; omega, by omega⟩
  · rw [toks_bad hk] at hV
    exact ⟨_, _, _, _, hq.2 hk, hV⟩
theorem inv_bad {w3 : World} {p f : Nat} {acc : List T} {c : UInt8} {r : List UInt8} {why : Int} {off : Nat} {l : List Tk} (hV : V = aft f p (c :: r) acc) (ht : token (c :: r) = .bad why off) (hb : Below (n + 1) W0 w3) (hr : RS w3 (n + 1) (n + 1) s (p : Int) l why ((p + off : Nat) : Int)) : Inv V W0 n s w3 0 false := by
  rw [aft_bad ht] at hV
  exact ⟨hb, fun h => (by cases h), fun _ => ⟨_, _, _, _, hr, hV⟩⟩
end
set_option maxRecDepth 100000 in
set_option maxHeartbeats 4000000 in
theorem Tokens_short (w : World) (s : ByteArray) (hs : s.size ≤ 65536) (hB : 2 < w.heap.size) (hM : MaxVar w) (he : ErrVar w) :
    Calls Tryd.prog 8 #[.string s] w fun e w' => ∃ v, e = .returned (.tuple #[v, .agg #[.int .i64 (toks (s.data.toList.length + 1) 0 s.data.toList []).2.1, .int .i64 (toks (s.data.toList.length + 1) 0 s.data.toList []).2.2]]) ∧ w'.ownsRow w.heap.size 30 4 v (toks (s.data.toList.length + 1) 0 s.data.toList []).1.length (cellsOf ((toks (s.data.toList.length + 1) 0 s.data.toList []).1.map tk)) ∧ Below w.heap.size w w' := by
  have hz : s.size = s.data.toList.length := Lib.size_eq s
  have hsb : decide (65536 < (s.size : Int)) = false := decide_eq_false (by omega)
  obtain ⟨V, hV⟩ : ∃ V, toks (s.data.toList.length + 1) 0 s.data.toList [] = V := ⟨_, rfl⟩
  rw [hV]
  obtain ⟨W0, hW0⟩ : ∃ W0, ((w.alloc (.cells #[.int .i64 0, .int .i64 0] 25)).alloc (.cells #[.string s, .int .i64 0, .slice none 0 0, .int .i64 0, .int .i64 0] 38)) = W0 := ⟨_, rfl⟩
  have hBW0 : Below w.heap.size w W0 := by
    rw [← hW0]
    exact ((Below.refl _ _).alloc (Nat.le_refl _) _).alloc (by simp) _
  have hz0 : W0.heap.size = w.heap.size + 2 := by rw [← hW0]; simp
  have hr0 : RS W0 (w.heap.size + 1) (w.heap.size + 1) s ((0 : Nat) : Int) [] 0 0 := by
    refine ⟨Nat.le_refl _, .slice none 0 0, ?_, World.ownsRow_nil _ _ _ _⟩
    rw [← hW0]
    have := Blk.new (w.alloc (.cells #[.int .i64 0, .int .i64 0] 25)) 38 #[.string s, .int .i64 0, .slice none 0 0, .int .i64 0, .int .i64 0]
    simpa using this
  have hX : Blk W0 w.heap.size 25 #[.int .i64 0, .int .i64 0] := by
    rw [← hW0]
    exact (Blk.new w 25 #[.int .i64 0, .int .i64 0]).alloc _
  have HX : Hid (∀ w2, Below (w.heap.size + 1) W0 w2 → Blk w2 w.heap.size 25 #[.int .i64 0, .int .i64 0]) := Lib.hid (fun w2 hb => hX.below hb (Nat.lt_succ_self _))
  have HM : Hid (∀ w2, Below (w.heap.size + 1) W0 w2 → MaxVar w2) := Lib.hid (fun w2 hb => max_below hb (Nat.succ_pos _) (max_below hBW0 (by omega) hM))
  have HE : Hid (∀ w2, Below (w.heap.size + 1) W0 w2 → ErrVar w2) := Lib.hid (fun w2 hb => err_belowB hb (by omega) (err_belowB hBW0 hB he))
  have hg0 := gaps_any W0 (w.heap.size + 1) (w.heap.size + 1) s 0 [] 0 0 hr0 (Nat.zero_le _) hs (Nat.succ_pos _) (HM.out _ (Below.refl _ _))
  rw [List.drop_zero] at hg0
  have HG0 := Lib.hid hg0
  have HBW := Lib.hid hBW0
  have HB := Lib.hid hB
  have HV := Lib.hid hV
  have HZ := Lib.hid hz
  have HS := Lib.hid hs
  have HZ0 := Lib.hid hz0
  have HW0 := Lib.hid hW0
  clear hV hz hs hg0 hX hr0 hBW0 hM he hB hz0 hW0
  rw [← HW0.out] at HG0
  go_enter Tryd.func8, Tryd.ntmps8
  go_wp2_with (go_at_call 16; (with_reducible refine HG0.out.mono ?_); rintro e w1 ⟨rfl, hb1, ha1⟩)
  have HI0 := Lib.hid (inv_start HV.out (HW0.out ▸ hb1) ha1)
  clear hb1 ha1 HG0
  obtain ⟨k0, hk0⟩ : ∃ k, (G s.data.toList).2 = k := ⟨_, rfl⟩
  rw [hk0] at HI0
  rw [hk0]
  clear hk0
  obtain ⟨n, hn⟩ : ∃ n, w.heap.size = n := ⟨_, rfl⟩
  have HNN := Lib.hid hn
  rw [hn]
  rw [hn] at HI0 HX HM HE
  clear hn
  go_loopg [5] (s.size + 2) (fun g v5 wr => ∃ k, v5 = .bool k ∧ Hid (Inv V W0 n s wr g k))
  case atStart => exact ⟨k0, rfl, HI0⟩
  case round =>
    obtain ⟨k, rfl, HI⟩ := hrel
    clear HI0
    cases k with
    | false =>
      obtain ⟨hbl, _, h2⟩ := HI.out
      obtain ⟨p, l, y, a, hr, hVe⟩ := h2 rfl
      have hx := HX.out _ hbl
      obtain ⟨h0, v, hb, ho⟩ := hr
      have c3 := hb.cell 3
      have c4 := hb.cell 4
      have x0 := hx.cell 0
      have x1 := hx.cell 1
      have f0 := hx.frozen 0
      have f1 := hx.frozen 1
      simp at c3 c4 x0 x1
      have HVE := Lib.hid hVe
      have HBL := Lib.hid hbl
      have HXB := Lib.hid hx
      clear hVe hbl h2 hx hb ho
      go_wp2
      go_region
      all_goals go_wp2
      refine bodyPost_ret (results_tc rfl _ _ n 25 #[.int .i64 y, .int .i64 a] (0, 0) _ rfl ?blk Tryd.underlying25 rfl (by kernel_rfl)) rfl ?_
      case blk => exact (HXB.out.set_ 0 (.int .i64 y)).set_ 1 (.int .i64 a)
      refine ⟨.slice none 0 0, ?_, ?_, ?_⟩
      · rw [HVE.out]; rfl
      · rw [HVE.out]; exact World.ownsRow_nil _ _ _ _
      · exact (((HBW.out.trans (HBL.out.mono (by have := HNN.out; omega))).setCell (p := ⟨n, 0, none⟩) (Nat.le_of_eq HNN.out) _).setCell (p := ⟨n, 1, none⟩) (Nat.le_of_eq HNN.out) _).drew
    | true =>
      obtain ⟨hbl, h1, _⟩ := HI.out
      obtain ⟨p, f, acc, hr, hVe, hp, hf, hacc, hg⟩ := h1 rfl
      have hx := HX.out _ hbl
      obtain ⟨h0, v, hb, ho⟩ := id hr
      have c1 := hb.cell 1
      have c2 := hb.cell 2
      have x0 := hx.cell 0
      have x1 := hx.cell 1
      have f0 := hx.frozen 0
      have f1 := hx.frozen 1
      simp at c1 c2 x0 x1
      have HR := Lib.hid hr
      have HVE := Lib.hid hVe
      have HBL := Lib.hid hbl
      have HXB := Lib.hid hx
      have HO := Lib.hid ho
      clear h1 hbl hx hb hr hVe ho
      cases hdr : s.data.toList.drop p with
      | nil =>
        have hps : p = s.size := by rw [List.drop_eq_nil_iff, ← HZ.out] at hdr; omega
        have hpb : decide (p < s.size) = false := decide_eq_false (by omega)
        have hV2 := HVE.out
        rw [hdr, aft_nil] at hV2
        have HV2 := Lib.hid hV2
        clear hV2 hdr hps hg hf hacc hp
        go_wp2
        refine bodyPost_ret (results_tc rfl _ _ n 25 #[.int .i64 0, .int .i64 0] (0, 0) _ rfl ?blk Tryd.underlying25 rfl (by kernel_rfl)) rfl ?_
        case blk => exact (HXB.out.set_ 0 (.int .i64 0)).set_ 1 (.int .i64 0)
        have hne : v.ownBlock ≠ some n := fun e => by have := (HO.out.lt n e).1; omega
        refine ⟨v, ?_, ?_, ?_⟩
        · rw [HV2.out]; rfl
        · rw [HV2.out]
          have := own_set (own_set HO.out (a := ⟨n, 0, none⟩) hne (.int .i64 0)) (a := ⟨n, 1, none⟩) hne (.int .i64 0)
          rw [List.length_map] at this
          exact this.mono (by have := HNN.out; omega)
        · exact (((HBW.out.trans (HBL.out.mono (by have := HNN.out; omega))).setCell (p := ⟨n, 0, none⟩) (Nat.le_of_eq HNN.out) _).setCell (p := ⟨n, 1, none⟩) (Nat.le_of_eq HNN.out) _)
      | cons c r =>
        have hps : p < s.size := by rcases Nat.lt_or_ge p s.size with h | h; exact h; rw [List.drop_eq_nil_of_le (by rw [← HZ.out]; exact h)] at hdr; cases hdr
        have hpb : decide (p < s.size) = true := decide_eq_true hps
        have htk := token_any wr (n + 1) (n + 1) s p (acc.map tk) 0 0 c r HR.out hp HS.out (by have := HB.out; have := HNN.out; omega) (Nat.succ_pos _) (by have := HBL.out.size; have := HZ0.out; have := HNN.out; omega) (by rw [List.length_map]; have := HS.out; omega) (HM.out _ HBL.out) (HE.out _ HBL.out) hdr
        cases hto : token (c :: r) with
        | bad y off =>
          rw [hto] at htk
          have HTK := Lib.hid (htk.mono (fun e w' h => (⟨h.2.1, h.2.2, h.1⟩ : e = .returned (.bool false) ∧ RS w' (n + 1) (n + 1) s (p : Int) (acc.map tk) y ((p + off : Nat) : Int) ∧ Below (n + 1) wr w')))
          have HDR := Lib.hid hdr
          have HTO := Lib.hid hto
          clear htk hdr hto
          go_wp2_with (first
            | (go_at_call 16; (with_reducible refine (HGA.out _ hr3 hb3).mono ?_); rintro e w4 ⟨rfl, hb4, ha4⟩)
            | (go_at_call 17; (with_reducible refine HTK.out.mono ?_); rintro e w3 ⟨rfl, hr3, hb3⟩))
          go_roundg 0
          case measure => omega
          case rel => exact ⟨false, rfl, inv_bad (V := V) (f := f) (by rw [← HDR.out]; exact HVE.out) HTO.out (HBL.out.trans hb3) hr3⟩
        | tok kd tx m len =>
          rw [hto] at htk
          have hlen := token_le c r _ _ _ _ hto
          have hcl : (c :: r).length = s.size - p := by rw [← hdr, List.length_drop, HZ.out]
          have HTK := Lib.hid (htk.mono (fun e w' h => (⟨h.2.1, (by rw [List.map_append]; exact h.2.2), h.1⟩ : e = .returned (.bool true) ∧ RS w' (n + 1) (n + 1) s ((p + len : Nat) : Int) ((acc ++ [(⟨kd, tx, m, p⟩ : T)]).map tk) 0 0 ∧ Below (n + 1) wr w')))
          have hga : ∀ w2, RS w2 (n + 1) (n + 1) s ((p + len : Nat) : Int) ((acc ++ [(⟨kd, tx, m, p⟩ : T)]).map tk) 0 0 → Below (n + 1) wr w2 → _ := fun w2 hr hb => gaps_any w2 (n + 1) (n + 1) s (p + len) _ 0 0 hr (by omega) HS.out (Nat.succ_pos _) (HM.out _ (HBL.out.trans hb))
          obtain ⟨k2, hk2⟩ : ∃ k, (G (s.data.toList.drop (p + len))).2 = k := ⟨_, rfl⟩
          rw [hk2] at hga
          have HGA := Lib.hid hga
          have HK2 := Lib.hid hk2
          have HDR := Lib.hid hdr
          have HTO := Lib.hid hto
          clear htk hdr hto hga hk2 hlen hcl
          go_wp2_with (first
            | (go_at_call 16; (with_reducible refine (HGA.out _ hr3 hb3).mono ?_); rintro e w4 ⟨rfl, hb4, ha4⟩)
            | (go_at_call 17; (with_reducible refine HTK.out.mono ?_); rintro e w3 ⟨rfl, hr3, hb3⟩))
          go_roundg (s.size - p)
          case measure => omega
          case rel =>
            have := inv_step (V := V) (f := f) (by rw [← HDR.out]; exact HVE.out) HDR.out hps hf hacc HTO.out ((HBL.out.trans hb3).trans hb4) ha4
            rw [HK2.out] at this
            exact ⟨k2, rfl, this⟩
/-- what Tokens answers: the tokens in a row of its own, and the fault -/
theorem Tokens_any (w : World) (s : ByteArray) (hs : s.size ≤ 140737488351232) (hB : 2 < w.heap.size) (hM : MaxVar w) (he : ErrVar w) :
    Calls Tryd.prog 8 #[.string s] w fun e w' => ∃ v, e = .returned (.tuple #[v, .agg #[.int .i64 (lex s.data.toList).2.1, .int .i64 (lex s.data.toList).2.2]]) ∧ w'.ownsRow w.heap.size 30 4 v (lex s.data.toList).1.length (cellsOf ((lex s.data.toList).1.map tk)) ∧ Below w.heap.size w w' := by
  have hz : s.size = s.data.toList.length := Lib.size_eq s
  by_cases h : 65536 < s.size
  · refine (Tokens_long w s h).mono ?_
    rintro e w' ⟨rfl, hb⟩
    have hl : lex s.data.toList = ([], 2, 0) := by unfold lex; rw [if_pos (by omega)]
    rw [hl]
    exact ⟨_, rfl, World.ownsRow_nil _ _ _ _, hb⟩
  · have hl : lex s.data.toList = toks (s.data.toList.length + 1) 0 s.data.toList [] := by unfold lex; rw [if_neg (by omega)]
    rw [hl]
    exact Tokens_short w s (by omega) hB hM he
end Go.Proofs.YtafndkgoeabehaaDoor.LexTokens
namespace Go.Proofs.YtafndkgoeabehaaDoor.LexAlive
open Go Go.RowKit Go.Proofs.YtafndkgoeabehaaDoor.NumPure Go.Proofs.YtafndkgoeabehaaDoor.NumRead Go.Proofs.YtafndkgoeabehaaDoor.NumParse Go.Proofs.YtafndkgoeabehaaDoor.LexPure Go.Proofs.YtafndkgoeabehaaDoor.LexGap Go.Proofs.YtafndkgoeabehaaDoor.LexMem Go.Proofs.YtafndkgoeabehaaDoor.LexWord Go.Proofs.YtafndkgoeabehaaDoor.LexGaps Go.Proofs.YtafndkgoeabehaaDoor.LexTook Go.Proofs.YtafndkgoeabehaaDoor.LexNumber Go.Proofs.YtafndkgoeabehaaDoor.LexToken Go.Proofs.YtafndkgoeabehaaDoor.LexToks Go.Proofs.YtafndkgoeabehaaDoor.LexTokens Go.Proofs.YtafndkgoeabehaaDoorW.PrintWords
theorem lex_a : lex [100, 46, 112, 97, 116, 104, 40, 49, 41, 46, 32, 47, 47, 32, 99] = ([⟨1, [100, 46, 112, 97, 116, 104], 0, 0⟩, ⟨4, [40], 0, 6⟩, ⟨2, [], 1, 7⟩, ⟨4, [41], 0, 8⟩, ⟨4, [46], 0, 9⟩], 0, 0) := by decide +kernel
theorem lex_b : lex [48, 48, 55] = ([], 7, 1) := by decide +kernel
/-- Tokens, over any later world: what a law's walk takes -/
theorem tokens_later (w : World) (s : ByteArray) (hs : s.size ≤ 140737488351232) (hB : 2 < w.heap.size) (hM : MaxVar w) (he : ErrVar w) :
    ∀ w2, Below w.heap.size w w2 → Calls Tryd.prog 8 #[.string s] w2 fun e w' => ∃ v, e = .returned (.tuple #[v, .agg #[.int .i64 (lex s.data.toList).2.1, .int .i64 (lex s.data.toList).2.2]]) ∧ w'.ownsRow w2.heap.size 30 4 v (lex s.data.toList).1.length (cellsOf ((lex s.data.toList).1.map tk)) ∧ Below w2.heap.size w2 w' :=
  fun w2 hb => Tokens_any w2 s hs (Nat.lt_of_lt_of_le hB hb.size) (max_below hb (by omega) hM) (err_belowB hb hB he)
/-- the cells of a row of tokens, later on -/
theorem row_cells {w w2 : World} {base n : Nat} {v : Value} {l : List Tk} (h : w.ownsRow base 30 4 v n (cellsOf l)) (hn : 0 < n) : ∃ g cap, v = .slice (some ⟨g, 0, none⟩) n cap ∧ g < w.heap.size ∧ base ≤ g ∧ ∀ j, j < n * 4 → w.cell? ⟨g, j, none⟩ = (cellsOf l)[j]? := by
  obtain ⟨h0, ⟨rfl, h1⟩ | ⟨g, cap, cur, rfl, hg, h3, h4⟩⟩ := id h
  · omega
  · refine ⟨g, cap, rfl, (h.lt g rfl).2, hg, fun j hj => h.cellAt j hj⟩
set_option maxRecDepth 100000 in
set_option maxHeartbeats 4000000 in
theorem alive_any (w : World) (hB : 2 < w.heap.size) (hM : MaxVar w) (he : ErrVar w) :
    Calls Tryd.prog 9 #[] w fun e w' => e = .returned (.bool true) ∧ Below w.heap.size w w' := by
  have HA := Lib.hid (tokens_later w ⟨#[100, 46, 112, 97, 116, 104, 40, 49, 41, 46, 32, 47, 47, 32, 99]⟩ (by decide) hB hM he w (Below.refl _ _))
  have HC := Lib.hid (tokens_later w ⟨#[48, 48, 55]⟩ (by decide) hB hM he)
  rw [show (ByteArray.mk #[100, 46, 112, 97, 116, 104, 40, 49, 41, 46, 32, 47, 47, 32, 99]).data.toList = [100, 46, 112, 97, 116, 104, 40, 49, 41, 46, 32, 47, 47, 32, 99] from rfl, lex_a] at HA
  rw [show (ByteArray.mk #[48, 48, 55]).data.toList = [48, 48, 55] from rfl, lex_b] at HC
  clear hB hM he
  go_enter Tryd.func9, Tryd.ntmps9
  go_wp2_with (go_at_call 8; (with_reducible refine HA.out.mono ?_); rintro e w1 ⟨v, rfl, ho, hb1⟩; (obtain ⟨g, cap, rfl, hg, hgb, hcell⟩ := row_cells (w2 := w) ho (by decide)))
  have c1 : w1.cell? ⟨g, 1, none⟩ = some (.string ⟨#[100, 46, 112, 97, 116, 104]⟩) := (hcell 1 (by decide)).trans rfl
  have c10 : w1.cell? ⟨g, 10, none⟩ = some (.int .i64 1) := (hcell 10 (by decide)).trans rfl
  have c17 : w1.cell? ⟨g, 17, none⟩ = some (.string ⟨#[46]⟩) := (hcell 17 (by decide)).trans rfl
  have HB1 := Lib.hid hb1
  have HG := Lib.hid hg
  clear HA hcell ho hb1 hg hgb
  go_wp2_with
   (go_at_call 8; (with_reducible refine (HC.out _ ?bel).mono ?_); (case bel => exact HB1.out.alloc HB1.out.size _); rintro e w2 ⟨v2, rfl, ho2, hb2⟩
    have hw12 : w1.heap.size < w2.heap.size := by have := hb2.size; simp at this; omega
    have hne : w1.heap.size ≠ w2.heap.size := Nat.ne_of_lt hw12
    have hgn : g < w2.heap.size := by have := HG.out; omega
    have hfx := ((Blk.new w1 25 #[.int .i64 0, .int .i64 0]).below hb2 (by simp))
    have x0 : w2.cell? ⟨w1.heap.size, 0, none⟩ = some (Value.int .i64 0) := hfx.cell 0
    have x1 : w2.cell? ⟨w1.heap.size, 1, none⟩ = some (Value.int .i64 0) := hfx.cell 1
    have hbk : ∀ j, w2.cell? ⟨g, j, none⟩ = w1.cell? ⟨g, j, none⟩ := fun j => by
      have h1 := HG.out
      exact (hb2.cell (p := ⟨g, j, none⟩) (by simp; omega)).trans (((Below.refl w1.heap.size w1).alloc (Nat.le_refl _) _).cell (p := ⟨g, j, none⟩) h1)
    rw [← hbk] at c1 c10 c17
    have HB2 := Lib.hid (HB1.out.alloc HB1.out.size (.cells #[.int .i64 0, .int .i64 0] 25))
    have HB3 := Lib.hid ((HB2.out.trans (hb2.mono (by simp; exact Nat.le_trans HB1.out.size (Nat.le_succ _)))).alloc (by have := HB1.out.size; omega) (.cells #[.int .i64 7, .int .i64 1] 25))
    clear hfx hbk ho2 hb2 HC HG)
  go_ret
  exact ⟨rfl, HB3.out⟩
end Go.Proofs.YtafndkgoeabehaaDoor.LexAlive
namespace Go.Proofs.YtafndkgoeabehaaDoor.LexRise
open Go Go.RowKit Go.Proofs.YtafndkgoeabehaaDoor.NumPure Go.Proofs.YtafndkgoeabehaaDoor.NumRead Go.Proofs.YtafndkgoeabehaaDoor.LexPure Go.Proofs.YtafndkgoeabehaaDoor.LexGap Go.Proofs.YtafndkgoeabehaaDoor.LexToks
theorem text_cons (b : List UInt8) (i : Nat) (c : UInt8) (r : List UInt8) : text b i (c :: r) = if c = 34 then .tok 3 b 0 (i + 1) else if c = 10 then .bad 7 i else if c = 92 then (match r with | [] => .bad 7 i | d :: r' => match esc d with | none => .bad 7 i | some e => text (b ++ [e]) (i + 2) r') else text (b ++ [c]) (i + 1) r := by
  cases r with
  | nil => rfl
  | cons d r => rfl
theorem text_bad : ∀ (n : Nat) (r : List UInt8), r.length ≤ n → ∀ b i y off, text b i r = .bad y off → y = 7 ∧ off ≤ i + r.length := by
  intro n
  induction n with
  | zero =>
    intro r hr b i y off h
    obtain rfl : r = [] := List.eq_nil_of_length_eq_zero (by omega)
    simp [text] at h
    omega
  | succ n ih =>
    intro r hr b i y off h
    cases r with
    | nil => simp [text] at h; omega
    | cons c r =>
      rw [text_cons] at h
      simp at hr
      split at h
      · cases h
      · split at h
        · injection h with h1 h2
          simp; omega
        · split at h
          · cases r with
            | nil => simp at h; simp; omega
            | cons d r =>
              simp only [] at h
              cases he : esc d with
              | none => rw [he] at h; simp at h; simp; omega
              | some e =>
                rw [he] at h
                simp at hr
                have := ih r (by omega) _ _ _ _ h
                simp; omega
          · have := ih r (by omega) _ _ _ _ h
            simp; omega
theorem token_bad (c : UInt8) (r : List UInt8) (y : Int) (off : Nat) (h : token (c :: r) = .bad y off) : y ≠ 0 ∧ off ≤ (c :: r).length := by
  rw [token_cons] at h
  split at h
  · injection h with h1 h2
    simp; omega
  · split at h
    · cases h
    · split at h
      · have := numLen_bound c r
        unfold number at h
        split at h
        · injection h with h1 h2
          omega
        · split at h
          · cases h
          · rename_i hp
            injection h with h1 h2
            exact ⟨h1 ▸ hp, by omega⟩
      · split at h
        · have := text_bad _ r (Nat.le_refl _) _ _ _ _ h
          simp; omega
        · unfold sign at h
          split at h
          · injection h with h1 h2
            simp; omega
          · cases h
/-- what tokens look like: they rise, and lie below a byte -/
def Rise (l : List T) (n : Nat) : Prop := l.Pairwise (fun a b => a.at_ < b.at_) ∧ ∀ t ∈ l, t.at_ < n
theorem Rise.mono {l : List T} {n m : Nat} (h : Rise l n) (hm : n ≤ m) : Rise l m := ⟨h.1, fun t ht => Nat.lt_of_lt_of_le (h.2 t ht) hm⟩
theorem Rise.snoc {l : List T} {n : Nat} (h : Rise l n) (t : T) (ht : t.at_ = n) : Rise (l ++ [t]) (n + 1) := by
  constructor
  · rw [List.pairwise_append]
    exact ⟨h.1, by simp, fun a ha b hb => by simp at hb; subst hb; rw [ht]; exact h.2 a ha⟩
  · intro u hu
    rw [List.mem_append] at hu
    rcases hu with hu | hu
    · exact Nat.lt_succ_of_lt (h.2 u hu)
    · simp at hu; subst hu; omega
theorem toks_law : ∀ (f p : Nat) (l : List UInt8) (acc : List T), l.length < f → Rise acc p → (((toks f p l acc).2.1 = 0 ∧ (toks f p l acc).2.2 = 0 ∧ Rise (toks f p l acc).1 (p + l.length)) ∨ ((toks f p l acc).2.1 ≠ 0 ∧ (toks f p l acc).1 = [] ∧ 0 ≤ (toks f p l acc).2.2 ∧ (toks f p l acc).2.2 ≤ ((p + l.length : Nat) : Int))) := by
  intro f
  induction f with
  | zero => intro p l acc hf; omega
  | succ f ih =>
    intro p l acc hf hr
    have hg := G_le l
    by_cases hk : (G l).2 = true
    · rw [toks_ok hk]
      cases hd : l.drop (G l).1 with
      | nil =>
        rw [aft_nil]
        exact .inl ⟨rfl, rfl, hr.mono (by omega)⟩
      | cons c r =>
        have hcl : (c :: r).length = l.length - (G l).1 := by rw [← hd, List.length_drop]
        cases ht : token (c :: r) with
        | bad y off =>
          rw [aft_bad ht]
          have := token_bad c r y off ht
          exact .inr ⟨this.1, rfl, by simp only []; omega, by simp only []; omega⟩
        | tok kd tx n len =>
          rw [aft_tok ht]
          have hle := token_le c r _ _ _ _ ht
          have hl2 : ((c :: r).drop len).length = (c :: r).length - len := List.length_drop
          have hr2 := ((hr.mono (Nat.le_add_right p (G l).1)).snoc ⟨kd, tx, n, p + (G l).1⟩ rfl).mono (show p + (G l).1 + 1 ≤ p + (G l).1 + len by omega)
          rcases ih (p + (G l).1 + len) ((c :: r).drop len) _ (by omega) hr2 with ⟨h1, h2, h3⟩ | ⟨h1, h2, h3, h4⟩
          · exact .inl ⟨h1, h2, h3.mono (by omega)⟩
          · exact .inr ⟨h1, h2, h3, by omega⟩
    · rw [toks_bad (by simpa using hk)]
      exact .inr ⟨by simp, rfl, by simp only []; omega, by simp only []; omega⟩
theorem lex_law (l : List UInt8) : ((lex l).2.1 = 0 ∧ (lex l).2.2 = 0 ∧ Rise (lex l).1 l.length) ∨ ((lex l).2.1 ≠ 0 ∧ (lex l).1 = [] ∧ 0 ≤ (lex l).2.2 ∧ (lex l).2.2 ≤ (l.length : Int)) := by
  unfold lex
  split
  · exact .inr ⟨by decide, rfl, by simp, by simp⟩
  · have := toks_law (l.length + 1) 0 l [] (by omega) ⟨List.Pairwise.nil, fun t ht => by cases ht⟩
    simpa using this
end Go.Proofs.YtafndkgoeabehaaDoor.LexRise
namespace Go.Proofs.YtafndkgoeabehaaDoor.LexRises
open Go Go.RowKit Go.Proofs.YtafndkgoeabehaaDoor.NumPure Go.Proofs.YtafndkgoeabehaaDoor.NumRead Go.Proofs.YtafndkgoeabehaaDoor.NumParse Go.Proofs.YtafndkgoeabehaaDoor.LexPure Go.Proofs.YtafndkgoeabehaaDoor.LexGap Go.Proofs.YtafndkgoeabehaaDoor.LexMem Go.Proofs.YtafndkgoeabehaaDoor.LexWord Go.Proofs.YtafndkgoeabehaaDoor.LexGaps Go.Proofs.YtafndkgoeabehaaDoor.LexTook Go.Proofs.YtafndkgoeabehaaDoor.LexNumber Go.Proofs.YtafndkgoeabehaaDoor.LexToken Go.Proofs.YtafndkgoeabehaaDoor.LexToks Go.Proofs.YtafndkgoeabehaaDoor.LexTokens Go.Proofs.YtafndkgoeabehaaDoor.LexAlive Go.Proofs.YtafndkgoeabehaaDoor.LexRise Go.Proofs.YtafndkgoeabehaaDoorW.PrintWords
/-- a row of tokens: its value is a slice of that length -/
theorem row_slice {w : World} {base n : Nat} {v : Value} {l : List Tk} (h : w.ownsRow base 30 4 v n (cellsOf l)) : ∃ p cap, v = .slice p n cap := by
  obtain ⟨_, ⟨rfl, rfl⟩ | ⟨g, cap, cur, rfl, _⟩⟩ := h
  · exact ⟨_, _, rfl⟩
  · exact ⟨_, _, rfl⟩
theorem rise_len (l : List T) (n : Nat) : ∀ k, l.Pairwise (fun a b => a.at_ < b.at_) → (∀ t ∈ l, k ≤ t.at_ ∧ t.at_ < n) → l.length ≤ n - k := by
  induction l with
  | nil => intro k _ _; simp
  | cons t r ih =>
    intro k hp ha
    rw [List.pairwise_cons] at hp
    have h1 := ha t (List.mem_cons_self ..)
    have := ih (t.at_ + 1) hp.2 (fun u hu => ⟨hp.1 u hu, (ha u (List.mem_cons_of_mem _ hu)).2⟩)
    simp
    omega
theorem wrap_up (i : Nat) (h : (i : Int) + 1 ≤ 140737488351232) : wrap64 ((i : Int) + 1) = ((i + 1 : Nat) : Int) := by
  unfold wrap64
  omega
theorem cellsOf_at (l : List Tk) (i : Nat) (t : Tk) (h : l[i]? = some t) (k : Nat) (hk : k < 4) : (cellsOf l)[i * 4 + k]? = t.cells[k]? := by
  induction l generalizing i with
  | nil => simp at h
  | cons u r ih =>
    have e : cellsOf (u :: r) = u.cells ++ cellsOf r := rfl
    rw [e]
    cases i with
    | zero =>
      simp at h
      subst h
      rw [List.getElem?_append_left (by simp [Tk.cells]; omega)]
      simp
    | succ i =>
      rw [List.getElem?_append_right (by simp [Tk.cells]; omega)]
      have e2 : (i + 1) * 4 + k - u.cells.length = i * 4 + k := by simp [Tk.cells]; omega
      rw [e2]
      exact ih i (by simpa using h)
theorem alive_later (w : World) (hB : 2 < w.heap.size) (hM : MaxVar w) (he : ErrVar w) :
    ∀ w2, Below w.heap.size w w2 → Calls Tryd.prog 9 #[] w2 fun e w' => e = .returned (.bool true) ∧ Below w2.heap.size w2 w' :=
  fun w2 hb => alive_any w2 (Nat.lt_of_lt_of_le hB hb.size) (max_below hb (by omega) hM) (err_belowB hb hB he)
end Go.Proofs.YtafndkgoeabehaaDoor.LexRises
namespace Go.Proofs.YtafndkgoeabehaaDoor.LexShaped
open Go Go.RowKit Go.Proofs.YtafndkgoeabehaaDoor.NumParse Go.Proofs.YtafndkgoeabehaaDoor.LexGaps
theorem handed {H : Type} {enc : TypeId × Value → H} {a : Assume} {C : Checked} {os : Os} {f : FuncId} {fn : Func} {s : ChangeSpec} {conds : List PathCond} {apart fresh handsOn again : Bool} {X : World → Array Value → Prop}
    (hX : ∀ (w w' : World) (args : Array Value), w.heap = w'.heap → X w args → X w' args)
    (own : ownKnob C.prog.godebug = none) (started : os.Started) (noInit : C.prog.inits.idxOf? f = none) (hfn : C.prog.funcs[f]? = some fn)
    (witness : ∃ (w : World) (tape : Tape) (i : Input), w.os = os ∧ (w.forCall tape i).Shaped C.prog ∧ i.vars = [] ∧ Input.okWide C.prog (w.forCall tape i) .any w.heap.size f i ∧
      ((s.pre enc C.prog fn conds apart (w.forCall tape i).memory i.args ∧ X (w.forCall tape i).memory i.args) ∧ sizedMet enc C.prog fn (OpenSpec.ofChange s) apart (w.forCall tape i).memory i.args) ∧ a.holds C.prog (lone (Frame.enter C.prog f i.args .normal) [] (w.forCall tape i)))
    (contract : ∀ (W : World) (base : Nat) (args : Array Value) (ds gs : List (DataW H)) (before : List MemPlace),
      (∀ (j : Nat) t v, fn.params[j]? = some t → args[j]? = some v → Value.okWide C.prog W .any base t v) →
      DataW.Whole enc C.prog fn.params.toList s.vars apart W args.toList ds gs before →
      conds.all (PathCond.test C.prog ⟨fn.params.toList, ds, s.plain.varTypes C.prog, gs⟩) = true →
      (DataW.weightsEach C.prog (fn.params.toList ++ s.plain.varTypes C.prog) (ds ++ gs)).all (· ≤ reachBytes) = true → X W args → W.ShapedOpen C.prog →
      Calls C.prog f args W fun e W' => ∃ v, e = .returned v ∧ s.post enc C.prog fn apart fresh handsOn again W args v W') :
    ReturnsInHanded a C os f .any (fun w args => (s.pre enc C.prog fn conds apart w args ∧ X w args) ∧ sizedMet enc C.prog fn (OpenSpec.ofChange s) apart w args) (s.post enc C.prog fn apart fresh handsOn again) := by
  refine returnsInHanded_of_calls own started noInit witness ?_
  intro w tape i _ hsh _ hok hpre _
  obtain ⟨_, _, _, fn', hfn', _, _, _, _, hval⟩ := hok
  have e : fn' = fn := Option.some.inj (hfn'.symm.trans hfn)
  subst e
  obtain ⟨⟨⟨ds, gs, before, hw, hc⟩, hx⟩, hz⟩ := hpre
  refine (contract (w.forCall tape i) w.heap.size i.args ds gs before hval (DataW.Whole.of_heap (w' := w.forCall tape i) (by rfl) hw) hc (hz.weights hw) (hX _ _ _ (by rfl) hx) hsh).mono fun e W' ⟨v, he, hp⟩ => ?_
  subst he
  exact ChangeSpec.post_blind hp
theorem max_of_shape {w : World} (h : w.ShapedOpen Tryd.prog) : MaxVar w :=
  cell_of_shapedOpen_int (P := Tryd.prog) (g := 0) (t := 3) (zero := #[.int .i64 0]) h (of_decide_eq_true (by kernel_rfl)) (by kernel_rfl) rfl (by kernel_rfl) (by kernel_rfl) Tryd.underlying3
theorem lt_of_err {w : World} (h : ErrVar w) : 2 < w.heap.size := by
  obtain ⟨t, p, hc⟩ := h
  rcases Nat.lt_or_ge 2 w.heap.size with h1 | h1
  · exact h1
  · simp [World.cell?, Array.getElem?_eq_none h1] at hc
end Go.Proofs.YtafndkgoeabehaaDoor.LexShaped
namespace Go.Proofs.YtafndkgoeabehaaDoor.LexSame
open Go Go.RowKit Go.Proofs.YtafndkgoeabehaaDoor.NumPure Go.Proofs.YtafndkgoeabehaaDoor.LexPure Go.Proofs.YtafndkgoeabehaaDoor.LexMem Go.Proofs.YtafndkgoeabehaaDoor.LexTokens Go.Proofs.YtafndkgoeabehaaDoor.LexAlive Go.Proofs.YtafndkgoeabehaaDoor.LexRises Go.Proofs.YtafndkgoeabehaaDoorW.PrintWords
/-- a value reads as a row of tokens -/
def Row (w : World) (v : Value) (l : List Tk) : Prop := ∃ p cap, v = .slice p l.length cap ∧ ∀ i t, l[i]? = some t → ∃ g, p = some ⟨g, 0, none⟩ ∧ g < w.heap.size ∧ ∀ k, k < 4 → w.cell? ⟨g, i * 4 + k, none⟩ = t.cells[k]?
theorem Row.of_own {w : World} {base : Nat} {v : Value} {l : List Tk} (h : w.ownsRow base 30 4 v l.length (cellsOf l)) : Row w v l := by
  obtain ⟨p, cap, rfl⟩ := row_slice h
  refine ⟨p, cap, rfl, fun i t ht => ?_⟩
  have hi : i < l.length := (List.getElem?_eq_some_iff.1 ht).1
  obtain ⟨g, cap', hv, hg, _, hcell⟩ := row_cells (w2 := w) h (by omega)
  injection hv with hv1 _ hv3
  exact ⟨g, hv1, hg, fun k hk => by rw [hcell _ (by omega), cellsOf_at _ i t ht k hk]⟩
theorem Row.below {w w' : World} {v : Value} {l : List Tk} (h : Row w v l) (hb : Below w.heap.size w w') : Row w' v l := by
  obtain ⟨p, cap, rfl, hc⟩ := h
  refine ⟨p, cap, rfl, fun i t ht => ?_⟩
  obtain ⟨g, hp, hg, hk⟩ := hc i t ht
  exact ⟨g, hp, Nat.lt_of_lt_of_le hg hb.size, fun k hk4 => (hb.cell (p := ⟨g, i * 4 + k, none⟩) hg).trans (hk k hk4)⟩
/-- a token, its place or none -/
def norm (k : Bool) (t : Tk) : Tk := if k then t else { t with at_ := 0 }
set_option maxRecDepth 100000 in
set_option maxHeartbeats 4000000 in
theorem same_any (w : World) (v1 v2 : Value) (l1 l2 : List Tk) (k : Bool) (h1 : Row w v1 l1) (h2 : Row w v2 l2) (hl : l1.length < 140737488351232) (he : l1.map (norm k) = l2.map (norm k)) :
    Calls Tryd.prog 10 #[v1, v2, .bool k] w fun e w' => e = .returned (.bool true) ∧ Below w.heap.size w w' := by
  have hlen : l1.length = l2.length := by have := congrArg List.length he; simpa using this
  have HL := Lib.hid hl
  have HEQ := Lib.hid he
  have H1 := Lib.hid h1
  have H2 := Lib.hid h2
  obtain ⟨p1, cap1, rfl, _⟩ := h1
  obtain ⟨p2, cap2, rfl, _⟩ := h2
  rw [← hlen] at H2 ⊢
  obtain ⟨n, hn⟩ : ∃ n, l1.length = n := ⟨_, rfl⟩
  rw [hn] at H1 H2 ⊢
  have HN := Lib.hid hn
  have HN2 := Lib.hid (hlen ▸ hn : l2.length = n)
  clear hl he hlen hn
  go_enter Tryd.func10, Tryd.ntmps10
  go_wp2
  go_loopg [7] (n + 1) (fun g v7 wr => ∃ i : Nat, v7 = .int .i64 (i : Int) ∧ Hid (i ≤ n ∧ Below w.heap.size w wr ∧ n - i < g))
  case atStart => exact ⟨0, rfl, Lib.hid ⟨Nat.zero_le _, Below.refl _ _, by omega⟩⟩
  case round =>
    obtain ⟨i, rfl, HI⟩ := hrel
    by_cases hi : i < n
    · have hib : decide (i < n) = true := decide_eq_true hi
      obtain ⟨t1, ht1⟩ : ∃ t, l1[i]? = some t := ⟨l1[i]'(by rw [HN.out]; exact hi), by simp⟩
      obtain ⟨t2, ht2⟩ : ∃ t, l2[i]? = some t := ⟨l2[i]'(by rw [HN2.out]; exact hi), by simp⟩
      have heq : norm k t1 = norm k t2 := by
        have := congrArg (fun l => l[i]?) HEQ.out
        simpa [List.getElem?_map, ht1, ht2] using this
      obtain ⟨q1, c1, hv1, hr1⟩ := H1.out.below HI.out.2.1
      obtain ⟨q2, c2, hv2, hr2⟩ := H2.out.below HI.out.2.1
      injection hv1 with hp1 hq1 hc1
      injection hv2 with hp2 hq2 hc2
      clear hq1 hq2
      obtain ⟨g1, hg1, hgl1, hk1⟩ := hr1 i t1 ht1
      obtain ⟨g2, hg2, hgl2, hk2⟩ := hr2 i t2 ht2
      subst hp1 hp2 hc1 hc2
      subst hg1 hg2
      obtain ⟨kd1, tx1, n1, at1⟩ := t1
      obtain ⟨kd2, tx2, n2, at2⟩ := t2
      have d0 : wr.cell? ⟨g1, i * 4, none⟩ = some (.int .i64 kd1) := hk1 0 (by decide)
      have d1 : wr.cell? ⟨g1, i * 4 + 1, none⟩ = some (.string ⟨tx1.toArray⟩) := hk1 1 (by decide)
      have d2 : wr.cell? ⟨g1, i * 4 + 2, none⟩ = some (.int .i64 n1) := hk1 2 (by decide)
      have d3 : wr.cell? ⟨g1, i * 4 + 3, none⟩ = some (.int .i64 at1) := hk1 3 (by decide)
      have e0 : wr.cell? ⟨g2, i * 4, none⟩ = some (.int .i64 kd2) := hk2 0 (by decide)
      have e1 : wr.cell? ⟨g2, i * 4 + 1, none⟩ = some (.string ⟨tx2.toArray⟩) := hk2 1 (by decide)
      have e2 : wr.cell? ⟨g2, i * 4 + 2, none⟩ = some (.int .i64 n2) := hk2 2 (by decide)
      have e3 : wr.cell? ⟨g2, i * 4 + 3, none⟩ = some (.int .i64 at2) := hk2 3 (by decide)
      clear hr1 hr2 hk1 hk2 ht1 ht2
      cases k with
      | true =>
        obtain ⟨rfl, rfl, rfl, rfl⟩ : kd1 = kd2 ∧ tx1 = tx2 ∧ n1 = n2 ∧ at1 = at2 := by simpa [norm] using heq
        clear heq
        go_wp2
        go_region
        all_goals go_wp2
        all_goals go_roundg (n - i)
        case measure => have := HI.out.2.2; omega
        case measure => have := HI.out.2.2; omega
        case rel => exact ⟨i + 1, by rw [wrap_up i (by have := HL.out; have := HN.out; omega)], Lib.hid ⟨hi, (HI.out.2.1.alloc HI.out.2.1.size _).alloc (by have := HI.out.2.1.size; simp; omega) _ |>.drew, by omega⟩⟩
        case rel => exact ⟨i + 1, by rw [wrap_up i (by have := HL.out; have := HN.out; omega)], Lib.hid ⟨hi, (HI.out.2.1.alloc HI.out.2.1.size _).alloc (by have := HI.out.2.1.size; simp; omega) _ |>.drew, by omega⟩⟩
      | false =>
        obtain ⟨rfl, rfl, rfl⟩ : kd1 = kd2 ∧ tx1 = tx2 ∧ n1 = n2 := by simpa [norm] using heq
        clear heq
        go_wp2
        go_region
        all_goals go_wp2
        all_goals go_roundg (n - i)
        case measure => have := HI.out.2.2; omega
        case measure => have := HI.out.2.2; omega
        case rel => exact ⟨i + 1, by rw [wrap_up i (by have := HL.out; have := HN.out; omega)], Lib.hid ⟨hi, (HI.out.2.1.alloc HI.out.2.1.size _).alloc (by have := HI.out.2.1.size; simp; omega) _ |>.drew, by omega⟩⟩
        case rel => exact ⟨i + 1, by rw [wrap_up i (by have := HL.out; have := HN.out; omega)], Lib.hid ⟨hi, (HI.out.2.1.alloc HI.out.2.1.size _).alloc (by have := HI.out.2.1.size; simp; omega) _ |>.drew, by omega⟩⟩
    · have hib : decide (i < n) = false := decide_eq_false hi
      go_wp2
      go_ret
      exact ⟨rfl, HI.out.2.1⟩
end Go.Proofs.YtafndkgoeabehaaDoor.LexSame
namespace Go.Proofs.YtafndkgoeabehaaDoor.PTokens
open Go.RowKit Go.Proofs.YtafndkgoeabehaaDoorW.PrintWords Go.Proofs.YtafndkgoeabehaaDoorW.PrintLast Go.Proofs.YtafndkgoeabehaaDoorW.PrintMore
attribute [local go_sem] max2_int min2_int max_two min_two max_three min_three max_four min_four   -- for this text's walks alone
set_option linter.unusedVariables false
set_option linter.unusedSimpArgs false
def errW : Option Int → Value
  | none => .nilIface
  | some c => .iface 0 (.int .i64 c)
theorem errW_none : errW none = .nilIface := rfl
theorem errW_some (c : Int) : errW (some c) = .iface 0 (.int .i64 c) := rfl
theorem info5 : (Tryd.prog.info? 5).map (fun i => (i.zero, i.size, i.bytes)) = some (some (.int .u8 0), 1, 1) := by kernel_rfl
theorem info30 : (Tryd.prog.info? 30).map (fun i => (i.zero, i.size, i.bytes)) = some (some (.agg #[(.int .i64 0), (.string ⟨#[]⟩), (.int .i64 0), (.int .i64 0)]), 4, 40) := by kernel_rfl
structure S30 where
  f0 : Int
  f1 : ByteArray
  f2 : Int
  f3 : Int
def k30 : Kd S30 := Kd.iso (Kd.pair (Kd.int .i64) (Kd.pair Kd.string (Kd.pair (Kd.int .i64) (Kd.int .i64)))) (fun x : S30 => (x.f0, x.f1, x.f2, x.f3))
theorem k30_openM {w : World} {base : Nat} {ok : Nat → Prop} {x : S30} {cs : List Value} (h : k30.M w base ok x cs) : cs = [.int .i64 x.f0, .string x.f1, .int .i64 x.f2, .int .i64 x.f3] := by
  obtain ⟨_, _, rfl, rfl, ⟨_, _, rfl, rfl, ⟨_, _, rfl, rfl, rfl⟩⟩⟩ := h
  exact rfl
theorem k30_mkM (w : World) (base : Nat) (ok : Nat → Prop) (x : S30)  : k30.M w base ok x [.int .i64 x.f0, .string x.f1, .int .i64 x.f2, .int .i64 x.f3] := ⟨[.int .i64 x.f0], [.string x.f1, .int .i64 x.f2, .int .i64 x.f3], rfl, rfl, ⟨[.string x.f1], [.int .i64 x.f2, .int .i64 x.f3], rfl, rfl, ⟨[.int .i64 x.f2], [.int .i64 x.f3], rfl, rfl, rfl⟩⟩⟩
end Go.Proofs.YtafndkgoeabehaaDoor.PTokens
namespace Go.Proofs.YtafndkgoeabehaaDoor.PTokens
open Go.RowKit Go.Proofs.YtafndkgoeabehaaDoorW.PrintWords Go.Proofs.YtafndkgoeabehaaDoorW.PrintLast Go.Proofs.YtafndkgoeabehaaDoorW.PrintMore
attribute [local go_sem] max2_int min2_int max_two min_two max_three min_three max_four min_four   -- for this text's walks alone
set_option linter.unusedVariables false
set_option linter.unusedSimpArgs false
theorem eqA25 (d : Nat) (w : World) (x0 y0 : Int) (x1 y1 : Int) :
    (Op.equalIn (d + 2) 25 (.agg #[.int .i64 x0, .int .i64 x1]) (.agg #[.int .i64 y0, .int .i64 y1])).run Tryd.prog w = .ok (x0 == y0 && (x1 == y1)) w := by
  refine eqA_of Tryd.underlying25 (by kernel_rfl) ?_
  refine eqf_cons (by rfl) (by go_simp; rfl) (by go_simp; rfl) (by go_simp) ?_
  exact eqf_last (by rfl) (by go_simp; rfl) (by go_simp; rfl) (by go_simp)
end Go.Proofs.YtafndkgoeabehaaDoor.PTokens
namespace Go.Proofs.YtafndkgoeabehaaDoor.PTokens
open Go.RowKit Go.Proofs.YtafndkgoeabehaaDoorW.PrintWords Go.Proofs.YtafndkgoeabehaaDoorW.PrintLast Go.Proofs.YtafndkgoeabehaaDoorW.PrintMore
attribute [local go_sem] max2_int min2_int max_two min_two max_three min_three max_four min_four   -- for this text's walks alone
set_option linter.unusedVariables false
set_option linter.unusedSimpArgs false
def vestryref08_fault.f (a0 : Int) (a1 : Int) : Option (Int × Int) := some (a0, a1)
set_option maxHeartbeats 8000000 in
set_option maxRecDepth 100000 in
theorem vestryref08_fault.calls (a0 : Int) (a1 : Int) (r1 : Int) (r2 : Int) (w : World) (h : vestryref08_fault.f a0 a1 = some (r1, r2)) :
    Calls Tryd.prog 18 #[.int .i64 a0, .int .i64 a1] w fun e w' => e = .returned (.agg #[.int .i64 r1, .int .i64 r2]) ∧ Below w.heap.size w w' := by
  have hu25 := Tryd.underlying25
  have HB := Aside0.mk (Below.refl w.heap.size w)
  have H : (some (a0, a1)) = some (r1, r2) := h
  clear h
  simp only [Option.some.injEq, Prod.mk.injEq] at H
  obtain ⟨rfl, rfl⟩ := H
  go_enter Tryd.func18, Tryd.ntmps18
  go_wp2_with (first | ((with_reducible refine gate_dst (N := 4) rfl ?_); refine box_event ?hg (N := 4) ?hd (cs := #[.int .i64 0, .int .i64 0]) (t := 25) ?hr ?_; (case hd => rfl); (case hg => rfl); (case hr => first | (go_simp; done) | (go_simp; rfl)); intro gb101 hg w3 hbox hb; have n0_ := Aside0.mk (below_step (by repeat (first | (with_reducible first | exact HB.out | apply below_alloc | apply pw_below_drewN | apply below_drew1) | exact HB.out)) hb); have n1_ := Aside0.mk (hbox); have n2_ := Aside0.mk ((by rw [hg]; exact (below_size (by repeat (first | (with_reducible first | exact HB.out | apply below_alloc | apply pw_below_drewN | apply below_drew1) | exact HB.out))) : w.heap.size ≤ gb101)); have n3_ := Aside0.mk ((by rw [hg]; exact (below_size (by repeat (first | (with_reducible first | exact HB.out | apply below_alloc | apply pw_below_drewN | apply below_drew1) | exact HB.out))) : w.heap.size ≤ gb101)); clear HB; have HB := n0_; have BK101 := n1_; have GW101 := n2_; have GE101 := n3_; clear n0_ n1_ n2_ n3_; clear hb hbox hg; have hcz4_0 : w3.cell? ⟨gb101, 0, none⟩ = some (.int .i64 0) := (blk_cell BK101.out 0).trans rfl; have hcz4_1 : w3.cell? ⟨gb101, 1, none⟩ = some (.int .i64 0) := (blk_cell BK101.out 1).trans rfl; have hfz4_0 := blk_frozen BK101.out 0; have hfz4_1 := blk_frozen BK101.out 1))
  refine bodyPost_ret (results_cell_row rfl _ _ gb101 25 #[.int .i64 a0, .int .i64 a1] (0, 0) _ rfl (by (with_reducible repeat (first | refine blk_drewN ?_ _ | refine blk_drew ?_ | refine blk_alloc ?_ _)); refine blk_put (cs := #[.int .i64 a0, .int .i64 0]) ?_ 1 _ rfl; (with_reducible repeat (first | refine blk_drewN ?_ _ | refine blk_drew ?_ | refine blk_alloc ?_ _)); refine blk_put (cs := #[.int .i64 0, .int .i64 0]) ?_ 0 _ rfl; (with_reducible repeat (first | refine blk_drewN ?_ _ | refine blk_drew ?_ | refine blk_alloc ?_ _)); exact BK101.out) Tryd.underlying25 rfl (by kernel_rfl)) rfl ?_
  exact ⟨by first | rfl | (simp [errW_none, errW_some] <;> rfl) | (simp [*, errW_none, errW_some] <;> rfl), by repeat (first | (with_reducible first | exact HB.out | apply below_alloc | apply pw_below_drewN | apply below_drew1 | refine below_set ?_ GE101.out) | exact HB.out)⟩
def vestryref08_at.f (a0 : ByteArray) (a1 : Int) (a2 : ByteArray) : Option (Bool) := if (wrap64 (a1 + (a2.size : Int))) ≤ (a0.size : Int) then (if 0 ≤ a1 then (if a1 ≤ (wrap64 (a1 + (a2.size : Int))) then (some ((a0.extract (a1 : Int).toNat ((wrap64 (a1 + (a2.size : Int))) : Int).toNat).toList == a2.toList)) else (none)) else (none)) else (some false)
set_option maxHeartbeats 8000000 in
set_option maxRecDepth 100000 in
theorem vestryref08_at.calls (a0 : ByteArray) (a1 : Int) (a2 : ByteArray) (r : Bool) (w : World) (h : vestryref08_at.f a0 a1 a2 = some r) :
    Calls Tryd.prog 37 #[.string a0, .int .i64 a1, .string a2] w fun e w' => e = .returned (.bool r) ∧ Drawn0 w w' := by
  have H : (if (wrap64 (a1 + (a2.size : Int))) ≤ (a0.size : Int) then (if 0 ≤ a1 then (if a1 ≤ (wrap64 (a1 + (a2.size : Int))) then (some ((a0.extract (a1 : Int).toNat ((wrap64 (a1 + (a2.size : Int))) : Int).toNat).toList == a2.toList)) else (none)) else (none)) else (some false)) = some r := h
  clear h
  by_cases c4 : (wrap64 (a1 + (a2.size : Int))) ≤ (a0.size : Int)
  · rw [if_pos c4] at H
    have c4b0 : decide ((wrap64 (a1 + (a2.size : Int))) ≤ (a0.size : Int)) = true := decide_eq_true c4
    clear c4
    by_cases c5 : 0 ≤ a1
    · rw [if_pos c5] at H
      have c5b0 := eq_true c5
      have c5b1 : decide (0 ≤ a1) = true := decide_eq_true c5
      clear c5
      by_cases c6 : a1 ≤ (wrap64 (a1 + (a2.size : Int)))
      · rw [if_pos c6] at H
        have c6b0 := eq_true c6
        have c6b1 : decide (a1 ≤ (wrap64 (a1 + (a2.size : Int)))) = true := decide_eq_true c6
        have c7b0 := eq_true (of_decide_eq_true (by first | (with_reducible assumption) | assumption) : (wrap64 (a1 + (a2.size : Int))) ≤ (a0.size : Int))
        obtain rfl := Option.some.inj H
        go_enter Tryd.func37, Tryd.ntmps37
        go_wp2
        go_ret
        exact ⟨by first | rfl | (simp; done) | (simp [*]; done), by repeat (first | exact Drawn0.refl _ | apply Drawn0.step)⟩
      · rw [if_neg c6] at H
        exact absurd H (by simp)
    · rw [if_neg c5] at H
      exact absurd H (by simp)
  · rw [if_neg c4] at H
    have c4b0 : decide ((wrap64 (a1 + (a2.size : Int))) ≤ (a0.size : Int)) = false := decide_eq_false c4
    clear c4
    obtain rfl := Option.some.inj H
    go_enter Tryd.func37, Tryd.ntmps37
    go_wp2
    go_ret
    exact ⟨by first | rfl | (simp; done) | (simp [*]; done), by repeat (first | exact Drawn0.refl _ | apply Drawn0.step)⟩
/-! ### vestryref08_gap: function 19 -/
mutual
def vestryref08_gap.j0 : Nat → ByteArray → Int → Bool → Option (Int)
  | 0, _, _, _ => none
  | k + 1, x0, x1, x10 => if x10 = true then (some (wrap64 (x1 + 1))) else ((vestryref08_at.f x0 x1 (⟨#[47, 47]⟩ : ByteArray)).bind fun t102 => (if t102 = true then (vestryref08_gap.l0 k x0 x1) else ((vestryref08_at.f x0 x1 (⟨#[47, 42]⟩ : ByteArray)).bind fun t103 => (if t103 = true then (vestryref08_gap.l1 k x0 (wrap64 (x1 + 2))) else (some x1)))))
def vestryref08_gap.l0 : Nat → ByteArray → Int → Option (Int)
  | 0, _, _ => none
  | k + 1, x0, x1 => if x1 < (x0.size : Int) then (if 0 ≤ x1 then (if (bt x0 x1) = 10 then (some x1) else (vestryref08_gap.l0 k x0 (wrap64 (x1 + 1)))) else (none)) else (some x1)
def vestryref08_gap.l1 : Nat → ByteArray → Int → Option (Int)
  | 0, _, _ => none
  | k + 1, x0, x6 => if x6 < (x0.size : Int) then ((vestryref08_at.f x0 x6 (⟨#[42, 47]⟩ : ByteArray)).bind fun t104 => (if t104 = true then (some (wrap64 (x6 + 2))) else (vestryref08_gap.l1 k x0 (wrap64 (x6 + 1))))) else (some (-1))
end
def vestryref08_gap.f (k : Nat) (a0 : ByteArray) (a1 : Int) : Option (Int) := if 0 ≤ a1 then (if a1 < (a0.size : Int) then (if (bt a0 a1) = 32 then (vestryref08_gap.j0 k a0 a1 true) else (if (bt a0 a1) = 9 then (vestryref08_gap.j0 k a0 a1 true) else (if (bt a0 a1) = 10 then (vestryref08_gap.j0 k a0 a1 true) else (vestryref08_gap.j0 k a0 a1 ((bt a0 a1) == 13))))) else (none)) else (none)
theorem vestryref08_gap.mono_l : ∀ k, (∀ y0 y1 y2, LeO (vestryref08_gap.j0 k y0 y1 y2) (vestryref08_gap.j0 (k + 1) y0 y1 y2)) ∧ (∀ y0 y1, LeO (vestryref08_gap.l0 k y0 y1) (vestryref08_gap.l0 (k + 1) y0 y1)) ∧ (∀ y0 y1, LeO (vestryref08_gap.l1 k y0 y1) (vestryref08_gap.l1 (k + 1) y0 y1))
  | 0 => ⟨fun _ _ _ r h => by simp [vestryref08_gap.j0] at h, fun _ _ r h => by simp [vestryref08_gap.l0] at h, fun _ _ r h => by simp [vestryref08_gap.l1] at h⟩
  | k + 1 => by
    obtain ⟨ih0, ih1, ih2⟩ := vestryref08_gap.mono_l k
    refine ⟨?_, ?_, ?_⟩
    · intro y0 y1 y2
      unfold vestryref08_gap.j0
      repeat' first
      | (with_reducible exact ih0 _ _ _)
      | (with_reducible exact ih1 _ _)
      | (with_reducible exact ih2 _ _)
      | (with_reducible exact LeO.refl _)
      | (with_reducible exact LeO.none _)
      | (with_reducible refine LeO.ite ?_ ?_)
      | (with_reducible refine LeO.bind ?_ (fun _ => ?_))
      | exact ih0 _ _ _
      | exact ih1 _ _
      | exact ih2 _ _
      | exact LeO.none _
      | refine LeO.ite ?_ ?_
      | refine LeO.bind ?_ (fun _ => ?_)
    · intro y0 y1
      unfold vestryref08_gap.l0
      repeat' first
      | (with_reducible exact ih0 _ _ _)
      | (with_reducible exact ih1 _ _)
      | (with_reducible exact ih2 _ _)
      | (with_reducible exact LeO.refl _)
      | (with_reducible exact LeO.none _)
      | (with_reducible refine LeO.ite ?_ ?_)
      | (with_reducible refine LeO.bind ?_ (fun _ => ?_))
      | exact ih0 _ _ _
      | exact ih1 _ _
      | exact ih2 _ _
      | exact LeO.none _
      | refine LeO.ite ?_ ?_
      | refine LeO.bind ?_ (fun _ => ?_)
    · intro y0 y1
      unfold vestryref08_gap.l1
      repeat' first
      | (with_reducible exact ih0 _ _ _)
      | (with_reducible exact ih1 _ _)
      | (with_reducible exact ih2 _ _)
      | (with_reducible exact LeO.refl _)
      | (with_reducible exact LeO.none _)
      | (with_reducible refine LeO.ite ?_ ?_)
      | (with_reducible refine LeO.bind ?_ (fun _ => ?_))
      | exact ih0 _ _ _
      | exact ih1 _ _
      | exact ih2 _ _
      | exact LeO.none _
      | refine LeO.ite ?_ ?_
      | refine LeO.bind ?_ (fun _ => ?_)
theorem vestryref08_gap.mono : ∀ a0 a1 k, LeO (vestryref08_gap.f k a0 a1) (vestryref08_gap.f (k + 1) a0 a1) := by
  intro a0 a1 k
  obtain ⟨ih0, ih1, ih2⟩ := vestryref08_gap.mono_l k
  unfold vestryref08_gap.f
  repeat' first
      | (with_reducible exact ih0 _ _ _)
      | (with_reducible exact ih1 _ _)
      | (with_reducible exact ih2 _ _)
      | (with_reducible exact LeO.refl _)
      | (with_reducible exact LeO.none _)
      | (with_reducible refine LeO.ite ?_ ?_)
      | (with_reducible refine LeO.bind ?_ (fun _ => ?_))
      | exact ih0 _ _ _
      | exact ih1 _ _
      | exact ih2 _ _
      | exact LeO.none _
      | refine LeO.ite ?_ ?_
      | refine LeO.bind ?_ (fun _ => ?_)
set_option maxHeartbeats 8000000 in
set_option maxRecDepth 100000 in
theorem vestryref08_gap.calls (k : Nat) (a0 : ByteArray) (a1 : Int) (r : Int) (w : World) (h : vestryref08_gap.f k a0 a1 = some r) :
    Calls Tryd.prog 19 #[.string a0, .int .i64 a1] w fun e w' => e = .returned (.int .i64 r) ∧ Drawn0 w w' := by
  have H : (if 0 ≤ a1 then (if a1 < (a0.size : Int) then (if (bt a0 a1) = 32 then (vestryref08_gap.j0 k a0 a1 true) else (if (bt a0 a1) = 9 then (vestryref08_gap.j0 k a0 a1 true) else (if (bt a0 a1) = 10 then (vestryref08_gap.j0 k a0 a1 true) else (vestryref08_gap.j0 k a0 a1 ((bt a0 a1) == 13))))) else (none)) else (none)) = some r := h
  clear h
  by_cases c3 : 0 ≤ a1
  · rw [if_pos c3] at H
    have c3b0 : decide (0 ≤ a1) = true := decide_eq_true c3
    clear c3
    by_cases c4 : a1 < (a0.size : Int)
    · rw [if_pos c4] at H
      have c4b0 : decide (a1 < (a0.size : Int)) = true := decide_eq_true c4
      clear c4
      have HC6 := Aside0.mk H
      clear H
      have p5 : 0 ≤ (a1 : Int) := of_decide_eq_true (by first | (with_reducible assumption) | assumption)
      have q5 : a1 < (a0.size : Int) := of_decide_eq_true (by first | (with_reducible assumption) | assumption)
      have hx5 := bt_at a0 a1
      replace p5 := eq_true p5
      replace q5 := eq_true q5
      go_enter Tryd.func19, Tryd.ntmps19
      go_upto_region 2 with (fail)
      go_cut [10] (fun v10 wc => ∃ (kq : Nat) (x10_5 : Bool), v10 = .bool x10_5 ∧ Aside0 (vestryref08_gap.j0 kq a0 a1 x10_5 = some r) ∧ Aside0 (kq ≤ k) ∧ Drawn0 w wc)
      case first =>
        have H := HC6.out
        clear HC6
        by_cases c7 : (bt a0 a1) = 32
        · rw [if_pos c7] at H
          have c7b0 : ((bt a0 a1) == 32) = true := beq_iff_eq.mpr c7
          have c7b1 : ((bt a0 a1) != 32) = false := bne_eq_false_iff_eq.mpr c7
          clear c7
          (first | rw [c7b0] | (simp only [i64_w, i32_w]; rw [c7b0]) | skip)
          have H' := Aside0.mk H
          clear H
          go_wp2
          go_meet
          case rel => exact ⟨_, (true), (by first | rfl | (simp; done) | (simp [*]; done)), H', ⟨by first | omega | exact Nat.le_refl _⟩, by repeat (first | exact Drawn0.refl _ | apply Drawn0.step)⟩
        · rw [if_neg c7] at H
          have c7b0 : ((bt a0 a1) == 32) = false := beq_eq_false_iff_ne.mpr c7
          have c7b1 : ((bt a0 a1) != 32) = true := bne_iff_ne.mpr c7
          (first | rw [c7b0] | (simp only [i64_w, i32_w]; rw [c7b0]) | skip)
          by_cases c8 : (bt a0 a1) = 9
          · rw [if_pos c8] at H
            have c8b0 : ((bt a0 a1) == 9) = true := beq_iff_eq.mpr c8
            have c8b1 : ((bt a0 a1) != 9) = false := bne_eq_false_iff_eq.mpr c8
            clear c8
            have H' := Aside0.mk H
            clear H
            go_wp2
            go_meet
            case rel => exact ⟨_, (true), (by first | rfl | (simp; done) | (simp [*]; done)), H', ⟨by first | omega | exact Nat.le_refl _⟩, by repeat (first | exact Drawn0.refl _ | apply Drawn0.step)⟩
          · rw [if_neg c8] at H
            have c8b0 : ((bt a0 a1) == 9) = false := beq_eq_false_iff_ne.mpr c8
            have c8b1 : ((bt a0 a1) != 9) = true := bne_iff_ne.mpr c8
            by_cases c9 : (bt a0 a1) = 10
            · rw [if_pos c9] at H
              have c9b0 : ((bt a0 a1) == 10) = true := beq_iff_eq.mpr c9
              have c9b1 : ((bt a0 a1) != 10) = false := bne_eq_false_iff_eq.mpr c9
              clear c9
              have H' := Aside0.mk H
              clear H
              go_wp2
              go_meet
              case rel => exact ⟨_, (true), (by first | rfl | (simp; done) | (simp [*]; done)), H', ⟨by first | omega | exact Nat.le_refl _⟩, by repeat (first | exact Drawn0.refl _ | apply Drawn0.step)⟩
            · rw [if_neg c9] at H
              have c9b0 : ((bt a0 a1) == 10) = false := beq_eq_false_iff_ne.mpr c9
              have c9b1 : ((bt a0 a1) != 10) = true := bne_iff_ne.mpr c9
              have H' := Aside0.mk H
              clear H
              go_wp2
              go_meet
              case rel => exact ⟨_, (((bt a0 a1) == 13)), (by first | rfl | (simp; done) | (simp [*]; done)), H', ⟨by first | omega | exact Nat.le_refl _⟩, by repeat (first | exact Drawn0.refl _ | apply Drawn0.step)⟩
      case rest =>
        clear HC6
        try clear c1
        try clear p2
        try clear c3
        try clear c3b0
        try clear c4
        try clear c4b0
        try clear p5
        try clear q5
        try clear hx5
        try clear c7
        try clear c7b0
        try clear c7b1
        try clear c8
        try clear c8b0
        try clear c8b1
        try clear c9
        try clear c9b0
        try clear c9b1
        try clear p5
        try clear q5
        obtain ⟨kq, x10_5, rfl, HA, HJ5, ⟨mc5, rfl⟩⟩ := hcut
        cases kq with
        | zero => exact absurd HA.out (by simp [vestryref08_gap.j0])
        | succ kj5 =>
          have H := HA.out
          clear HA
          simp only [vestryref08_gap.j0] at H
          by_cases c10 : x10_5 = true
          · subst c10
            have H1 : (some (wrap64 (a1 + 1))) = some r := by rw [if_pos rfl] at H; exact H
            clear H
            have H := H1
            clear H1
            obtain rfl := Option.some.inj H
            go_wp2
            go_ret
            exact ⟨by first | rfl | (simp; done) | (simp [*]; done), by repeat (first | exact Drawn0.refl _ | apply Drawn0.step)⟩
          · replace c10 := Bool.eq_false_iff.mpr c10
            subst c10
            have H1 : ((vestryref08_at.f a0 a1 (⟨#[47, 47]⟩ : ByteArray)).bind fun t102 => (if t102 = true then (vestryref08_gap.l0 kj5 a0 a1) else ((vestryref08_at.f a0 a1 (⟨#[47, 42]⟩ : ByteArray)).bind fun t103 => (if t103 = true then (vestryref08_gap.l1 kj5 a0 (wrap64 (a1 + 2))) else (some a1))))) = some r := by rw [if_neg (show ¬ (false = true) by decide)] at H; exact H
            clear H
            have H := H1
            clear H1
            replace H := Option.bind_eq_some_iff.mp H
            obtain ⟨t102, A110, H⟩ := H
            replace H : (if t102 = true then (vestryref08_gap.l0 kj5 a0 a1) else ((vestryref08_at.f a0 a1 (⟨#[47, 42]⟩ : ByteArray)).bind fun t103 => (if t103 = true then (vestryref08_gap.l1 kj5 a0 (wrap64 (a1 + 2))) else (some a1)))) = some r := H
            have A11 := Aside0.mk A110
            clear A110
            by_cases c12 : t102 = true
            · subst c12
              have H1 : (vestryref08_gap.l0 kj5 a0 a1) = some r := by rw [if_pos rfl] at H; exact H
              clear H
              have H := H1
              clear H1
              have H' := Aside0.mk H
              clear H
              go_wp2_with (first | ((with_reducible refine gate_callee (f := 37) rfl ?_); refine goesL_ (some 30) rfl rfl Tryd.func37 (by kernel_rfl) rfl #[.string a0, .int .i64 a1, .string (⟨#[47, 47]⟩ : ByteArray)] rfl (by (try simp only [List.map_toArray, List.map_cons, List.map_nil]); first | done | rfl | (simp only [List.length_drop, List.length_take]; rfl)) ?_; (with_reducible refine (vestryref08_at.calls a0 a1 (⟨#[47, 47]⟩ : ByteArray) true _ A11.out).mono ?_); rintro e w' ⟨rfl, ⟨nd, rfl⟩⟩; refine ⟨_, rfl, ?_⟩))
              go_loopg [1] kj5 (fun kq v1 w' => ∃ (x1_2 : Int), v1 = .int .i64 x1_2 ∧ Aside0 (vestryref08_gap.l0 kq a0 x1_2 = some r) ∧ Aside0 (kq ≤ kj5) ∧ Drawn0 w w')
              case atStart => exact ⟨(a1), (by first | rfl | (simp; done) | (simp [*]; done)), H', ⟨Nat.le_refl _⟩, by repeat (first | exact Drawn0.refl _ | apply Drawn0.step)⟩
              case round =>
                clear H'
                try clear c1
                try clear p2
                try clear c3
                try clear c3b0
                try clear c4
                try clear c4b0
                try clear c5
                try clear p5
                try clear q5
                try clear hx5
                try clear p6
                try clear c7
                try clear c7b0
                try clear c7b1
                try clear c8
                try clear c8b0
                try clear c8b1
                try clear c9
                try clear c9b0
                try clear c9b1
                try clear c10
                try clear c12
                try clear p2
                try clear p5
                try clear q5
                obtain ⟨x1_2, rfl, HA, HK2, ⟨m2, rfl⟩⟩ := hrel
                cases gk with
                | zero => exact absurd HA.out (by simp [vestryref08_gap.l0])
                | succ k2 =>
                  have H := HA.out
                  clear HA
                  simp only [vestryref08_gap.l0] at H
                  by_cases c13 : x1_2 < (a0.size : Int)
                  · rw [if_pos c13] at H
                    have c13b0 : decide (x1_2 < (a0.size : Int)) = true := decide_eq_true c13
                    clear c13
                    by_cases c14 : 0 ≤ x1_2
                    · rw [if_pos c14] at H
                      have c14b0 : decide (0 ≤ x1_2) = true := decide_eq_true c14
                      clear c14
                      by_cases c16 : (bt a0 x1_2) = 10
                      · rw [if_pos c16] at H
                        have c16b0 : ((bt a0 x1_2) == 10) = true := beq_iff_eq.mpr c16
                        have c16b1 : ((bt a0 x1_2) != 10) = false := bne_eq_false_iff_eq.mpr c16
                        clear c16
                        obtain rfl := Option.some.inj H
                        have p15 : 0 ≤ (x1_2 : Int) := of_decide_eq_true (by first | (with_reducible assumption) | assumption)
                        have q15 : x1_2 < (a0.size : Int) := of_decide_eq_true (by first | (with_reducible assumption) | assumption)
                        have hx15 := bt_at a0 x1_2
                        replace p15 := eq_true p15
                        replace q15 := eq_true q15
                        go_wp2
                        go_ret
                        exact ⟨by first | rfl | (simp; done) | (simp [*]; done), by repeat (first | exact Drawn0.refl _ | apply Drawn0.step)⟩
                      · rw [if_neg c16] at H
                        have c16b0 : ((bt a0 x1_2) == 10) = false := beq_eq_false_iff_ne.mpr c16
                        have c16b1 : ((bt a0 x1_2) != 10) = true := bne_iff_ne.mpr c16
                        have H' := Aside0.mk H
                        clear H
                        have p15 : 0 ≤ (x1_2 : Int) := of_decide_eq_true (by first | (with_reducible assumption) | assumption)
                        have q15 : x1_2 < (a0.size : Int) := of_decide_eq_true (by first | (with_reducible assumption) | assumption)
                        have hx15 := bt_at a0 x1_2
                        replace p15 := eq_true p15
                        replace q15 := eq_true q15
                        go_wp2
                        go_roundg k2
                        case measure => have := HJ5.out; have := HK2.out; omega
                        case rel => exact ⟨(wrap64 (x1_2 + 1)), (by first | rfl | (simp; done) | (simp [*]; done)), H', ⟨by have := HJ5.out; have := HK2.out; omega⟩, by repeat (first | exact Drawn0.refl _ | apply Drawn0.step)⟩
                    · rw [if_neg c14] at H
                      exact absurd H (by simp)
                  · rw [if_neg c13] at H
                    have c13b0 : decide (x1_2 < (a0.size : Int)) = false := decide_eq_false c13
                    clear c13
                    obtain rfl := Option.some.inj H
                    go_wp2
                    go_ret
                    exact ⟨by first | rfl | (simp; done) | (simp [*]; done), by repeat (first | exact Drawn0.refl _ | apply Drawn0.step)⟩
            · replace c12 := Bool.eq_false_iff.mpr c12
              subst c12
              have H1 : ((vestryref08_at.f a0 a1 (⟨#[47, 42]⟩ : ByteArray)).bind fun t103 => (if t103 = true then (vestryref08_gap.l1 kj5 a0 (wrap64 (a1 + 2))) else (some a1))) = some r := by rw [if_neg (show ¬ (false = true) by decide)] at H; exact H
              clear H
              have H := H1
              clear H1
              replace H := Option.bind_eq_some_iff.mp H
              obtain ⟨t103, A170, H⟩ := H
              replace H : (if t103 = true then (vestryref08_gap.l1 kj5 a0 (wrap64 (a1 + 2))) else (some a1)) = some r := H
              have A17 := Aside0.mk A170
              clear A170
              by_cases c18 : t103 = true
              · subst c18
                have H1 : (vestryref08_gap.l1 kj5 a0 (wrap64 (a1 + 2))) = some r := by rw [if_pos rfl] at H; exact H
                clear H
                have H := H1
                clear H1
                have H' := Aside0.mk H
                clear H
                go_wp2_with (first | ((with_reducible refine gate_callee (f := 37) rfl ?_); refine goesL_ (some 30) rfl rfl Tryd.func37 (by kernel_rfl) rfl #[.string a0, .int .i64 a1, .string (⟨#[47, 47]⟩ : ByteArray)] rfl (by (try simp only [List.map_toArray, List.map_cons, List.map_nil]); first | done | rfl | (simp only [List.length_drop, List.length_take]; rfl)) ?_; (with_reducible refine (vestryref08_at.calls a0 a1 (⟨#[47, 47]⟩ : ByteArray) false _ A11.out).mono ?_); rintro e w' ⟨rfl, ⟨nd, rfl⟩⟩; refine ⟨_, rfl, ?_⟩) | ((with_reducible refine gate_callee (f := 37) rfl ?_); refine goesL_ (some 46) rfl rfl Tryd.func37 (by kernel_rfl) rfl #[.string a0, .int .i64 a1, .string (⟨#[47, 42]⟩ : ByteArray)] rfl (by (try simp only [List.map_toArray, List.map_cons, List.map_nil]); first | done | rfl | (simp only [List.length_drop, List.length_take]; rfl)) ?_; (with_reducible refine (vestryref08_at.calls a0 a1 (⟨#[47, 42]⟩ : ByteArray) true _ A17.out).mono ?_); rintro e w' ⟨rfl, ⟨nd, rfl⟩⟩; refine ⟨_, rfl, ?_⟩))
                go_loopg [6] kj5 (fun kq v6 w' => ∃ (x6_2 : Int), v6 = .int .i64 x6_2 ∧ Aside0 (vestryref08_gap.l1 kq a0 x6_2 = some r) ∧ Aside0 (kq ≤ kj5) ∧ Drawn0 w w')
                case atStart => exact ⟨(wrap64 (a1 + 2)), (by first | rfl | (simp; done) | (simp [*]; done)), H', ⟨Nat.le_refl _⟩, by repeat (first | exact Drawn0.refl _ | apply Drawn0.step)⟩
                case round =>
                  clear H'
                  try clear c1
                  try clear p1
                  try clear q1
                  try clear hx1
                  try clear p2
                  try clear c3
                  try clear c3b0
                  try clear c4
                  try clear c4b0
                  try clear c5
                  try clear p5
                  try clear q5
                  try clear hx5
                  try clear p6
                  try clear c7
                  try clear c7b0
                  try clear c7b1
                  try clear c8
                  try clear c8b0
                  try clear c8b1
                  try clear c9
                  try clear c9b0
                  try clear c9b1
                  try clear c10
                  try clear c12
                  try clear c13
                  try clear c13b0
                  try clear c14
                  try clear c14b0
                  try clear p15
                  try clear q15
                  try clear hx15
                  try clear c16
                  try clear c16b0
                  try clear c16b1
                  try clear c18
                  try clear p15
                  try clear p2
                  try clear p5
                  try clear p6
                  try clear q15
                  try clear q5
                  obtain ⟨x6_2, rfl, HA, HK2, ⟨m2, rfl⟩⟩ := hrel
                  cases gk with
                  | zero => exact absurd HA.out (by simp [vestryref08_gap.l1])
                  | succ k2 =>
                    have H := HA.out
                    clear HA
                    simp only [vestryref08_gap.l1] at H
                    by_cases c19 : x6_2 < (a0.size : Int)
                    · rw [if_pos c19] at H
                      have c19b0 : decide (x6_2 < (a0.size : Int)) = true := decide_eq_true c19
                      clear c19
                      replace H := Option.bind_eq_some_iff.mp H
                      obtain ⟨t104, A200, H⟩ := H
                      replace H : (if t104 = true then (some (wrap64 (x6_2 + 2))) else (vestryref08_gap.l1 k2 a0 (wrap64 (x6_2 + 1)))) = some r := H
                      have A20 := Aside0.mk A200
                      clear A200
                      by_cases c21 : t104 = true
                      · subst c21
                        have H1 : (some (wrap64 (x6_2 + 2))) = some r := by rw [if_pos rfl] at H; exact H
                        clear H
                        have H := H1
                        clear H1
                        obtain rfl := Option.some.inj H
                        go_wp2_with (first | ((with_reducible refine gate_callee (f := 37) rfl ?_); refine goesL_ (some 57) rfl rfl Tryd.func37 (by kernel_rfl) rfl #[.string a0, .int .i64 x6_2, .string (⟨#[42, 47]⟩ : ByteArray)] rfl (by (try simp only [List.map_toArray, List.map_cons, List.map_nil]); first | done | rfl | (simp only [List.length_drop, List.length_take]; rfl)) ?_; (with_reducible refine (vestryref08_at.calls a0 x6_2 (⟨#[42, 47]⟩ : ByteArray) true _ A20.out).mono ?_); rintro e w' ⟨rfl, ⟨nd, rfl⟩⟩; refine ⟨_, rfl, ?_⟩))
                        go_ret
                        exact ⟨by first | rfl | (simp; done) | (simp [*]; done), by repeat (first | exact Drawn0.refl _ | apply Drawn0.step)⟩
                      · replace c21 := Bool.eq_false_iff.mpr c21
                        subst c21
                        have H1 : (vestryref08_gap.l1 k2 a0 (wrap64 (x6_2 + 1))) = some r := by rw [if_neg (show ¬ (false = true) by decide)] at H; exact H
                        clear H
                        have H := H1
                        clear H1
                        have H' := Aside0.mk H
                        clear H
                        go_wp2_with (first | ((with_reducible refine gate_callee (f := 37) rfl ?_); refine goesL_ (some 57) rfl rfl Tryd.func37 (by kernel_rfl) rfl #[.string a0, .int .i64 x6_2, .string (⟨#[42, 47]⟩ : ByteArray)] rfl (by (try simp only [List.map_toArray, List.map_cons, List.map_nil]); first | done | rfl | (simp only [List.length_drop, List.length_take]; rfl)) ?_; (with_reducible refine (vestryref08_at.calls a0 x6_2 (⟨#[42, 47]⟩ : ByteArray) false _ A20.out).mono ?_); rintro e w' ⟨rfl, ⟨nd, rfl⟩⟩; refine ⟨_, rfl, ?_⟩))
                        go_roundg k2
                        case measure => have := HJ5.out; have := HK2.out; omega
                        case rel => exact ⟨(wrap64 (x6_2 + 1)), (by first | rfl | (simp; done) | (simp [*]; done)), H', ⟨by have := HJ5.out; have := HK2.out; omega⟩, by repeat (first | exact Drawn0.refl _ | apply Drawn0.step)⟩
                    · rw [if_neg c19] at H
                      have c19b0 : decide (x6_2 < (a0.size : Int)) = false := decide_eq_false c19
                      clear c19
                      obtain rfl := Option.some.inj H
                      go_wp2
                      go_ret
                      exact ⟨by first | rfl | (simp; done) | (simp [*]; done), by repeat (first | exact Drawn0.refl _ | apply Drawn0.step)⟩
              · replace c18 := Bool.eq_false_iff.mpr c18
                subst c18
                have H1 : (some a1) = some r := by rw [if_neg (show ¬ (false = true) by decide)] at H; exact H
                clear H
                have H := H1
                clear H1
                obtain rfl := Option.some.inj H
                go_wp2_with (first | ((with_reducible refine gate_callee (f := 37) rfl ?_); refine goesL_ (some 30) rfl rfl Tryd.func37 (by kernel_rfl) rfl #[.string a0, .int .i64 a1, .string (⟨#[47, 47]⟩ : ByteArray)] rfl (by (try simp only [List.map_toArray, List.map_cons, List.map_nil]); first | done | rfl | (simp only [List.length_drop, List.length_take]; rfl)) ?_; (with_reducible refine (vestryref08_at.calls a0 a1 (⟨#[47, 47]⟩ : ByteArray) false _ A11.out).mono ?_); rintro e w' ⟨rfl, ⟨nd, rfl⟩⟩; refine ⟨_, rfl, ?_⟩) | ((with_reducible refine gate_callee (f := 37) rfl ?_); refine goesL_ (some 46) rfl rfl Tryd.func37 (by kernel_rfl) rfl #[.string a0, .int .i64 a1, .string (⟨#[47, 42]⟩ : ByteArray)] rfl (by (try simp only [List.map_toArray, List.map_cons, List.map_nil]); first | done | rfl | (simp only [List.length_drop, List.length_take]; rfl)) ?_; (with_reducible refine (vestryref08_at.calls a0 a1 (⟨#[47, 42]⟩ : ByteArray) false _ A17.out).mono ?_); rintro e w' ⟨rfl, ⟨nd, rfl⟩⟩; refine ⟨_, rfl, ?_⟩))
                go_ret
                exact ⟨by first | rfl | (simp; done) | (simp [*]; done), by repeat (first | exact Drawn0.refl _ | apply Drawn0.step)⟩
    · rw [if_neg c4] at H
      exact absurd H (by simp)
  · rw [if_neg c3] at H
    exact absurd H (by simp)
def vestryref03_Digit.f (a0 : Int) : Option (Bool) := if a0 ≥ 48 then (some (decide (a0 ≤ 57))) else (some false)
set_option maxHeartbeats 8000000 in
set_option maxRecDepth 100000 in
theorem vestryref03_Digit.calls (a0 : Int) (r : Bool) (w : World) (h : vestryref03_Digit.f a0 = some r) :
    Calls Tryd.prog 21 #[.int .u8 a0] w fun e w' => e = .returned (.bool r) ∧ Drawn0 w w' := by
  have H : (if a0 ≥ 48 then (some (decide (a0 ≤ 57))) else (some false)) = some r := h
  clear h
  by_cases c2 : a0 ≥ 48
  · rw [if_pos c2] at H
    have c2b0 : decide (48 ≤ a0) = true := decide_eq_true c2
    clear c2
    obtain rfl := Option.some.inj H
    go_enter Tryd.func21, Tryd.ntmps21
    go_wp2
    go_ret
    exact ⟨by first | rfl | (simp; done) | (simp [*]; done), by repeat (first | exact Drawn0.refl _ | apply Drawn0.step)⟩
  · rw [if_neg c2] at H
    have c2b0 : decide (48 ≤ a0) = false := decide_eq_false c2
    clear c2
    obtain rfl := Option.some.inj H
    go_enter Tryd.func21, Tryd.ntmps21
    go_wp2
    go_ret
    exact ⟨by first | rfl | (simp; done) | (simp [*]; done), by repeat (first | exact Drawn0.refl _ | apply Drawn0.step)⟩
def vestryref03_Letter.f (a0 : Int) : Option (Bool) := if a0 = 95 then (some true) else (if a0 ≥ 97 then (if a0 ≤ 122 then (some true) else (if a0 ≥ 65 then (some (decide (a0 ≤ 90))) else (some false))) else (if a0 ≥ 65 then (some (decide (a0 ≤ 90))) else (some false)))
set_option maxHeartbeats 8000000 in
set_option maxRecDepth 100000 in
theorem vestryref03_Letter.calls (a0 : Int) (r : Bool) (w : World) (h : vestryref03_Letter.f a0 = some r) :
    Calls Tryd.prog 38 #[.int .u8 a0] w fun e w' => e = .returned (.bool r) ∧ Drawn0 w w' := by
  have H : (if a0 = 95 then (some true) else (if a0 ≥ 97 then (if a0 ≤ 122 then (some true) else (if a0 ≥ 65 then (some (decide (a0 ≤ 90))) else (some false))) else (if a0 ≥ 65 then (some (decide (a0 ≤ 90))) else (some false)))) = some r := h
  clear h
  by_cases c2 : a0 = 95
  · rw [if_pos c2] at H
    have c2b0 : (a0 == 95) = true := beq_iff_eq.mpr c2
    have c2b1 : (a0 != 95) = false := bne_eq_false_iff_eq.mpr c2
    clear c2
    obtain rfl := Option.some.inj H
    go_enter Tryd.func38, Tryd.ntmps38
    go_wp2
    go_ret
    exact ⟨by first | rfl | (simp; done) | (simp [*]; done), by repeat (first | exact Drawn0.refl _ | apply Drawn0.step)⟩
  · rw [if_neg c2] at H
    have c2b0 : (a0 == 95) = false := beq_eq_false_iff_ne.mpr c2
    have c2b1 : (a0 != 95) = true := bne_iff_ne.mpr c2
    by_cases c3 : a0 ≥ 97
    · rw [if_pos c3] at H
      have c3b0 : decide (97 ≤ a0) = true := decide_eq_true c3
      clear c3
      by_cases c4 : a0 ≤ 122
      · rw [if_pos c4] at H
        have c4b0 : decide (a0 ≤ 122) = true := decide_eq_true c4
        clear c4
        obtain rfl := Option.some.inj H
        go_enter Tryd.func38, Tryd.ntmps38
        go_wp2
        go_ret
        exact ⟨by first | rfl | (simp; done) | (simp [*]; done), by repeat (first | exact Drawn0.refl _ | apply Drawn0.step)⟩
      · rw [if_neg c4] at H
        have c4b0 : decide (a0 ≤ 122) = false := decide_eq_false c4
        clear c4
        by_cases c5 : a0 ≥ 65
        · rw [if_pos c5] at H
          have c5b0 : decide (65 ≤ a0) = true := decide_eq_true c5
          clear c5
          obtain rfl := Option.some.inj H
          go_enter Tryd.func38, Tryd.ntmps38
          go_wp2
          go_ret
          exact ⟨by first | rfl | (simp; done) | (simp [*]; done), by repeat (first | exact Drawn0.refl _ | apply Drawn0.step)⟩
        · rw [if_neg c5] at H
          have c5b0 : decide (65 ≤ a0) = false := decide_eq_false c5
          clear c5
          obtain rfl := Option.some.inj H
          go_enter Tryd.func38, Tryd.ntmps38
          go_wp2
          go_ret
          exact ⟨by first | rfl | (simp; done) | (simp [*]; done), by repeat (first | exact Drawn0.refl _ | apply Drawn0.step)⟩
    · rw [if_neg c3] at H
      have c3b0 : decide (97 ≤ a0) = false := decide_eq_false c3
      clear c3
      by_cases c6 : a0 ≥ 65
      · rw [if_pos c6] at H
        have c6b0 : decide (65 ≤ a0) = true := decide_eq_true c6
        clear c6
        obtain rfl := Option.some.inj H
        go_enter Tryd.func38, Tryd.ntmps38
        go_wp2
        go_ret
        exact ⟨by first | rfl | (simp; done) | (simp [*]; done), by repeat (first | exact Drawn0.refl _ | apply Drawn0.step)⟩
      · rw [if_neg c6] at H
        have c6b0 : decide (65 ≤ a0) = false := decide_eq_false c6
        clear c6
        obtain rfl := Option.some.inj H
        go_enter Tryd.func38, Tryd.ntmps38
        go_wp2
        go_ret
        exact ⟨by first | rfl | (simp; done) | (simp [*]; done), by repeat (first | exact Drawn0.refl _ | apply Drawn0.step)⟩
def vestryref08_word.l0 : Nat → ByteArray → Int → Int → Option (Int)
  | 0, _, _, _ => none
  | k + 1, x0, x1, x5 => if (wrap64 (x1 + x5)) < (x0.size : Int) then (if 0 ≤ (wrap64 (x1 + x5)) then ((vestryref03_Letter.f (bt x0 (wrap64 (x1 + x5)))).bind fun t105 => (if t105 = true then (vestryref08_word.l0 k x0 x1 (wrap64 (x5 + 1))) else (if x5 > 0 then ((vestryref03_Digit.f (bt x0 (wrap64 (x1 + x5)))).bind fun t106 => (if t106 = true then (vestryref08_word.l0 k x0 x1 (wrap64 (x5 + 1))) else (some x5))) else (some x5)))) else (none)) else (some x5)
def vestryref08_word.f (k : Nat) (a0 : ByteArray) (a1 : Int) : Option (Int) := vestryref08_word.l0 k a0 a1 0
theorem vestryref08_word.mono_l : ∀ k, (∀ y0 y1 y2, LeO (vestryref08_word.l0 k y0 y1 y2) (vestryref08_word.l0 (k + 1) y0 y1 y2))
  | 0 => fun _ _ _ r h => by simp [vestryref08_word.l0] at h
  | k + 1 => by
    have ih0 := vestryref08_word.mono_l k
    · intro y0 y1 y2
      unfold vestryref08_word.l0
      repeat' first
      | (with_reducible exact ih0 _ _ _)
      | (with_reducible exact LeO.refl _)
      | (with_reducible exact LeO.none _)
      | (with_reducible refine LeO.ite ?_ ?_)
      | (with_reducible refine LeO.bind ?_ (fun _ => ?_))
      | exact ih0 _ _ _
      | exact LeO.none _
      | refine LeO.ite ?_ ?_
      | refine LeO.bind ?_ (fun _ => ?_)
theorem vestryref08_word.mono : ∀ a0 a1 k, LeO (vestryref08_word.f k a0 a1) (vestryref08_word.f (k + 1) a0 a1) := by
  intro a0 a1 k
  have ih0 := vestryref08_word.mono_l k
  unfold vestryref08_word.f
  repeat' first
      | (with_reducible exact ih0 _ _ _)
      | (with_reducible exact LeO.refl _)
      | (with_reducible exact LeO.none _)
      | (with_reducible refine LeO.ite ?_ ?_)
      | (with_reducible refine LeO.bind ?_ (fun _ => ?_))
      | exact ih0 _ _ _
      | exact LeO.none _
      | refine LeO.ite ?_ ?_
      | refine LeO.bind ?_ (fun _ => ?_)
set_option maxHeartbeats 8000000 in
set_option maxRecDepth 100000 in
theorem vestryref08_word.calls (k : Nat) (a0 : ByteArray) (a1 : Int) (r : Int) (w : World) (h : vestryref08_word.f k a0 a1 = some r) :
    Calls Tryd.prog 26 #[.string a0, .int .i64 a1] w fun e w' => e = .returned (.int .i64 r) ∧ Drawn0 w w' := by
  have H : (vestryref08_word.l0 k a0 a1 0) = some r := h
  clear h
  have H' := Aside0.mk H
  clear H
  go_enter Tryd.func26, Tryd.ntmps26
  go_wp2
  go_loopg [5] k (fun kq v5 w' => ∃ (x5_1 : Int), v5 = .int .i64 x5_1 ∧ Aside0 (vestryref08_word.l0 kq a0 a1 x5_1 = some r) ∧ Aside0 (kq ≤ k) ∧ Drawn0 w w')
  case atStart => exact ⟨(0), (by first | rfl | (simp; done) | (simp [*]; done)), H', ⟨Nat.le_refl _⟩, by repeat (first | exact Drawn0.refl _ | apply Drawn0.step)⟩
  case round =>
    clear H'
    try clear c2
    try clear p2
    obtain ⟨x5_1, rfl, HA, HK1, ⟨m1, rfl⟩⟩ := hrel
    cases gk with
    | zero => exact absurd HA.out (by simp [vestryref08_word.l0])
    | succ k1 =>
      have H := HA.out
      clear HA
      simp only [vestryref08_word.l0] at H
      by_cases c3 : (wrap64 (a1 + x5_1)) < (a0.size : Int)
      · rw [if_pos c3] at H
        have c3b0 : decide ((wrap64 (a1 + x5_1)) < (a0.size : Int)) = true := decide_eq_true c3
        clear c3
        obtain ⟨ji4, hji4⟩ : ∃ j_ : Int, (wrap64 (a1 + x5_1)) = j_ := ⟨_, rfl⟩
        replace H : (if 0 ≤ (ji4) then ((vestryref03_Letter.f (bt a0 (ji4))).bind fun t105 => (if t105 = true then (vestryref08_word.l0 k1 a0 a1 (wrap64 (x5_1 + 1))) else (if x5_1 > 0 then ((vestryref03_Digit.f (bt a0 (ji4))).bind fun t106 => (if t106 = true then (vestryref08_word.l0 k1 a0 a1 (wrap64 (x5_1 + 1))) else (some x5_1))) else (some x5_1)))) else (none)) = some r := by first | (rw [hji4] at H; exact H) | (simp only [hji4] at H ⊢; exact H)
        (try rw [hji4] at c3b0)
        have hji4w : (IntKind.i64.wrap (a1 + x5_1)) = ji4 := (i64_w _).trans hji4
        by_cases c5 : 0 ≤ (ji4)
        · rw [if_pos c5] at H
          have c5b0 : decide (0 ≤ (ji4)) = true := decide_eq_true c5
          clear c5
          replace H := Option.bind_eq_some_iff.mp H
          obtain ⟨t105, A70, H⟩ := H
          replace H : (if t105 = true then (vestryref08_word.l0 k1 a0 a1 (wrap64 (x5_1 + 1))) else (if x5_1 > 0 then ((vestryref03_Digit.f (bt a0 (ji4))).bind fun t106 => (if t106 = true then (vestryref08_word.l0 k1 a0 a1 (wrap64 (x5_1 + 1))) else (some x5_1))) else (some x5_1))) = some r := H
          have A7 := Aside0.mk A70
          clear A70
          by_cases c8 : t105 = true
          · subst c8
            have H1 : (vestryref08_word.l0 k1 a0 a1 (wrap64 (x5_1 + 1))) = some r := by rw [if_pos rfl] at H; exact H
            clear H
            have H := H1
            clear H1
            have H' := Aside0.mk H
            clear H
            have p6 : 0 ≤ ((ji4) : Int) := of_decide_eq_true (by first | (with_reducible assumption) | assumption)
            have q6 : (ji4) < (a0.size : Int) := of_decide_eq_true (by first | (with_reducible assumption) | assumption)
            have hx6 := bt_at a0 (ji4)
            replace p6 := eq_true p6
            replace q6 := eq_true q6
            go_wp2_with (first | (go_at_call 38; (with_reducible refine (vestryref03_Letter.calls (bt a0 (ji4)) true _ A7.out).mono ?_); rintro e w' ⟨rfl, ⟨nd, rfl⟩⟩))
            go_roundg k1
            case measure => have := HK1.out; omega
            case rel => exact ⟨(wrap64 (x5_1 + 1)), (by first | rfl | (simp; done) | (simp [*]; done)), H', ⟨by have := HK1.out; omega⟩, by repeat (first | exact Drawn0.refl _ | apply Drawn0.step)⟩
          · replace c8 := Bool.eq_false_iff.mpr c8
            subst c8
            have H1 : (if x5_1 > 0 then ((vestryref03_Digit.f (bt a0 (ji4))).bind fun t106 => (if t106 = true then (vestryref08_word.l0 k1 a0 a1 (wrap64 (x5_1 + 1))) else (some x5_1))) else (some x5_1)) = some r := by rw [if_neg (show ¬ (false = true) by decide)] at H; exact H
            clear H
            have H := H1
            clear H1
            by_cases c9 : x5_1 > 0
            · rw [if_pos c9] at H
              have c9b0 : decide (0 < x5_1) = true := decide_eq_true c9
              clear c9
              replace H := Option.bind_eq_some_iff.mp H
              obtain ⟨t106, A110, H⟩ := H
              replace H : (if t106 = true then (vestryref08_word.l0 k1 a0 a1 (wrap64 (x5_1 + 1))) else (some x5_1)) = some r := H
              have A11 := Aside0.mk A110
              clear A110
              by_cases c12 : t106 = true
              · subst c12
                have H1 : (vestryref08_word.l0 k1 a0 a1 (wrap64 (x5_1 + 1))) = some r := by rw [if_pos rfl] at H; exact H
                clear H
                have H := H1
                clear H1
                have H' := Aside0.mk H
                clear H
                have p6 : 0 ≤ ((ji4) : Int) := of_decide_eq_true (by first | (with_reducible assumption) | assumption)
                have q6 : (ji4) < (a0.size : Int) := of_decide_eq_true (by first | (with_reducible assumption) | assumption)
                have hx6 := bt_at a0 (ji4)
                replace p6 := eq_true p6
                replace q6 := eq_true q6
                go_wp2_with (first | (go_at_call 38; (with_reducible refine (vestryref03_Letter.calls (bt a0 (ji4)) false _ A7.out).mono ?_); rintro e w' ⟨rfl, ⟨nd, rfl⟩⟩; have p10 : 0 ≤ ((ji4) : Int) := of_decide_eq_true (by first | (with_reducible assumption) | assumption); have q10 : (ji4) < (a0.size : Int) := of_decide_eq_true (by first | (with_reducible assumption) | assumption); have hx10 := bt_at a0 (ji4); replace p10 := eq_true p10; replace q10 := eq_true q10) | (go_at_call 21; (with_reducible refine (vestryref03_Digit.calls (bt a0 (ji4)) true _ A11.out).mono ?_); rintro e w' ⟨rfl, ⟨nd, rfl⟩⟩))
                go_roundg k1
                case measure => have := HK1.out; omega
                case rel => exact ⟨(wrap64 (x5_1 + 1)), (by first | rfl | (simp; done) | (simp [*]; done)), H', ⟨by have := HK1.out; omega⟩, by repeat (first | exact Drawn0.refl _ | apply Drawn0.step)⟩
              · replace c12 := Bool.eq_false_iff.mpr c12
                subst c12
                have H1 : (some x5_1) = some r := by rw [if_neg (show ¬ (false = true) by decide)] at H; exact H
                clear H
                have H := H1
                clear H1
                obtain rfl := Option.some.inj H
                have p6 : 0 ≤ ((ji4) : Int) := of_decide_eq_true (by first | (with_reducible assumption) | assumption)
                have q6 : (ji4) < (a0.size : Int) := of_decide_eq_true (by first | (with_reducible assumption) | assumption)
                have hx6 := bt_at a0 (ji4)
                replace p6 := eq_true p6
                replace q6 := eq_true q6
                go_wp2_with (first | (go_at_call 38; (with_reducible refine (vestryref03_Letter.calls (bt a0 (ji4)) false _ A7.out).mono ?_); rintro e w' ⟨rfl, ⟨nd, rfl⟩⟩; have p10 : 0 ≤ ((ji4) : Int) := of_decide_eq_true (by first | (with_reducible assumption) | assumption); have q10 : (ji4) < (a0.size : Int) := of_decide_eq_true (by first | (with_reducible assumption) | assumption); have hx10 := bt_at a0 (ji4); replace p10 := eq_true p10; replace q10 := eq_true q10) | (go_at_call 21; (with_reducible refine (vestryref03_Digit.calls (bt a0 (ji4)) false _ A11.out).mono ?_); rintro e w' ⟨rfl, ⟨nd, rfl⟩⟩))
                go_ret
                exact ⟨by first | rfl | (simp; done) | (simp only [← hji4] <;> (first | rfl | simp)) | (simp [*]; done), by repeat (first | exact Drawn0.refl _ | apply Drawn0.step)⟩
            · rw [if_neg c9] at H
              have c9b0 : decide (0 < x5_1) = false := decide_eq_false c9
              clear c9
              obtain rfl := Option.some.inj H
              have p6 : 0 ≤ ((ji4) : Int) := of_decide_eq_true (by first | (with_reducible assumption) | assumption)
              have q6 : (ji4) < (a0.size : Int) := of_decide_eq_true (by first | (with_reducible assumption) | assumption)
              have hx6 := bt_at a0 (ji4)
              replace p6 := eq_true p6
              replace q6 := eq_true q6
              go_wp2_with (first | (go_at_call 38; (with_reducible refine (vestryref03_Letter.calls (bt a0 (ji4)) false _ A7.out).mono ?_); rintro e w' ⟨rfl, ⟨nd, rfl⟩⟩))
              go_ret
              exact ⟨by first | rfl | (simp; done) | (simp only [← hji4] <;> (first | rfl | simp)) | (simp [*]; done), by repeat (first | exact Drawn0.refl _ | apply Drawn0.step)⟩
        · rw [if_neg c5] at H
          exact absurd H (by simp)
      · rw [if_neg c3] at H
        have c3b0 : decide ((wrap64 (a1 + x5_1)) < (a0.size : Int)) = false := decide_eq_false c3
        clear c3
        obtain rfl := Option.some.inj H
        go_wp2
        go_ret
        exact ⟨by first | rfl | (simp; done) | (simp [*]; done), by repeat (first | exact Drawn0.refl _ | apply Drawn0.step)⟩
def vestryref08_name.l0 : Nat → ByteArray → Int → Int → Option (Int)
  | 0, _, _, _ => none
  | k + 1, x0, x1, x5 => if x5 > 0 then ((vestryref08_at.f x0 (wrap64 (x1 + x5)) (⟨#[46]⟩ : ByteArray)).bind fun t108 => (if t108 = true then ((vestryref08_word.f k x0 (wrap64 ((wrap64 (x1 + x5)) + 1))).bind fun t109 => (if t109 > 0 then ((vestryref08_word.f k x0 (wrap64 ((wrap64 (x1 + x5)) + 1))).bind fun t110 => (vestryref08_name.l0 k x0 x1 (wrap64 (x5 + (wrap64 (1 + t110)))))) else (some x5))) else (some x5))) else (some x5)
def vestryref08_name.f (k : Nat) (a0 : ByteArray) (a1 : Int) : Option (Int) := (vestryref08_word.f k a0 a1).bind fun t107 => (vestryref08_name.l0 k a0 a1 t107)
theorem vestryref08_name.mono_l : ∀ k, (∀ y0 y1 y2, LeO (vestryref08_name.l0 k y0 y1 y2) (vestryref08_name.l0 (k + 1) y0 y1 y2))
  | 0 => fun _ _ _ r h => by simp [vestryref08_name.l0] at h
  | k + 1 => by
    have ih0 := vestryref08_name.mono_l k
    · intro y0 y1 y2
      unfold vestryref08_name.l0
      repeat' first
      | (with_reducible exact ih0 _ _ _)
      | (with_reducible exact vestryref08_word.mono _ _ _)
      | (with_reducible exact LeO.refl _)
      | (with_reducible exact LeO.none _)
      | (with_reducible refine LeO.ite ?_ ?_)
      | (with_reducible refine LeO.bind ?_ (fun _ => ?_))
      | exact ih0 _ _ _
      | exact vestryref08_word.mono _ _ _
      | exact LeO.none _
      | refine LeO.ite ?_ ?_
      | refine LeO.bind ?_ (fun _ => ?_)
theorem vestryref08_name.mono : ∀ a0 a1 k, LeO (vestryref08_name.f k a0 a1) (vestryref08_name.f (k + 1) a0 a1) := by
  intro a0 a1 k
  have ih0 := vestryref08_name.mono_l k
  unfold vestryref08_name.f
  repeat' first
      | (with_reducible exact ih0 _ _ _)
      | (with_reducible exact vestryref08_word.mono _ _ _)
      | (with_reducible exact LeO.refl _)
      | (with_reducible exact LeO.none _)
      | (with_reducible refine LeO.ite ?_ ?_)
      | (with_reducible refine LeO.bind ?_ (fun _ => ?_))
      | exact ih0 _ _ _
      | exact vestryref08_word.mono _ _ _
      | exact LeO.none _
      | refine LeO.ite ?_ ?_
      | refine LeO.bind ?_ (fun _ => ?_)
set_option maxHeartbeats 8000000 in
set_option maxRecDepth 100000 in
theorem vestryref08_name.calls (k : Nat) (a0 : ByteArray) (a1 : Int) (r : Int) (w : World) (h : vestryref08_name.f k a0 a1 = some r) :
    Calls Tryd.prog 20 #[.string a0, .int .i64 a1] w fun e w' => e = .returned (.int .i64 r) ∧ Drawn0 w w' := by
  have H : ((vestryref08_word.f k a0 a1).bind fun t107 => (vestryref08_name.l0 k a0 a1 t107)) = some r := h
  clear h
  replace H := Option.bind_eq_some_iff.mp H
  obtain ⟨t107, A30, H⟩ := H
  replace H : (vestryref08_name.l0 k a0 a1 t107) = some r := H
  have A3 := Aside0.mk A30
  clear A30
  have H' := Aside0.mk H
  clear H
  go_enter Tryd.func20, Tryd.ntmps20
  go_wp2_with (first | ((with_reducible refine gate_callee (f := 26) rfl ?_); refine goesL_ (some 8) rfl rfl Tryd.func26 (by kernel_rfl) rfl #[.string a0, .int .i64 a1] rfl (by (try simp only [List.map_toArray, List.map_cons, List.map_nil]); first | done | rfl | (simp only [List.length_drop, List.length_take]; rfl)) ?_; (with_reducible refine (vestryref08_word.calls k a0 a1 t107 _ A3.out).mono ?_); rintro e w' ⟨rfl, ⟨nd, rfl⟩⟩; refine ⟨_, rfl, ?_⟩))
  go_loopg [5] k (fun kq v5 w' => ∃ (x5_1 : Int), v5 = .int .i64 x5_1 ∧ Aside0 (vestryref08_name.l0 kq a0 a1 x5_1 = some r) ∧ Aside0 (kq ≤ k) ∧ Drawn0 w w')
  case atStart => exact ⟨(t107), (by first | rfl | (simp; done) | (simp [*]; done)), H', ⟨Nat.le_refl _⟩, by repeat (first | exact Drawn0.refl _ | apply Drawn0.step)⟩
  case round =>
    clear H'
    try clear c2
    try clear p2
    obtain ⟨x5_1, rfl, HA, HK1, ⟨m1, rfl⟩⟩ := hrel
    cases gk with
    | zero => exact absurd HA.out (by simp [vestryref08_name.l0])
    | succ k1 =>
      have H := HA.out
      clear HA
      simp only [vestryref08_name.l0] at H
      by_cases c4 : x5_1 > 0
      · rw [if_pos c4] at H
        have c4b0 : decide (0 < x5_1) = true := decide_eq_true c4
        clear c4
        replace H := Option.bind_eq_some_iff.mp H
        obtain ⟨t108, A50, H⟩ := H
        replace H : (if t108 = true then ((vestryref08_word.f k1 a0 (wrap64 ((wrap64 (a1 + x5_1)) + 1))).bind fun t109 => (if t109 > 0 then ((vestryref08_word.f k1 a0 (wrap64 ((wrap64 (a1 + x5_1)) + 1))).bind fun t110 => (vestryref08_name.l0 k1 a0 a1 (wrap64 (x5_1 + (wrap64 (1 + t110)))))) else (some x5_1))) else (some x5_1)) = some r := H
        have A5 := Aside0.mk A50
        clear A50
        by_cases c6 : t108 = true
        · subst c6
          have H1 : ((vestryref08_word.f k1 a0 (wrap64 ((wrap64 (a1 + x5_1)) + 1))).bind fun t109 => (if t109 > 0 then ((vestryref08_word.f k1 a0 (wrap64 ((wrap64 (a1 + x5_1)) + 1))).bind fun t110 => (vestryref08_name.l0 k1 a0 a1 (wrap64 (x5_1 + (wrap64 (1 + t110)))))) else (some x5_1))) = some r := by rw [if_pos rfl] at H; exact H
          clear H
          have H := H1
          clear H1
          replace H := Option.bind_eq_some_iff.mp H
          obtain ⟨t109, A70, H⟩ := H
          replace H : (if t109 > 0 then ((vestryref08_word.f k1 a0 (wrap64 ((wrap64 (a1 + x5_1)) + 1))).bind fun t110 => (vestryref08_name.l0 k1 a0 a1 (wrap64 (x5_1 + (wrap64 (1 + t110)))))) else (some x5_1)) = some r := H
          have A7 := Aside0.mk A70
          clear A70
          by_cases c8 : t109 > 0
          · rw [if_pos c8] at H
            have c8b0 : decide (0 < t109) = true := decide_eq_true c8
            clear c8
            replace H := Option.bind_eq_some_iff.mp H
            obtain ⟨t110, A90, H⟩ := H
            replace H : (vestryref08_name.l0 k1 a0 a1 (wrap64 (x5_1 + (wrap64 (1 + t110))))) = some r := H
            have A9 := Aside0.mk A90
            clear A90
            have H' := Aside0.mk H
            clear H
            go_wp2_with (first | (go_at_call 37; (with_reducible refine (vestryref08_at.calls a0 (wrap64 (a1 + x5_1)) (⟨#[46]⟩ : ByteArray) true _ A5.out).mono ?_); rintro e w' ⟨rfl, ⟨nd, rfl⟩⟩) | (go_at_call 26; (with_reducible refine (vestryref08_word.calls k1 a0 (wrap64 ((wrap64 (a1 + x5_1)) + 1)) t109 _ A7.out).mono ?_); rintro e w' ⟨rfl, ⟨nd, rfl⟩⟩) | ((with_reducible refine gate_callee (f := 26) rfl ?_); refine goesL_ (some 33) rfl rfl Tryd.func26 (by kernel_rfl) rfl #[.string a0, .int .i64 (wrap64 ((wrap64 (a1 + x5_1)) + 1))] rfl (by (try simp only [List.map_toArray, List.map_cons, List.map_nil]); first | done | rfl | (simp only [List.length_drop, List.length_take]; rfl)) ?_; (with_reducible refine (vestryref08_word.calls k1 a0 (wrap64 ((wrap64 (a1 + x5_1)) + 1)) t110 _ A9.out).mono ?_); rintro e w' ⟨rfl, ⟨nd, rfl⟩⟩; refine ⟨_, rfl, ?_⟩))
            go_roundg k1
            case measure => have := HK1.out; omega
            case rel => exact ⟨(wrap64 (x5_1 + (wrap64 (1 + t110)))), (by first | rfl | (simp; done) | (simp [*]; done)), H', ⟨by have := HK1.out; omega⟩, by repeat (first | exact Drawn0.refl _ | apply Drawn0.step)⟩
          · rw [if_neg c8] at H
            have c8b0 : decide (0 < t109) = false := decide_eq_false c8
            clear c8
            obtain rfl := Option.some.inj H
            go_wp2_with (first | (go_at_call 37; (with_reducible refine (vestryref08_at.calls a0 (wrap64 (a1 + x5_1)) (⟨#[46]⟩ : ByteArray) true _ A5.out).mono ?_); rintro e w' ⟨rfl, ⟨nd, rfl⟩⟩) | (go_at_call 26; (with_reducible refine (vestryref08_word.calls k1 a0 (wrap64 ((wrap64 (a1 + x5_1)) + 1)) t109 _ A7.out).mono ?_); rintro e w' ⟨rfl, ⟨nd, rfl⟩⟩))
            go_ret
            exact ⟨by first | rfl | (simp; done) | (simp [*]; done), by repeat (first | exact Drawn0.refl _ | apply Drawn0.step)⟩
        · replace c6 := Bool.eq_false_iff.mpr c6
          subst c6
          have H1 : (some x5_1) = some r := by rw [if_neg (show ¬ (false = true) by decide)] at H; exact H
          clear H
          have H := H1
          clear H1
          obtain rfl := Option.some.inj H
          go_wp2_with (first | (go_at_call 37; (with_reducible refine (vestryref08_at.calls a0 (wrap64 (a1 + x5_1)) (⟨#[46]⟩ : ByteArray) false _ A5.out).mono ?_); rintro e w' ⟨rfl, ⟨nd, rfl⟩⟩))
          go_ret
          exact ⟨by first | rfl | (simp; done) | (simp [*]; done), by repeat (first | exact Drawn0.refl _ | apply Drawn0.step)⟩
      · rw [if_neg c4] at H
        have c4b0 : decide (0 < x5_1) = false := decide_eq_false c4
        clear c4
        obtain rfl := Option.some.inj H
        go_wp2
        go_ret
        exact ⟨by first | rfl | (simp; done) | (simp [*]; done), by repeat (first | exact Drawn0.refl _ | apply Drawn0.step)⟩
end Go.Proofs.YtafndkgoeabehaaDoor.PTokens
namespace Go.Proofs.YtafndkgoeabehaaDoor.PTokens
open Go.RowKit Go.Proofs.YtafndkgoeabehaaDoorW.PrintWords Go.Proofs.YtafndkgoeabehaaDoorW.PrintLast Go.Proofs.YtafndkgoeabehaaDoorW.PrintMore
attribute [local go_sem] max2_int min2_int max_two min_two max_three min_three max_four min_four   -- for this text's walks alone
set_option linter.unusedVariables false
set_option linter.unusedSimpArgs false
/-! ### vestryref08_number: function 22 -/
mutual
def vestryref08_number.l0 : Nat → ByteArray → Int → Int → Int → Bool → Option (Int × ByteArray × Int × Int × Int × Int × Int)
  | 0, _, _, _, _, _ => none
  | k + 1, x0, x1, x7, x8, x9 => if x7 < (x0.size : Int) then (if 0 ≤ x7 then ((vestryref03_Digit.f (bt x0 x7)).bind fun t113 => (if t113 = true then (if x7 = x1 then (vestryref08_number.j1 k x0 x1 x7 x8 x9 true) else (if 0 ≤ x1 then (if x1 < (x0.size : Int) then (vestryref08_number.j1 k x0 x1 x7 x8 x9 ((bt x0 x1) != 48)) else (none)) else (none))) else (vestryref08_number.j1 k x0 x1 x7 x8 x9 false))) else (none)) else (vestryref08_number.j1 k x0 x1 x7 x8 x9 false)
def vestryref08_number.j1 : Nat → ByteArray → Int → Int → Int → Bool → Bool → Option (Int × ByteArray × Int × Int × Int × Int × Int)
  | 0, _, _, _, _, _, _ => none
  | k + 1, x0, x1, x7, x8, x9, x32 => if x32 = true then (if 0 ≤ x7 then (if x7 < (x0.size : Int) then (if x9 = true then (vestryref08_number.l0 k x0 x1 (wrap64 (x7 + 1)) x8 true) else (if (x8 > ((9223372036854775807 - (((bt x0 x7) - 48) % 256)) / 10)) then (vestryref08_number.l0 k x0 x1 (wrap64 (x7 + 1)) x8 (decide (x8 > ((9223372036854775807 - (((bt x0 x7) - 48) % 256)) / 10)))) else (vestryref08_number.l0 k x0 x1 (wrap64 (x7 + 1)) (wrap64 ((wrap64 (x8 * 10)) + (((bt x0 x7) - 48) % 256))) (decide (x8 > ((9223372036854775807 - (((bt x0 x7) - 48) % 256)) / 10)))))) else (none)) else (none)) else (if x7 < (x0.size : Int) then (if 0 ≤ x7 then ((vestryref03_Digit.f (bt x0 x7)).bind fun t114 => (if t114 = true then (vestryref08_number.j2 k x1 x7 x8 x9 true) else ((vestryref03_Letter.f (bt x0 x7)).bind fun t115 => (vestryref08_number.j2 k x1 x7 x8 x9 t115)))) else (none)) else (vestryref08_number.j2 k x1 x7 x8 x9 false))
def vestryref08_number.j2 : Nat → Int → Int → Int → Bool → Bool → Option (Int × ByteArray × Int × Int × Int × Int × Int)
  | 0, _, _, _, _, _ => none
  | k + 1, x1, x7, x8, x9, x69 => if x69 = true then ((vestryref08_fault.f 7 x7).bind fun bt116 => (some (0, (⟨#[]⟩ : ByteArray), 0, 0, 0, bt116.1, bt116.2))) else (if x9 = true then ((vestryref08_fault.f 8 x1).bind fun bt118 => (some (0, (⟨#[]⟩ : ByteArray), 0, 0, 0, bt118.1, bt118.2))) else (some (2, (⟨#[]⟩ : ByteArray), x8, x1, x7, 0, 0)))
end
def vestryref08_number.f (k : Nat) (a0 : ByteArray) (a1 : Int) : Option (Int × ByteArray × Int × Int × Int × Int × Int) := vestryref08_number.l0 k a0 a1 a1 0 false
theorem vestryref08_number.mono_l : ∀ k, (∀ y0 y1 y2 y3 y4, LeO (vestryref08_number.l0 k y0 y1 y2 y3 y4) (vestryref08_number.l0 (k + 1) y0 y1 y2 y3 y4)) ∧ (∀ y0 y1 y2 y3 y4 y5, LeO (vestryref08_number.j1 k y0 y1 y2 y3 y4 y5) (vestryref08_number.j1 (k + 1) y0 y1 y2 y3 y4 y5)) ∧ (∀ y0 y1 y2 y3 y4, LeO (vestryref08_number.j2 k y0 y1 y2 y3 y4) (vestryref08_number.j2 (k + 1) y0 y1 y2 y3 y4))
  | 0 => ⟨fun _ _ _ _ _ r h => by simp [vestryref08_number.l0] at h, fun _ _ _ _ _ _ r h => by simp [vestryref08_number.j1] at h, fun _ _ _ _ _ r h => by simp [vestryref08_number.j2] at h⟩
  | k + 1 => by
    obtain ⟨ih0, ih1, ih2⟩ := vestryref08_number.mono_l k
    refine ⟨?_, ?_, ?_⟩
    · intro y0 y1 y2 y3 y4
      unfold vestryref08_number.l0
      repeat' first
      | (with_reducible exact ih0 _ _ _ _ _)
      | (with_reducible exact ih1 _ _ _ _ _ _)
      | (with_reducible exact ih2 _ _ _ _ _)
      | (with_reducible exact LeO.refl _)
      | (with_reducible exact LeO.none _)
      | (with_reducible refine LeO.ite ?_ ?_)
      | (with_reducible refine LeO.bind ?_ (fun _ => ?_))
      | exact ih0 _ _ _ _ _
      | exact ih1 _ _ _ _ _ _
      | exact ih2 _ _ _ _ _
      | exact LeO.none _
      | refine LeO.ite ?_ ?_
      | refine LeO.bind ?_ (fun _ => ?_)
    · intro y0 y1 y2 y3 y4 y5
      unfold vestryref08_number.j1
      repeat' first
      | (with_reducible exact ih0 _ _ _ _ _)
      | (with_reducible exact ih1 _ _ _ _ _ _)
      | (with_reducible exact ih2 _ _ _ _ _)
      | (with_reducible exact LeO.refl _)
      | (with_reducible exact LeO.none _)
      | (with_reducible refine LeO.ite ?_ ?_)
      | (with_reducible refine LeO.bind ?_ (fun _ => ?_))
      | exact ih0 _ _ _ _ _
      | exact ih1 _ _ _ _ _ _
      | exact ih2 _ _ _ _ _
      | exact LeO.none _
      | refine LeO.ite ?_ ?_
      | refine LeO.bind ?_ (fun _ => ?_)
    · intro y0 y1 y2 y3 y4
      unfold vestryref08_number.j2
      repeat' first
      | (with_reducible exact ih0 _ _ _ _ _)
      | (with_reducible exact ih1 _ _ _ _ _ _)
      | (with_reducible exact ih2 _ _ _ _ _)
      | (with_reducible exact LeO.refl _)
      | (with_reducible exact LeO.none _)
      | (with_reducible refine LeO.ite ?_ ?_)
      | (with_reducible refine LeO.bind ?_ (fun _ => ?_))
      | exact ih0 _ _ _ _ _
      | exact ih1 _ _ _ _ _ _
      | exact ih2 _ _ _ _ _
      | exact LeO.none _
      | refine LeO.ite ?_ ?_
      | refine LeO.bind ?_ (fun _ => ?_)
theorem vestryref08_number.mono : ∀ a0 a1 k, LeO (vestryref08_number.f k a0 a1) (vestryref08_number.f (k + 1) a0 a1) := by
  intro a0 a1 k
  obtain ⟨ih0, ih1, ih2⟩ := vestryref08_number.mono_l k
  unfold vestryref08_number.f
  repeat' first
      | (with_reducible exact ih0 _ _ _ _ _)
      | (with_reducible exact ih1 _ _ _ _ _ _)
      | (with_reducible exact ih2 _ _ _ _ _)
      | (with_reducible exact LeO.refl _)
      | (with_reducible exact LeO.none _)
      | (with_reducible refine LeO.ite ?_ ?_)
      | (with_reducible refine LeO.bind ?_ (fun _ => ?_))
      | exact ih0 _ _ _ _ _
      | exact ih1 _ _ _ _ _ _
      | exact ih2 _ _ _ _ _
      | exact LeO.none _
      | refine LeO.ite ?_ ?_
      | refine LeO.bind ?_ (fun _ => ?_)
set_option maxHeartbeats 8000000 in
set_option maxRecDepth 100000 in
theorem vestryref08_number.calls (k : Nat) (a0 : ByteArray) (a1 : Int) (r1 : Int) (r2 : ByteArray) (r3 : Int) (r4 : Int) (r5 : Int) (r6 : Int) (r7 : Int) (w : World) (h : vestryref08_number.f k a0 a1 = some (r1, r2, r3, r4, r5, r6, r7)) :
    Calls Tryd.prog 22 #[.string a0, .int .i64 a1] w fun e w' => e = .returned (.tuple #[.agg #[.int .i64 r1, .string r2, .int .i64 r3, .int .i64 r4], .int .i64 r5, .agg #[.int .i64 r6, .int .i64 r7]]) ∧ Below w.heap.size w w' := by
  have hu30 := Tryd.underlying30
  have hu25 := Tryd.underlying25
  have HB := Aside0.mk (Below.refl w.heap.size w)
  have H : (vestryref08_number.l0 k a0 a1 a1 0 false) = some (r1, r2, r3, r4, r5, r6, r7) := h
  clear h
  have H' := Aside0.mk H
  clear H
  go_enter Tryd.func22, Tryd.ntmps22
  go_wp2_with (first | ((with_reducible refine gate_dst (N := 4) rfl ?_); refine box_event ?hg (N := 4) ?hd (cs := #[.int .i64 0, .string (⟨#[]⟩ : ByteArray), .int .i64 0, .int .i64 0]) (t := 30) ?hr ?_; (case hd => rfl); (case hg => rfl); (case hr => first | (go_simp; done) | (go_simp; rfl)); intro gb111 hg w3 hbox hb; have n0_ := Aside0.mk (below_step (by repeat (first | (with_reducible first | exact HB.out | apply below_alloc | apply pw_below_drewN | apply below_drew1) | exact HB.out)) hb); have n1_ := Aside0.mk (hbox); have n2_ := Aside0.mk ((by rw [hg]; exact (below_size (by repeat (first | (with_reducible first | exact HB.out | apply below_alloc | apply pw_below_drewN | apply below_drew1) | exact HB.out))) : w.heap.size ≤ gb111)); have n3_ := Aside0.mk ((by rw [hg]; exact (below_size (by repeat (first | (with_reducible first | exact HB.out | apply below_alloc | apply pw_below_drewN | apply below_drew1) | exact HB.out))) : w.heap.size ≤ gb111)); clear HB; have HB := n0_; have BK111 := n1_; have GW111 := n2_; have GE111 := n3_; clear n0_ n1_ n2_ n3_; clear hb hbox hg) | ((with_reducible refine gate_dst (N := 6) rfl ?_); refine box_event ?hg (N := 6) ?hd (cs := #[.int .i64 0, .int .i64 0]) (t := 25) ?hr ?_; (case hd => rfl); (case hg => rfl); (case hr => first | (go_simp; done) | (go_simp; rfl)); intro gb112 hg w4 hbox hb; have n0_ := Aside0.mk (blk_below (g := gb111) (o := .cells #[.int .i64 0, .string (⟨#[]⟩ : ByteArray), .int .i64 0, .int .i64 0] 30 (0, 0)) (by (with_reducible repeat (first | refine blk_drewN ?_ _ | refine blk_drew ?_ | refine blk_alloc ?_ _)); exact BK111.out) hb); have n1_ := Aside0.mk (below_step (by repeat (first | (with_reducible first | exact HB.out | apply below_alloc | apply pw_below_drewN | apply below_drew1 | refine below_set ?_ GE111.out) | exact HB.out)) hb); have n2_ := Aside0.mk (hbox); have n3_ := Aside0.mk ((by rw [hg]; exact (below_size (by repeat (first | (with_reducible first | exact HB.out | apply below_alloc | apply pw_below_drewN | apply below_drew1 | refine below_set ?_ GE111.out) | exact HB.out))) : w.heap.size ≤ gb112)); have n4_ := Aside0.mk ((by rw [hg]; exact (below_size (by repeat (first | (with_reducible first | exact HB.out | apply below_alloc | apply pw_below_drewN | apply below_drew1 | refine below_set ?_ GE111.out) | exact HB.out))) : w.heap.size ≤ gb112)); have n5_ := Aside0.mk ((by rw [hg]; exact Nat.ne_of_lt (blk_lt (g := gb111) (o := .cells #[.int .i64 0, .string (⟨#[]⟩ : ByteArray), .int .i64 0, .int .i64 0] 30 (0, 0)) (by (with_reducible repeat (first | refine blk_drewN ?_ _ | refine blk_drew ?_ | refine blk_alloc ?_ _)); exact BK111.out)) : gb111 ≠ gb112)); have n6_ := Aside0.mk ((by rw [hg]; exact Nat.ne_of_gt (blk_lt (g := gb111) (o := .cells #[.int .i64 0, .string (⟨#[]⟩ : ByteArray), .int .i64 0, .int .i64 0] 30 (0, 0)) (by (with_reducible repeat (first | refine blk_drewN ?_ _ | refine blk_drew ?_ | refine blk_alloc ?_ _)); exact BK111.out)) : gb112 ≠ gb111)); clear BK111; clear HB; have BK111 := n0_; have HB := n1_; have BK112 := n2_; have GW112 := n3_; have GE112 := n4_; have NB111_112 := n5_; have NB112_111 := n6_; clear n0_ n1_ n2_ n3_ n4_ n5_ n6_; clear hb hbox hg))
  go_loopg [7, 8, 9] k (fun kq v7 v8 v9 w' => ∃ (x7_1 : Int) (x8_1 : Int) (x9_1 : Bool), v7 = .int .i64 x7_1 ∧ v8 = .int .i64 x8_1 ∧ v9 = .bool x9_1 ∧ Aside0 (vestryref08_number.l0 kq a0 a1 x7_1 x8_1 x9_1 = some (r1, r2, r3, r4, r5, r6, r7)) ∧ Aside0 (kq ≤ k) ∧ Aside0 (w'.heap[gb111]? = some (.cells #[.int .i64 0, .string (⟨#[]⟩ : ByteArray), .int .i64 0, .int .i64 0] 30 (0, 0))) ∧ Aside0 (w'.heap[gb112]? = some (.cells #[.int .i64 0, .int .i64 0] 25 (0, 0))) ∧ Aside0 (Below w.heap.size w w'))
  case atStart => exact ⟨(a1), (0), (false), (by first | rfl | (simp; done) | (simp [*]; done)), (by first | rfl | (simp; done) | (simp [*]; done)), (by first | rfl | (simp; done) | (simp [*]; done)), H', ⟨Nat.le_refl _⟩, ⟨by (with_reducible repeat (first | refine blk_drewN ?_ _ | refine blk_drew ?_ | refine blk_alloc ?_ _)); exact BK111.out⟩, ⟨by (with_reducible repeat (first | refine blk_drewN ?_ _ | refine blk_drew ?_ | refine blk_alloc ?_ _)); exact BK112.out⟩, ⟨by repeat (first | (with_reducible first | exact HB.out | apply below_alloc | apply pw_below_drewN | apply below_drew1 | refine below_set ?_ GE111.out | refine below_set ?_ GE112.out) | exact HB.out)⟩⟩
  case round =>
    clear H'
    try clear c2
    try clear p2
    obtain ⟨x7_1, x8_1, x9_1, rfl, rfl, rfl, HA, HK1, BK111, BK112, HB⟩ := hrel
    cases gk with
    | zero => exact absurd HA.out (by simp [vestryref08_number.l0])
    | succ k1 =>
      have H := HA.out
      clear HA
      simp only [vestryref08_number.l0] at H
      have HC5 := Aside0.mk H
      clear H
      go_upto_region 3 with (fail)
      go_cut [32] (fun v32 wc => ∃ (kq : Nat) (x32_4 : Bool), v32 = .bool x32_4 ∧ Aside0 (vestryref08_number.j1 kq a0 a1 x7_1 x8_1 x9_1 x32_4 = some (r1, r2, r3, r4, r5, r6, r7)) ∧ Aside0 (kq ≤ k1) ∧ Aside0 (wc.heap[gb111]? = some (.cells #[.int .i64 0, .string (⟨#[]⟩ : ByteArray), .int .i64 0, .int .i64 0] 30 (0, 0))) ∧ Aside0 (wc.heap[gb112]? = some (.cells #[.int .i64 0, .int .i64 0] 25 (0, 0))) ∧ Aside0 (Below w.heap.size w wc))
      case first =>
        have H := HC5.out
        clear HC5
        by_cases c6 : x7_1 < (a0.size : Int)
        · rw [if_pos c6] at H
          have c6b0 : decide (x7_1 < (a0.size : Int)) = true := decide_eq_true c6
          clear c6
          (first | rw [c6b0] | (simp only [i64_w, i32_w]; rw [c6b0]) | skip)
          by_cases c7 : 0 ≤ x7_1
          · rw [if_pos c7] at H
            have c7b0 : decide (0 ≤ x7_1) = true := decide_eq_true c7
            clear c7
            replace H := Option.bind_eq_some_iff.mp H
            obtain ⟨t113, A90, H⟩ := H
            replace H : (if t113 = true then (if x7_1 = a1 then (vestryref08_number.j1 k1 a0 a1 x7_1 x8_1 x9_1 true) else (if 0 ≤ a1 then (if a1 < (a0.size : Int) then (vestryref08_number.j1 k1 a0 a1 x7_1 x8_1 x9_1 ((bt a0 a1) != 48)) else (none)) else (none))) else (vestryref08_number.j1 k1 a0 a1 x7_1 x8_1 x9_1 false)) = some (r1, r2, r3, r4, r5, r6, r7) := H
            have A9 := Aside0.mk A90
            clear A90
            by_cases c10 : t113 = true
            · subst c10
              have H1 : (if x7_1 = a1 then (vestryref08_number.j1 k1 a0 a1 x7_1 x8_1 x9_1 true) else (if 0 ≤ a1 then (if a1 < (a0.size : Int) then (vestryref08_number.j1 k1 a0 a1 x7_1 x8_1 x9_1 ((bt a0 a1) != 48)) else (none)) else (none))) = some (r1, r2, r3, r4, r5, r6, r7) := by rw [if_pos rfl] at H; exact H
              clear H
              have H := H1
              clear H1
              by_cases c11 : x7_1 = a1
              · rw [if_pos c11] at H
                have c11b0 : (x7_1 == a1) = true := beq_iff_eq.mpr c11
                have c11b1 : (x7_1 != a1) = false := bne_eq_false_iff_eq.mpr c11
                clear c11
                have H' := Aside0.mk H
                clear H
                have p8 : 0 ≤ (x7_1 : Int) := of_decide_eq_true (by first | (with_reducible assumption) | assumption)
                have q8 : x7_1 < (a0.size : Int) := of_decide_eq_true (by first | (with_reducible assumption) | assumption)
                have hx8 := bt_at a0 x7_1
                replace p8 := eq_true p8
                replace q8 := eq_true q8
                go_wp2_with (first | (go_at_call 21; (with_reducible refine (vestryref03_Digit.calls (bt a0 x7_1) true _ A9.out).mono ?_); rintro e w' ⟨rfl, ⟨nd, rfl⟩⟩))
                go_meet
                case rel => exact ⟨_, (true), (by first | rfl | (simp; done) | (simp [*]; done)), H', ⟨by have := HK1.out; first | omega | exact Nat.le_refl _⟩, ⟨by (with_reducible repeat (first | refine blk_drewN ?_ _ | refine blk_drew ?_ | refine blk_alloc ?_ _)); exact BK111.out⟩, ⟨by (with_reducible repeat (first | refine blk_drewN ?_ _ | refine blk_drew ?_ | refine blk_alloc ?_ _)); exact BK112.out⟩, ⟨by repeat (first | (with_reducible first | exact HB.out | apply below_alloc | apply pw_below_drewN | apply below_drew1 | refine below_set ?_ GE111.out | refine below_set ?_ GE112.out) | exact HB.out)⟩⟩
              · rw [if_neg c11] at H
                have c11b0 : (x7_1 == a1) = false := beq_eq_false_iff_ne.mpr c11
                have c11b1 : (x7_1 != a1) = true := bne_iff_ne.mpr c11
                by_cases c12 : 0 ≤ a1
                · rw [if_pos c12] at H
                  have c12b0 : decide (0 ≤ a1) = true := decide_eq_true c12
                  clear c12
                  by_cases c13 : a1 < (a0.size : Int)
                  · rw [if_pos c13] at H
                    have c13b0 : decide (a1 < (a0.size : Int)) = true := decide_eq_true c13
                    clear c13
                    have H' := Aside0.mk H
                    clear H
                    have p8 : 0 ≤ (x7_1 : Int) := of_decide_eq_true (by first | (with_reducible assumption) | assumption)
                    have q8 : x7_1 < (a0.size : Int) := of_decide_eq_true (by first | (with_reducible assumption) | assumption)
                    have hx8 := bt_at a0 x7_1
                    replace p8 := eq_true p8
                    replace q8 := eq_true q8
                    go_wp2_with (first | (go_at_call 21; (with_reducible refine (vestryref03_Digit.calls (bt a0 x7_1) true _ A9.out).mono ?_); rintro e w' ⟨rfl, ⟨nd, rfl⟩⟩; have p14 : 0 ≤ (a1 : Int) := of_decide_eq_true (by first | (with_reducible assumption) | assumption); have q14 : a1 < (a0.size : Int) := of_decide_eq_true (by first | (with_reducible assumption) | assumption); have hx14 := bt_at a0 a1; replace p14 := eq_true p14; replace q14 := eq_true q14))
                    go_meet
                    case rel => exact ⟨_, (((bt a0 a1) != 48)), (by first | rfl | (simp; done) | (simp [*]; done)), H', ⟨by have := HK1.out; first | omega | exact Nat.le_refl _⟩, ⟨by (with_reducible repeat (first | refine blk_drewN ?_ _ | refine blk_drew ?_ | refine blk_alloc ?_ _)); exact BK111.out⟩, ⟨by (with_reducible repeat (first | refine blk_drewN ?_ _ | refine blk_drew ?_ | refine blk_alloc ?_ _)); exact BK112.out⟩, ⟨by repeat (first | (with_reducible first | exact HB.out | apply below_alloc | apply pw_below_drewN | apply below_drew1 | refine below_set ?_ GE111.out | refine below_set ?_ GE112.out) | exact HB.out)⟩⟩
                  · rw [if_neg c13] at H
                    exact absurd H (by simp)
                · rw [if_neg c12] at H
                  exact absurd H (by simp)
            · replace c10 := Bool.eq_false_iff.mpr c10
              subst c10
              have H1 : (vestryref08_number.j1 k1 a0 a1 x7_1 x8_1 x9_1 false) = some (r1, r2, r3, r4, r5, r6, r7) := by rw [if_neg (show ¬ (false = true) by decide)] at H; exact H
              clear H
              have H := H1
              clear H1
              have H' := Aside0.mk H
              clear H
              have p8 : 0 ≤ (x7_1 : Int) := of_decide_eq_true (by first | (with_reducible assumption) | assumption)
              have q8 : x7_1 < (a0.size : Int) := of_decide_eq_true (by first | (with_reducible assumption) | assumption)
              have hx8 := bt_at a0 x7_1
              replace p8 := eq_true p8
              replace q8 := eq_true q8
              go_wp2_with (first | (go_at_call 21; (with_reducible refine (vestryref03_Digit.calls (bt a0 x7_1) false _ A9.out).mono ?_); rintro e w' ⟨rfl, ⟨nd, rfl⟩⟩))
              go_meet
              case rel => exact ⟨_, (false), (by first | rfl | (simp; done) | (simp [*]; done)), H', ⟨by have := HK1.out; first | omega | exact Nat.le_refl _⟩, ⟨by (with_reducible repeat (first | refine blk_drewN ?_ _ | refine blk_drew ?_ | refine blk_alloc ?_ _)); exact BK111.out⟩, ⟨by (with_reducible repeat (first | refine blk_drewN ?_ _ | refine blk_drew ?_ | refine blk_alloc ?_ _)); exact BK112.out⟩, ⟨by repeat (first | (with_reducible first | exact HB.out | apply below_alloc | apply pw_below_drewN | apply below_drew1 | refine below_set ?_ GE111.out | refine below_set ?_ GE112.out) | exact HB.out)⟩⟩
          · rw [if_neg c7] at H
            exact absurd H (by simp)
        · rw [if_neg c6] at H
          have c6b0 : decide (x7_1 < (a0.size : Int)) = false := decide_eq_false c6
          clear c6
          (first | rw [c6b0] | (simp only [i64_w, i32_w]; rw [c6b0]) | skip)
          have H' := Aside0.mk H
          clear H
          go_wp2
          go_meet
          case rel => exact ⟨_, (false), (by first | rfl | (simp; done) | (simp [*]; done)), H', ⟨by have := HK1.out; first | omega | exact Nat.le_refl _⟩, ⟨by (with_reducible repeat (first | refine blk_drewN ?_ _ | refine blk_drew ?_ | refine blk_alloc ?_ _)); exact BK111.out⟩, ⟨by (with_reducible repeat (first | refine blk_drewN ?_ _ | refine blk_drew ?_ | refine blk_alloc ?_ _)); exact BK112.out⟩, ⟨by repeat (first | (with_reducible first | exact HB.out | apply below_alloc | apply pw_below_drewN | apply below_drew1 | refine below_set ?_ GE111.out | refine below_set ?_ GE112.out) | exact HB.out)⟩⟩
      case rest =>
        clear HC5
        try clear c1
        try clear p1
        try clear q1
        try clear hx1
        try clear c2
        try clear p2
        try clear c6
        try clear c6b0
        try clear c7
        try clear c7b0
        try clear p8
        try clear q8
        try clear hx8
        try clear c10
        try clear c11
        try clear c11b0
        try clear c11b1
        try clear c12
        try clear c12b0
        try clear c13
        try clear c13b0
        try clear p14
        try clear q14
        try clear hx14
        try clear p14
        try clear p2
        try clear p8
        try clear q14
        try clear q8
        obtain ⟨kq, x32_4, rfl, HA, HJ4, BK111, BK112, HB⟩ := hcut
        cases kq with
        | zero => exact absurd HA.out (by simp [vestryref08_number.j1])
        | succ kj4 =>
          have H := HA.out
          clear HA
          simp only [vestryref08_number.j1] at H
          by_cases c15 : x32_4 = true
          · subst c15
            have H1 : (if 0 ≤ x7_1 then (if x7_1 < (a0.size : Int) then (if x9_1 = true then (vestryref08_number.l0 kj4 a0 a1 (wrap64 (x7_1 + 1)) x8_1 true) else (if (x8_1 > ((9223372036854775807 - (((bt a0 x7_1) - 48) % 256)) / 10)) then (vestryref08_number.l0 kj4 a0 a1 (wrap64 (x7_1 + 1)) x8_1 (decide (x8_1 > ((9223372036854775807 - (((bt a0 x7_1) - 48) % 256)) / 10)))) else (vestryref08_number.l0 kj4 a0 a1 (wrap64 (x7_1 + 1)) (wrap64 ((wrap64 (x8_1 * 10)) + (((bt a0 x7_1) - 48) % 256))) (decide (x8_1 > ((9223372036854775807 - (((bt a0 x7_1) - 48) % 256)) / 10)))))) else (none)) else (none)) = some (r1, r2, r3, r4, r5, r6, r7) := by rw [if_pos rfl] at H; exact H
            clear H
            have H := H1
            clear H1
            by_cases c16 : 0 ≤ x7_1
            · rw [if_pos c16] at H
              have c16b0 : decide (0 ≤ x7_1) = true := decide_eq_true c16
              clear c16
              by_cases c17 : x7_1 < (a0.size : Int)
              · rw [if_pos c17] at H
                have c17b0 : decide (x7_1 < (a0.size : Int)) = true := decide_eq_true c17
                clear c17
                by_cases c19 : x9_1 = true
                · subst c19
                  have H1 : (vestryref08_number.l0 kj4 a0 a1 (wrap64 (x7_1 + 1)) x8_1 true) = some (r1, r2, r3, r4, r5, r6, r7) := by rw [if_pos rfl] at H; exact H
                  clear H
                  have H := H1
                  clear H1
                  have H' := Aside0.mk H
                  clear H
                  have p18 : 0 ≤ (x7_1 : Int) := of_decide_eq_true (by first | (with_reducible assumption) | assumption)
                  have q18 : x7_1 < (a0.size : Int) := of_decide_eq_true (by first | (with_reducible assumption) | assumption)
                  have hx18 := bt_at a0 x7_1
                  replace p18 := eq_true p18
                  replace q18 := eq_true q18
                  go_wp2
                  go_roundg kj4
                  case measure => have := HK1.out; have := HJ4.out; omega
                  case rel => exact ⟨(wrap64 (x7_1 + 1)), (x8_1), (true), (by first | rfl | (simp; done) | (simp [*]; done)), (by first | rfl | (simp; done) | (simp [*]; done)), (by first | rfl | (simp; done) | (simp [*]; done)), H', ⟨by have := HK1.out; have := HJ4.out; omega⟩, ⟨by (with_reducible repeat (first | refine blk_drewN ?_ _ | refine blk_drew ?_ | refine blk_alloc ?_ _)); exact BK111.out⟩, ⟨by (with_reducible repeat (first | refine blk_drewN ?_ _ | refine blk_drew ?_ | refine blk_alloc ?_ _)); exact BK112.out⟩, ⟨by repeat (first | (with_reducible first | exact HB.out | apply below_alloc | apply pw_below_drewN | apply below_drew1 | refine below_set ?_ GE111.out | refine below_set ?_ GE112.out) | exact HB.out)⟩⟩
                · replace c19 := Bool.eq_false_iff.mpr c19
                  subst c19
                  have H1 : (if (x8_1 > ((9223372036854775807 - (((bt a0 x7_1) - 48) % 256)) / 10)) then (vestryref08_number.l0 kj4 a0 a1 (wrap64 (x7_1 + 1)) x8_1 (decide (x8_1 > ((9223372036854775807 - (((bt a0 x7_1) - 48) % 256)) / 10)))) else (vestryref08_number.l0 kj4 a0 a1 (wrap64 (x7_1 + 1)) (wrap64 ((wrap64 (x8_1 * 10)) + (((bt a0 x7_1) - 48) % 256))) (decide (x8_1 > ((9223372036854775807 - (((bt a0 x7_1) - 48) % 256)) / 10))))) = some (r1, r2, r3, r4, r5, r6, r7) := by rw [if_neg (show ¬ (false = true) by decide)] at H; exact H
                  clear H
                  have H := H1
                  clear H1
                  by_cases c20 : (x8_1 > ((9223372036854775807 - (((bt a0 x7_1) - 48) % 256)) / 10))
                  · rw [if_pos c20] at H
                    have c20b0 : decide (((9223372036854775807 - (((bt a0 x7_1) - 48) % 256)) / 10) < x8_1) = true := decide_eq_true c20
                    clear c20
                    have H' := Aside0.mk H
                    clear H
                    have p18 : 0 ≤ (x7_1 : Int) := of_decide_eq_true (by first | (with_reducible assumption) | assumption)
                    have q18 : x7_1 < (a0.size : Int) := of_decide_eq_true (by first | (with_reducible assumption) | assumption)
                    have hx18 := bt_at a0 x7_1
                    replace p18 := eq_true p18
                    replace q18 := eq_true q18
                    go_wp2
                    go_roundg kj4
                    case measure => have := HK1.out; have := HJ4.out; omega
                    case rel => exact ⟨(wrap64 (x7_1 + 1)), (x8_1), (decide (x8_1 > ((9223372036854775807 - (((bt a0 x7_1) - 48) % 256)) / 10))), (by first | rfl | (simp; done) | (simp [*]; done)), (by first | rfl | (simp; done) | (simp [*]; done)), (by first | rfl | (simp; done) | (simp [*]; done)), H', ⟨by have := HK1.out; have := HJ4.out; omega⟩, ⟨by (with_reducible repeat (first | refine blk_drewN ?_ _ | refine blk_drew ?_ | refine blk_alloc ?_ _)); exact BK111.out⟩, ⟨by (with_reducible repeat (first | refine blk_drewN ?_ _ | refine blk_drew ?_ | refine blk_alloc ?_ _)); exact BK112.out⟩, ⟨by repeat (first | (with_reducible first | exact HB.out | apply below_alloc | apply pw_below_drewN | apply below_drew1 | refine below_set ?_ GE111.out | refine below_set ?_ GE112.out) | exact HB.out)⟩⟩
                  · rw [if_neg c20] at H
                    have c20b0 : decide (((9223372036854775807 - (((bt a0 x7_1) - 48) % 256)) / 10) < x8_1) = false := decide_eq_false c20
                    clear c20
                    have H' := Aside0.mk H
                    clear H
                    have p18 : 0 ≤ (x7_1 : Int) := of_decide_eq_true (by first | (with_reducible assumption) | assumption)
                    have q18 : x7_1 < (a0.size : Int) := of_decide_eq_true (by first | (with_reducible assumption) | assumption)
                    have hx18 := bt_at a0 x7_1
                    replace p18 := eq_true p18
                    replace q18 := eq_true q18
                    go_wp2
                    go_roundg kj4
                    case measure => have := HK1.out; have := HJ4.out; omega
                    case rel => exact ⟨(wrap64 (x7_1 + 1)), (wrap64 ((wrap64 (x8_1 * 10)) + (((bt a0 x7_1) - 48) % 256))), (decide (x8_1 > ((9223372036854775807 - (((bt a0 x7_1) - 48) % 256)) / 10))), (by first | rfl | (simp; done) | (simp [*]; done)), (by first | rfl | (simp; done) | (simp [*]; done)), (by first | rfl | (simp; done) | (simp [*]; done)), H', ⟨by have := HK1.out; have := HJ4.out; omega⟩, ⟨by (with_reducible repeat (first | refine blk_drewN ?_ _ | refine blk_drew ?_ | refine blk_alloc ?_ _)); exact BK111.out⟩, ⟨by (with_reducible repeat (first | refine blk_drewN ?_ _ | refine blk_drew ?_ | refine blk_alloc ?_ _)); exact BK112.out⟩, ⟨by repeat (first | (with_reducible first | exact HB.out | apply below_alloc | apply pw_below_drewN | apply below_drew1 | refine below_set ?_ GE111.out | refine below_set ?_ GE112.out) | exact HB.out)⟩⟩
              · rw [if_neg c17] at H
                exact absurd H (by simp)
            · rw [if_neg c16] at H
              exact absurd H (by simp)
          · replace c15 := Bool.eq_false_iff.mpr c15
            subst c15
            have H1 : (if x7_1 < (a0.size : Int) then (if 0 ≤ x7_1 then ((vestryref03_Digit.f (bt a0 x7_1)).bind fun t114 => (if t114 = true then (vestryref08_number.j2 kj4 a1 x7_1 x8_1 x9_1 true) else ((vestryref03_Letter.f (bt a0 x7_1)).bind fun t115 => (vestryref08_number.j2 kj4 a1 x7_1 x8_1 x9_1 t115)))) else (none)) else (vestryref08_number.j2 kj4 a1 x7_1 x8_1 x9_1 false)) = some (r1, r2, r3, r4, r5, r6, r7) := by rw [if_neg (show ¬ (false = true) by decide)] at H; exact H
            clear H
            have H := H1
            clear H1
            have HC21 := Aside0.mk H
            clear H
            go_upto_region 9 with (fail)
            go_cut [69] (fun v69 wc => ∃ (kq : Nat) (x69_20 : Bool), v69 = .bool x69_20 ∧ Aside0 (vestryref08_number.j2 kq a1 x7_1 x8_1 x9_1 x69_20 = some (r1, r2, r3, r4, r5, r6, r7)) ∧ Aside0 (kq ≤ kj4) ∧ Aside0 (wc.heap[gb111]? = some (.cells #[.int .i64 0, .string (⟨#[]⟩ : ByteArray), .int .i64 0, .int .i64 0] 30 (0, 0))) ∧ Aside0 (wc.heap[gb112]? = some (.cells #[.int .i64 0, .int .i64 0] 25 (0, 0))) ∧ Aside0 (Below w.heap.size w wc))
            case first =>
              have H := HC21.out
              clear HC21
              by_cases c22 : x7_1 < (a0.size : Int)
              · rw [if_pos c22] at H
                have c22b0 : decide (x7_1 < (a0.size : Int)) = true := decide_eq_true c22
                clear c22
                (first | rw [c22b0] | (simp only [i64_w, i32_w]; rw [c22b0]) | skip)
                by_cases c23 : 0 ≤ x7_1
                · rw [if_pos c23] at H
                  have c23b0 : decide (0 ≤ x7_1) = true := decide_eq_true c23
                  clear c23
                  replace H := Option.bind_eq_some_iff.mp H
                  obtain ⟨t114, A250, H⟩ := H
                  replace H : (if t114 = true then (vestryref08_number.j2 kj4 a1 x7_1 x8_1 x9_1 true) else ((vestryref03_Letter.f (bt a0 x7_1)).bind fun t115 => (vestryref08_number.j2 kj4 a1 x7_1 x8_1 x9_1 t115))) = some (r1, r2, r3, r4, r5, r6, r7) := H
                  have A25 := Aside0.mk A250
                  clear A250
                  by_cases c26 : t114 = true
                  · subst c26
                    have H1 : (vestryref08_number.j2 kj4 a1 x7_1 x8_1 x9_1 true) = some (r1, r2, r3, r4, r5, r6, r7) := by rw [if_pos rfl] at H; exact H
                    clear H
                    have H := H1
                    clear H1
                    have H' := Aside0.mk H
                    clear H
                    have p24 : 0 ≤ (x7_1 : Int) := of_decide_eq_true (by first | (with_reducible assumption) | assumption)
                    have q24 : x7_1 < (a0.size : Int) := of_decide_eq_true (by first | (with_reducible assumption) | assumption)
                    have hx24 := bt_at a0 x7_1
                    replace p24 := eq_true p24
                    replace q24 := eq_true q24
                    go_wp2_with (first | (go_at_call 21; (with_reducible refine (vestryref03_Digit.calls (bt a0 x7_1) true _ A25.out).mono ?_); rintro e w' ⟨rfl, ⟨nd, rfl⟩⟩))
                    go_meet
                    case rel => exact ⟨_, (true), (by first | rfl | (simp; done) | (simp [*]; done)), H', ⟨by have := HK1.out; have := HJ4.out; first | omega | exact Nat.le_refl _⟩, ⟨by (with_reducible repeat (first | refine blk_drewN ?_ _ | refine blk_drew ?_ | refine blk_alloc ?_ _)); exact BK111.out⟩, ⟨by (with_reducible repeat (first | refine blk_drewN ?_ _ | refine blk_drew ?_ | refine blk_alloc ?_ _)); exact BK112.out⟩, ⟨by repeat (first | (with_reducible first | exact HB.out | apply below_alloc | apply pw_below_drewN | apply below_drew1 | refine below_set ?_ GE111.out | refine below_set ?_ GE112.out) | exact HB.out)⟩⟩
                  · replace c26 := Bool.eq_false_iff.mpr c26
                    subst c26
                    have H1 : ((vestryref03_Letter.f (bt a0 x7_1)).bind fun t115 => (vestryref08_number.j2 kj4 a1 x7_1 x8_1 x9_1 t115)) = some (r1, r2, r3, r4, r5, r6, r7) := by rw [if_neg (show ¬ (false = true) by decide)] at H; exact H
                    clear H
                    have H := H1
                    clear H1
                    replace H := Option.bind_eq_some_iff.mp H
                    obtain ⟨t115, A280, H⟩ := H
                    replace H : (vestryref08_number.j2 kj4 a1 x7_1 x8_1 x9_1 t115) = some (r1, r2, r3, r4, r5, r6, r7) := H
                    have A28 := Aside0.mk A280
                    clear A280
                    have H' := Aside0.mk H
                    clear H
                    have p24 : 0 ≤ (x7_1 : Int) := of_decide_eq_true (by first | (with_reducible assumption) | assumption)
                    have q24 : x7_1 < (a0.size : Int) := of_decide_eq_true (by first | (with_reducible assumption) | assumption)
                    have hx24 := bt_at a0 x7_1
                    replace p24 := eq_true p24
                    replace q24 := eq_true q24
                    go_wp2_with (first | (go_at_call 21; (with_reducible refine (vestryref03_Digit.calls (bt a0 x7_1) false _ A25.out).mono ?_); rintro e w' ⟨rfl, ⟨nd, rfl⟩⟩; have p27 : 0 ≤ (x7_1 : Int) := of_decide_eq_true (by first | (with_reducible assumption) | assumption); have q27 : x7_1 < (a0.size : Int) := of_decide_eq_true (by first | (with_reducible assumption) | assumption); have hx27 := bt_at a0 x7_1; replace p27 := eq_true p27; replace q27 := eq_true q27) | (go_at_call 38; (with_reducible refine (vestryref03_Letter.calls (bt a0 x7_1) t115 _ A28.out).mono ?_); rintro e w' ⟨rfl, ⟨nd, rfl⟩⟩))
                    go_meet
                    case rel => exact ⟨_, (t115), (by first | rfl | (simp; done) | (simp [*]; done)), H', ⟨by have := HK1.out; have := HJ4.out; first | omega | exact Nat.le_refl _⟩, ⟨by (with_reducible repeat (first | refine blk_drewN ?_ _ | refine blk_drew ?_ | refine blk_alloc ?_ _)); exact BK111.out⟩, ⟨by (with_reducible repeat (first | refine blk_drewN ?_ _ | refine blk_drew ?_ | refine blk_alloc ?_ _)); exact BK112.out⟩, ⟨by repeat (first | (with_reducible first | exact HB.out | apply below_alloc | apply pw_below_drewN | apply below_drew1 | refine below_set ?_ GE111.out | refine below_set ?_ GE112.out) | exact HB.out)⟩⟩
                · rw [if_neg c23] at H
                  exact absurd H (by simp)
              · rw [if_neg c22] at H
                have c22b0 : decide (x7_1 < (a0.size : Int)) = false := decide_eq_false c22
                clear c22
                (first | rw [c22b0] | (simp only [i64_w, i32_w]; rw [c22b0]) | skip)
                have H' := Aside0.mk H
                clear H
                go_wp2
                go_meet
                case rel => exact ⟨_, (false), (by first | rfl | (simp; done) | (simp [*]; done)), H', ⟨by have := HK1.out; have := HJ4.out; first | omega | exact Nat.le_refl _⟩, ⟨by (with_reducible repeat (first | refine blk_drewN ?_ _ | refine blk_drew ?_ | refine blk_alloc ?_ _)); exact BK111.out⟩, ⟨by (with_reducible repeat (first | refine blk_drewN ?_ _ | refine blk_drew ?_ | refine blk_alloc ?_ _)); exact BK112.out⟩, ⟨by repeat (first | (with_reducible first | exact HB.out | apply below_alloc | apply pw_below_drewN | apply below_drew1 | refine below_set ?_ GE111.out | refine below_set ?_ GE112.out) | exact HB.out)⟩⟩
            case rest =>
              clear HC21
              try clear c1
              try clear p1
              try clear q1
              try clear hx1
              try clear c2
              try clear p2
              try clear q2
              try clear hx2
              try clear c6
              try clear c6b0
              try clear p6
              try clear c7
              try clear c7b0
              try clear p8
              try clear q8
              try clear hx8
              try clear c10
              try clear c11
              try clear c11b0
              try clear c11b1
              try clear c12
              try clear c12b0
              try clear c13
              try clear c13b0
              try clear p14
              try clear q14
              try clear hx14
              try clear c15
              try clear c16
              try clear c16b0
              try clear c17
              try clear c17b0
              try clear p18
              try clear q18
              try clear hx18
              try clear c19
              try clear c20
              try clear c20b0
              try clear c22
              try clear c22b0
              try clear c23
              try clear c23b0
              try clear p24
              try clear q24
              try clear hx24
              try clear c26
              try clear p27
              try clear q27
              try clear hx27
              try clear p1
              try clear p14
              try clear p18
              try clear p2
              try clear p24
              try clear p27
              try clear p8
              try clear q1
              try clear q14
              try clear q18
              try clear q24
              try clear q27
              try clear q8
              obtain ⟨kq, x69_20, rfl, HA, HJ20, BK111, BK112, HB⟩ := hcut
              cases kq with
              | zero => exact absurd HA.out (by simp [vestryref08_number.j2])
              | succ kj20 =>
                have H := HA.out
                clear HA
                simp only [vestryref08_number.j2] at H
                by_cases c29 : x69_20 = true
                · subst c29
                  have H1 : ((vestryref08_fault.f 7 x7_1).bind fun bt116 => (some (0, (⟨#[]⟩ : ByteArray), 0, 0, 0, bt116.1, bt116.2))) = some (r1, r2, r3, r4, r5, r6, r7) := by rw [if_pos rfl] at H; exact H
                  clear H
                  have H := H1
                  clear H1
                  replace H := Option.bind_eq_some_iff.mp H
                  obtain ⟨⟨t116, t117⟩, A300, H⟩ := H
                  replace H : (some (0, (⟨#[]⟩ : ByteArray), 0, 0, 0, t116, t117)) = some (r1, r2, r3, r4, r5, r6, r7) := H
                  have A30 := Aside0.mk A300
                  clear A300
                  simp only [Option.some.injEq, Prod.mk.injEq] at H
                  obtain ⟨rfl, rfl, rfl, rfl, rfl, rfl, rfl⟩ := H
                  go_wp2_with (first | ((with_reducible refine gate_callee (f := 18) rfl ?_); refine goesL_ (some 72) rfl rfl Tryd.func18 (by kernel_rfl) rfl #[.int .i64 7, .int .i64 x7_1] rfl (by (try simp only [List.map_toArray, List.map_cons, List.map_nil]); first | done | rfl | (simp only [List.length_drop, List.length_take]; rfl)) ?_; (with_reducible refine (vestryref08_fault.calls 7 x7_1 t116 t117 _ A30.out).mono ?_); rintro e w31 ⟨rfl, hb⟩; refine ⟨_, rfl, ?_⟩; have n0_ := Aside0.mk (blk_below (g := gb111) (o := .cells #[.int .i64 0, .string (⟨#[]⟩ : ByteArray), .int .i64 0, .int .i64 0] 30 (0, 0)) (by (with_reducible repeat (first | refine blk_drewN ?_ _ | refine blk_drew ?_ | refine blk_alloc ?_ _)); exact BK111.out) hb); have n1_ := Aside0.mk (blk_below (g := gb112) (o := .cells #[.int .i64 0, .int .i64 0] 25 (0, 0)) (by (with_reducible repeat (first | refine blk_drewN ?_ _ | refine blk_drew ?_ | refine blk_alloc ?_ _)); exact BK112.out) hb); have n2_ := Aside0.mk (below_step (by repeat (first | (with_reducible first | exact HB.out | apply below_alloc | apply pw_below_drewN | apply below_drew1 | refine below_set ?_ GE111.out | refine below_set ?_ GE112.out) | exact HB.out)) hb); clear BK111; clear BK112; clear HB; have BK111 := n0_; have BK112 := n1_; have HB := n2_; clear n0_ n1_ n2_; (try clear hb); (try clear hb2); (try clear hk); (try clear hi); have hnb32 := NB111_112.out; have hnc32 := NB112_111.out; have hcz33_0 : w31.cell? ⟨gb111, 0, none⟩ = some (.int .i64 0) := (blk_cell BK111.out 0).trans rfl; have hcz33_1 : w31.cell? ⟨gb111, 1, none⟩ = some (.string (⟨#[]⟩ : ByteArray)) := (blk_cell BK111.out 1).trans rfl; have hcz33_2 : w31.cell? ⟨gb111, 2, none⟩ = some (.int .i64 0) := (blk_cell BK111.out 2).trans rfl; have hcz33_3 : w31.cell? ⟨gb111, 3, none⟩ = some (.int .i64 0) := (blk_cell BK111.out 3).trans rfl; have hfz33_0 := blk_frozen BK111.out 0; have hfz33_1 := blk_frozen BK111.out 1; have hfz33_2 := blk_frozen BK111.out 2; have hfz33_3 := blk_frozen BK111.out 3; have hcz34_0 : w31.cell? ⟨gb112, 0, none⟩ = some (.int .i64 0) := (blk_cell BK112.out 0).trans rfl; have hcz34_1 : w31.cell? ⟨gb112, 1, none⟩ = some (.int .i64 0) := (blk_cell BK112.out 1).trans rfl; have hfz34_0 := blk_frozen BK112.out 0; have hfz34_1 := blk_frozen BK112.out 1))
                  refine bodyPost_ret (results_list (rs := [.cell 4 30, .tmp 5, .cell 6 25]) rfl (by simp) (.cell gb111 30 #[.int .i64 0, .string (⟨#[]⟩ : ByteArray), .int .i64 0, .int .i64 0] (0, 0) _ rfl (by (with_reducible repeat (first | refine blk_drewN ?_ _ | refine blk_drew ?_ | refine blk_alloc ?_ _)); refine blk_far ?_ NB111_112.out _; (with_reducible repeat (first | refine blk_drewN ?_ _ | refine blk_drew ?_ | refine blk_alloc ?_ _)); refine blk_far ?_ NB111_112.out _; (with_reducible repeat (first | refine blk_drewN ?_ _ | refine blk_drew ?_ | refine blk_alloc ?_ _)); refine blk_put (cs := #[.int .i64 0, .string (⟨#[]⟩ : ByteArray), .int .i64 0, .int .i64 0]) ?_ 3 _ rfl; (with_reducible repeat (first | refine blk_drewN ?_ _ | refine blk_drew ?_ | refine blk_alloc ?_ _)); refine blk_put (cs := #[.int .i64 0, .string (⟨#[]⟩ : ByteArray), .int .i64 0, .int .i64 0]) ?_ 2 _ rfl; (with_reducible repeat (first | refine blk_drewN ?_ _ | refine blk_drew ?_ | refine blk_alloc ?_ _)); refine blk_put (cs := #[.int .i64 0, .string (⟨#[]⟩ : ByteArray), .int .i64 0, .int .i64 0]) ?_ 1 _ rfl; (with_reducible repeat (first | refine blk_drewN ?_ _ | refine blk_drew ?_ | refine blk_alloc ?_ _)); refine blk_put (cs := #[.int .i64 0, .string (⟨#[]⟩ : ByteArray), .int .i64 0, .int .i64 0]) ?_ 0 _ rfl; (with_reducible repeat (first | refine blk_drewN ?_ _ | refine blk_drew ?_ | refine blk_alloc ?_ _)); exact BK111.out) Tryd.underlying30 rfl (by kernel_rfl) (.tmp (.cell gb112 25 #[.int .i64 t116, .int .i64 t117] (0, 0) _ rfl (by (with_reducible repeat (first | refine blk_drewN ?_ _ | refine blk_drew ?_ | refine blk_alloc ?_ _)); refine blk_put (cs := #[.int .i64 t116, .int .i64 0]) ?_ 1 _ rfl; (with_reducible repeat (first | refine blk_drewN ?_ _ | refine blk_drew ?_ | refine blk_alloc ?_ _)); refine blk_put (cs := #[.int .i64 0, .int .i64 0]) ?_ 0 _ rfl; (with_reducible repeat (first | refine blk_drewN ?_ _ | refine blk_drew ?_ | refine blk_alloc ?_ _)); refine blk_far ?_ NB112_111.out _; (with_reducible repeat (first | refine blk_drewN ?_ _ | refine blk_drew ?_ | refine blk_alloc ?_ _)); refine blk_far ?_ NB112_111.out _; (with_reducible repeat (first | refine blk_drewN ?_ _ | refine blk_drew ?_ | refine blk_alloc ?_ _)); refine blk_far ?_ NB112_111.out _; (with_reducible repeat (first | refine blk_drewN ?_ _ | refine blk_drew ?_ | refine blk_alloc ?_ _)); refine blk_far ?_ NB112_111.out _; (with_reducible repeat (first | refine blk_drewN ?_ _ | refine blk_drew ?_ | refine blk_alloc ?_ _)); exact BK112.out) Tryd.underlying25 rfl (by kernel_rfl) .nil)))) rfl ?_
                  exact ⟨by first | rfl | (simp [errW_none, errW_some] <;> rfl) | (simp [*, errW_none, errW_some] <;> rfl), by repeat (first | (with_reducible first | exact HB.out | apply below_alloc | apply pw_below_drewN | apply below_drew1 | refine below_set ?_ GE111.out | refine below_set ?_ GE112.out) | exact HB.out)⟩
                · replace c29 := Bool.eq_false_iff.mpr c29
                  subst c29
                  have H1 : (if x9_1 = true then ((vestryref08_fault.f 8 a1).bind fun bt118 => (some (0, (⟨#[]⟩ : ByteArray), 0, 0, 0, bt118.1, bt118.2))) else (some (2, (⟨#[]⟩ : ByteArray), x8_1, a1, x7_1, 0, 0))) = some (r1, r2, r3, r4, r5, r6, r7) := by rw [if_neg (show ¬ (false = true) by decide)] at H; exact H
                  clear H
                  have H := H1
                  clear H1
                  by_cases c35 : x9_1 = true
                  · subst c35
                    have H1 : ((vestryref08_fault.f 8 a1).bind fun bt118 => (some (0, (⟨#[]⟩ : ByteArray), 0, 0, 0, bt118.1, bt118.2))) = some (r1, r2, r3, r4, r5, r6, r7) := by rw [if_pos rfl] at H; exact H
                    clear H
                    have H := H1
                    clear H1
                    replace H := Option.bind_eq_some_iff.mp H
                    obtain ⟨⟨t118, t119⟩, A360, H⟩ := H
                    replace H : (some (0, (⟨#[]⟩ : ByteArray), 0, 0, 0, t118, t119)) = some (r1, r2, r3, r4, r5, r6, r7) := H
                    have A36 := Aside0.mk A360
                    clear A360
                    simp only [Option.some.injEq, Prod.mk.injEq] at H
                    obtain ⟨rfl, rfl, rfl, rfl, rfl, rfl, rfl⟩ := H
                    go_wp2_with (first | ((with_reducible refine gate_callee (f := 18) rfl ?_); refine goesL_ (some 76) rfl rfl Tryd.func18 (by kernel_rfl) rfl #[.int .i64 8, .int .i64 a1] rfl (by (try simp only [List.map_toArray, List.map_cons, List.map_nil]); first | done | rfl | (simp only [List.length_drop, List.length_take]; rfl)) ?_; (with_reducible refine (vestryref08_fault.calls 8 a1 t118 t119 _ A36.out).mono ?_); rintro e w37 ⟨rfl, hb⟩; refine ⟨_, rfl, ?_⟩; have n0_ := Aside0.mk (blk_below (g := gb111) (o := .cells #[.int .i64 0, .string (⟨#[]⟩ : ByteArray), .int .i64 0, .int .i64 0] 30 (0, 0)) (by (with_reducible repeat (first | refine blk_drewN ?_ _ | refine blk_drew ?_ | refine blk_alloc ?_ _)); exact BK111.out) hb); have n1_ := Aside0.mk (blk_below (g := gb112) (o := .cells #[.int .i64 0, .int .i64 0] 25 (0, 0)) (by (with_reducible repeat (first | refine blk_drewN ?_ _ | refine blk_drew ?_ | refine blk_alloc ?_ _)); exact BK112.out) hb); have n2_ := Aside0.mk (below_step (by repeat (first | (with_reducible first | exact HB.out | apply below_alloc | apply pw_below_drewN | apply below_drew1 | refine below_set ?_ GE111.out | refine below_set ?_ GE112.out) | exact HB.out)) hb); clear BK111; clear BK112; clear HB; have BK111 := n0_; have BK112 := n1_; have HB := n2_; clear n0_ n1_ n2_; (try clear hb); (try clear hb2); (try clear hk); (try clear hi); have hnb38 := NB111_112.out; have hnc38 := NB112_111.out; have hcz39_0 : w37.cell? ⟨gb111, 0, none⟩ = some (.int .i64 0) := (blk_cell BK111.out 0).trans rfl; have hcz39_1 : w37.cell? ⟨gb111, 1, none⟩ = some (.string (⟨#[]⟩ : ByteArray)) := (blk_cell BK111.out 1).trans rfl; have hcz39_2 : w37.cell? ⟨gb111, 2, none⟩ = some (.int .i64 0) := (blk_cell BK111.out 2).trans rfl; have hcz39_3 : w37.cell? ⟨gb111, 3, none⟩ = some (.int .i64 0) := (blk_cell BK111.out 3).trans rfl; have hfz39_0 := blk_frozen BK111.out 0; have hfz39_1 := blk_frozen BK111.out 1; have hfz39_2 := blk_frozen BK111.out 2; have hfz39_3 := blk_frozen BK111.out 3; have hcz40_0 : w37.cell? ⟨gb112, 0, none⟩ = some (.int .i64 0) := (blk_cell BK112.out 0).trans rfl; have hcz40_1 : w37.cell? ⟨gb112, 1, none⟩ = some (.int .i64 0) := (blk_cell BK112.out 1).trans rfl; have hfz40_0 := blk_frozen BK112.out 0; have hfz40_1 := blk_frozen BK112.out 1))
                    refine bodyPost_ret (results_list (rs := [.cell 4 30, .tmp 5, .cell 6 25]) rfl (by simp) (.cell gb111 30 #[.int .i64 0, .string (⟨#[]⟩ : ByteArray), .int .i64 0, .int .i64 0] (0, 0) _ rfl (by (with_reducible repeat (first | refine blk_drewN ?_ _ | refine blk_drew ?_ | refine blk_alloc ?_ _)); refine blk_far ?_ NB111_112.out _; (with_reducible repeat (first | refine blk_drewN ?_ _ | refine blk_drew ?_ | refine blk_alloc ?_ _)); refine blk_far ?_ NB111_112.out _; (with_reducible repeat (first | refine blk_drewN ?_ _ | refine blk_drew ?_ | refine blk_alloc ?_ _)); refine blk_put (cs := #[.int .i64 0, .string (⟨#[]⟩ : ByteArray), .int .i64 0, .int .i64 0]) ?_ 3 _ rfl; (with_reducible repeat (first | refine blk_drewN ?_ _ | refine blk_drew ?_ | refine blk_alloc ?_ _)); refine blk_put (cs := #[.int .i64 0, .string (⟨#[]⟩ : ByteArray), .int .i64 0, .int .i64 0]) ?_ 2 _ rfl; (with_reducible repeat (first | refine blk_drewN ?_ _ | refine blk_drew ?_ | refine blk_alloc ?_ _)); refine blk_put (cs := #[.int .i64 0, .string (⟨#[]⟩ : ByteArray), .int .i64 0, .int .i64 0]) ?_ 1 _ rfl; (with_reducible repeat (first | refine blk_drewN ?_ _ | refine blk_drew ?_ | refine blk_alloc ?_ _)); refine blk_put (cs := #[.int .i64 0, .string (⟨#[]⟩ : ByteArray), .int .i64 0, .int .i64 0]) ?_ 0 _ rfl; (with_reducible repeat (first | refine blk_drewN ?_ _ | refine blk_drew ?_ | refine blk_alloc ?_ _)); exact BK111.out) Tryd.underlying30 rfl (by kernel_rfl) (.tmp (.cell gb112 25 #[.int .i64 t118, .int .i64 t119] (0, 0) _ rfl (by (with_reducible repeat (first | refine blk_drewN ?_ _ | refine blk_drew ?_ | refine blk_alloc ?_ _)); refine blk_put (cs := #[.int .i64 t118, .int .i64 0]) ?_ 1 _ rfl; (with_reducible repeat (first | refine blk_drewN ?_ _ | refine blk_drew ?_ | refine blk_alloc ?_ _)); refine blk_put (cs := #[.int .i64 0, .int .i64 0]) ?_ 0 _ rfl; (with_reducible repeat (first | refine blk_drewN ?_ _ | refine blk_drew ?_ | refine blk_alloc ?_ _)); refine blk_far ?_ NB112_111.out _; (with_reducible repeat (first | refine blk_drewN ?_ _ | refine blk_drew ?_ | refine blk_alloc ?_ _)); refine blk_far ?_ NB112_111.out _; (with_reducible repeat (first | refine blk_drewN ?_ _ | refine blk_drew ?_ | refine blk_alloc ?_ _)); refine blk_far ?_ NB112_111.out _; (with_reducible repeat (first | refine blk_drewN ?_ _ | refine blk_drew ?_ | refine blk_alloc ?_ _)); refine blk_far ?_ NB112_111.out _; (with_reducible repeat (first | refine blk_drewN ?_ _ | refine blk_drew ?_ | refine blk_alloc ?_ _)); exact BK112.out) Tryd.underlying25 rfl (by kernel_rfl) .nil)))) rfl ?_
                    exact ⟨by first | rfl | (simp [errW_none, errW_some] <;> rfl) | (simp [*, errW_none, errW_some] <;> rfl), by repeat (first | (with_reducible first | exact HB.out | apply below_alloc | apply pw_below_drewN | apply below_drew1 | refine below_set ?_ GE111.out | refine below_set ?_ GE112.out) | exact HB.out)⟩
                  · replace c35 := Bool.eq_false_iff.mpr c35
                    subst c35
                    have H1 : (some (2, (⟨#[]⟩ : ByteArray), x8_1, a1, x7_1, 0, 0)) = some (r1, r2, r3, r4, r5, r6, r7) := by rw [if_neg (show ¬ (false = true) by decide)] at H; exact H
                    clear H
                    have H := H1
                    clear H1
                    simp only [Option.some.injEq, Prod.mk.injEq] at H
                    obtain ⟨rfl, rfl, rfl, rfl, rfl, rfl, rfl⟩ := H
                    have hnb41 := NB111_112.out
                    have hnc41 := NB112_111.out
                    have hcz42_0 : wc.cell? ⟨gb111, 0, none⟩ = some (.int .i64 0) := (blk_cell BK111.out 0).trans rfl
                    have hcz42_1 : wc.cell? ⟨gb111, 1, none⟩ = some (.string (⟨#[]⟩ : ByteArray)) := (blk_cell BK111.out 1).trans rfl
                    have hcz42_2 : wc.cell? ⟨gb111, 2, none⟩ = some (.int .i64 0) := (blk_cell BK111.out 2).trans rfl
                    have hcz42_3 : wc.cell? ⟨gb111, 3, none⟩ = some (.int .i64 0) := (blk_cell BK111.out 3).trans rfl
                    have hfz42_0 := blk_frozen BK111.out 0
                    have hfz42_1 := blk_frozen BK111.out 1
                    have hfz42_2 := blk_frozen BK111.out 2
                    have hfz42_3 := blk_frozen BK111.out 3
                    have hcz43_0 : wc.cell? ⟨gb112, 0, none⟩ = some (.int .i64 0) := (blk_cell BK112.out 0).trans rfl
                    have hcz43_1 : wc.cell? ⟨gb112, 1, none⟩ = some (.int .i64 0) := (blk_cell BK112.out 1).trans rfl
                    have hfz43_0 := blk_frozen BK112.out 0
                    have hfz43_1 := blk_frozen BK112.out 1
                    go_wp2
                    refine bodyPost_ret (results_list (rs := [.cell 4 30, .tmp 5, .cell 6 25]) rfl (by simp) (.cell gb111 30 #[.int .i64 2, .string (⟨#[]⟩ : ByteArray), .int .i64 x8_1, .int .i64 a1] (0, 0) _ rfl (by (with_reducible repeat (first | refine blk_drewN ?_ _ | refine blk_drew ?_ | refine blk_alloc ?_ _)); refine blk_far ?_ NB111_112.out _; (with_reducible repeat (first | refine blk_drewN ?_ _ | refine blk_drew ?_ | refine blk_alloc ?_ _)); refine blk_far ?_ NB111_112.out _; (with_reducible repeat (first | refine blk_drewN ?_ _ | refine blk_drew ?_ | refine blk_alloc ?_ _)); refine blk_put (cs := #[.int .i64 2, .string (⟨#[]⟩ : ByteArray), .int .i64 x8_1, .int .i64 0]) ?_ 3 _ rfl; (with_reducible repeat (first | refine blk_drewN ?_ _ | refine blk_drew ?_ | refine blk_alloc ?_ _)); refine blk_put (cs := #[.int .i64 2, .string (⟨#[]⟩ : ByteArray), .int .i64 0, .int .i64 0]) ?_ 2 _ rfl; (with_reducible repeat (first | refine blk_drewN ?_ _ | refine blk_drew ?_ | refine blk_alloc ?_ _)); refine blk_put (cs := #[.int .i64 2, .string (⟨#[]⟩ : ByteArray), .int .i64 0, .int .i64 0]) ?_ 1 _ rfl; (with_reducible repeat (first | refine blk_drewN ?_ _ | refine blk_drew ?_ | refine blk_alloc ?_ _)); refine blk_put (cs := #[.int .i64 0, .string (⟨#[]⟩ : ByteArray), .int .i64 0, .int .i64 0]) ?_ 0 _ rfl; (with_reducible repeat (first | refine blk_drewN ?_ _ | refine blk_drew ?_ | refine blk_alloc ?_ _)); exact BK111.out) Tryd.underlying30 rfl (by kernel_rfl) (.tmp (.cell gb112 25 #[.int .i64 0, .int .i64 0] (0, 0) _ rfl (by (with_reducible repeat (first | refine blk_drewN ?_ _ | refine blk_drew ?_ | refine blk_alloc ?_ _)); refine blk_put (cs := #[.int .i64 0, .int .i64 0]) ?_ 1 _ rfl; (with_reducible repeat (first | refine blk_drewN ?_ _ | refine blk_drew ?_ | refine blk_alloc ?_ _)); refine blk_put (cs := #[.int .i64 0, .int .i64 0]) ?_ 0 _ rfl; (with_reducible repeat (first | refine blk_drewN ?_ _ | refine blk_drew ?_ | refine blk_alloc ?_ _)); refine blk_far ?_ NB112_111.out _; (with_reducible repeat (first | refine blk_drewN ?_ _ | refine blk_drew ?_ | refine blk_alloc ?_ _)); refine blk_far ?_ NB112_111.out _; (with_reducible repeat (first | refine blk_drewN ?_ _ | refine blk_drew ?_ | refine blk_alloc ?_ _)); refine blk_far ?_ NB112_111.out _; (with_reducible repeat (first | refine blk_drewN ?_ _ | refine blk_drew ?_ | refine blk_alloc ?_ _)); refine blk_far ?_ NB112_111.out _; (with_reducible repeat (first | refine blk_drewN ?_ _ | refine blk_drew ?_ | refine blk_alloc ?_ _)); exact BK112.out) Tryd.underlying25 rfl (by kernel_rfl) .nil)))) rfl ?_
                    exact ⟨by first | rfl | (simp [errW_none, errW_some] <;> rfl) | (simp [*, errW_none, errW_some] <;> rfl), by repeat (first | (with_reducible first | exact HB.out | apply below_alloc | apply pw_below_drewN | apply below_drew1 | refine below_set ?_ GE111.out | refine below_set ?_ GE112.out) | exact HB.out)⟩
end Go.Proofs.YtafndkgoeabehaaDoor.PTokens
