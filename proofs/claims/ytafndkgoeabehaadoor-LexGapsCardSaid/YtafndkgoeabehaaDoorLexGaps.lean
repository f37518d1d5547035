/- (*reader).gaps: walked. -/
import Derived.Test.YtafndkgoeabehaaDoorLexMem
import Derived.Test.YtafndkgoeabehaaDoorLexGap
import Derived.Test.YtafndkgoeabehaaDoorLexWord
import Derived.ScopeJumps
import Derived.WalkMore
namespace Go.Proofs.YtafndkgoeabehaaDoor.LexGaps
open Go Go.RowKit Go.Proofs.YtafndkgoeabehaaDoor.LexPure Go.Proofs.YtafndkgoeabehaaDoor.LexGap Go.Proofs.YtafndkgoeabehaaDoor.LexMem Go.Proofs.YtafndkgoeabehaaDoor.LexWord Go.Proofs.YtafndkgoeabehaaDoorW.PrintWords

def MaxVar (w : World) : Prop := ∃ m, w.cell? ⟨0, 0, none⟩ = some (.int .i64 m)
theorem max_below {B : Nat} {w w' : World} (h : Below B w w') (hB : 0 < B) (t : MaxVar w) : MaxVar w' := by
  obtain ⟨m, hm⟩ := t
  exact ⟨m, (h.cell (p := ⟨0, 0, none⟩) hB).trans hm⟩

def Fr (b : Nat) (a : Act) : Prop :=
  ∃ (u1 u3 u4 u5 u6 u7 u8 u9 u10 u11 u12 u13 u14 u15 u16 u17 u18 u19 u20 u21 u22 u23 u24 u25 u26 u27 u28 u29 u30 u31 u32 u33 u34 u35 u36 u37 u38 u39 u40 u41 u42 u43 u44 u45 u46 u47 u48 u49 u50 u51 u52 u53 u54 u55 u56 u57 u58 u59 u60 u61 u62 u63 u64 u65 u66 u67 u68 u69 : Value), a = { tmps := #[.pointer (some ⟨b, 0, none⟩), u1, .bool false, u3, u4, u5, u6, u7, u8, u9, u10, u11, u12, u13, u14, u15, u16, u17, u18, u19, u20, u21, u22, u23, u24, u25, u26, u27, u28, u29, u30, u31, u32, u33, u34, u35, u36, u37, u38, u39, u40, u41, u42, u43, u44, u45, u46, u47, u48, u49, u50, u51, u52, u53, u54, u55, u56, u57, u58, u59, u60, u61, u62, u63, u64, u65, u66, u67, u68, u69], defers := [] }

/-- what the reader is behind its gaps -/
def After (w' : World) (B b : Nat) (s : ByteArray) (q : Nat) (l : List Tk) (why fat : Int) (g : Nat × Bool) : Prop :=
  (g.2 = true → RS w' B b s ((q + g.1 : Nat) : Int) l why fat) ∧ (g.2 = false → RS w' B b s ((q + g.1 : Nat) : Int) l 7 ((q + g.1 : Nat) : Int))

section
variable {w : World} {B b : Nat} {s : ByteArray} {p q n : Nat} {l : List Tk} {why fat : Int} {L M : List UInt8} {nq : Nat}
theorem done_ok (h : RS w B b s (p : Int) l why fat) (hG : G L = (p - q + (G M).1, (G M).2)) (hN : G M = (0, true)) (hp : q ≤ p) : After (w.drewN nq) B b s q l why fat (G L) := by
  rw [hG, hN]
  have e : q + (p - q + 0) = p := by omega
  exact ⟨fun _ => (by rw [e]; exact h.drewN nq), fun x => (by cases x)⟩
theorem done_bad (h : RS w B b s (p : Int) l 7 (p : Int)) (hG : G L = (p - q + (G M).1, (G M).2)) (hN : G M = (0, false)) (hp : q ≤ p) : After w B b s q l why fat (G L) := by
  rw [hG, hN]
  have e : q + (p - q + 0) = p := by omega
  exact ⟨fun x => (by cases x), fun _ => (by rw [e]; exact h)⟩
theorem jump_G {K : List UInt8} (hG : G L = (p - q + (G (K.drop p)).1, (G (K.drop p)).2)) (hN : G (K.drop p) = (n + (G ((K.drop p).drop n)).1, (G ((K.drop p).drop n)).2)) (hp : q ≤ p) : G L = (p + n - q + (G (K.drop (p + n))).1, (G (K.drop (p + n))).2) := by
  rw [List.drop_drop] at hN
  rw [hG, hN]
  simp only [Prod.mk.injEq, and_true]
  omega
theorem RS_at {v : Value} {x : Int} (h0 : B ≤ b) (hb : Blk w b 38 #[.string s, .int .i64 (p : Int), v, .int .i64 why, .int .i64 fat]) (ho : w.ownsRow B 30 4 v l.length (cellsOf l)) (hx : ((p + n : Nat) : Int) = x) :
    RS ((w.drewN nq).setCell ⟨b, 1, none⟩ (.int .i64 x)) B b s ((p + n : Nat) : Int) l why fat := by
  rw [hx]
  exact RS.set_ 1 _ h0 (hb.drewN nq) ho rfl
def mu (s : ByteArray) (b : Nat) (w : World) : Nat := s.size - (match w.cell? ⟨b, 1, none⟩ with | some v => (intOf v).toNat | none => 0)
theorem mu_RS (h : RS w B b s (p : Int) l why fat) : mu s b w = s.size - p := by
  obtain ⟨_, v, hb, _⟩ := h
  have := hb.cell 1
  simp at this
  unfold mu
  rw [this]
  simp [intOf]
theorem mu_lt {w' : World} (h : RS w B b s (p : Int) l why fat) (h' : RS w' B b s ((p + n : Nat) : Int) l why fat) (hle : p + n ≤ s.size) (hn : 0 < n) : mu s b w' < mu s b w := by
  rw [mu_RS h, mu_RS h']
  omega
end

set_option maxRecDepth 100000 in
set_option maxHeartbeats 4000000 in
theorem gaps_any (w : World) (B b : Nat) (s : ByteArray) (q : Nat) (l : List Tk) (why fat : Int) (h : RS w B b s (q : Int) l why fat) (hq : q ≤ s.size) (hs : s.size ≤ 65536) (hB : 0 < B) (hm : MaxVar w) :
    Calls Tryd.prog 16 #[.pointer (some ⟨b, 0, none⟩)] w fun e w' => e = .returned (.bool (G (s.data.toList.drop q)).2) ∧ Below B w w' ∧ After w' B b s q l why fat (G (s.data.toList.drop q)) := by
  have hz : s.size = s.data.toList.length := Lib.size_eq s
  have HZ := Lib.hid hz
  have HS := Lib.hid hs
  have HB := Lib.hid hB
  have HM := Lib.hid hm
  have HR := Lib.hid h
  have HQ := Lib.hid hq
  clear hz hs hB hm h hq
  go_enter Tryd.func16, Tryd.ntmps16
  go_wp2
  refine wp_scope_jumps 0 (fun a' w' => Below B w w' ∧ Fr b a' ∧ ∃ p : Nat, q ≤ p ∧ p ≤ s.size ∧ RS w' B b s (p : Int) l why fat ∧ G (s.data.toList.drop q) = (p - q + (G (s.data.toList.drop p)).1, (G (s.data.toList.drop p)).2)) (fun _ w' => mu s b w') rfl ?_ ?_
  · have bel : Below B w w := Below.refl _ _
    have hR := HR.out
    obtain ⟨p, hpq⟩ : ∃ p, q = p := ⟨_, rfl⟩
    have hp1 : q ≤ p := by omega
    have hp2 : p ≤ s.size := by have := HQ.out; omega
    have hG : G (s.data.toList.drop q) = (p - q + (G (s.data.toList.drop p)).1, (G (s.data.toList.drop p)).2) := by rw [hpq]; simp
    rw [hpq] at hR
    clear HR HQ hpq
    go_wp2
    go_step3
    obtain ⟨h0, v, hb, ho⟩ := id hR
    have c0 := hb.cell 0
    have c1 := hb.cell 1
    have f1 := hb.frozen 1
    have HRp := Lib.hid hR
    have HBL := Lib.hid bel
    have HG := Lib.hid hG
    have HBk := Lib.hid hb
    have HOw := Lib.hid ho
    obtain ⟨m, hm⟩ := max_below bel HB.out HM.out
    simp at c0 c1
    clear hR bel hG hb ho
    obtain ⟨t, ht⟩ : ∃ t, s.extract p s.size = t := ⟨_, rfl⟩
    have htl : t.data.toList = s.data.toList.drop p := by rw [← ht]; exact drop_data s p
    have htz : t.size = s.size - p := by rw [Lib.size_eq, htl, List.length_drop, ← HZ.out]
    have hs16 := HS.out
    have htb : t.size ≤ 65536 := by omega
    have HTL := Lib.hid htl
    have HTZ := Lib.hid htz
    cases hl : s.data.toList.drop p with
    | nil =>
      have e1 : t.toList.isEmpty = true := by rw [Lib.toList_data, htl, hl]; rfl
      have HN := Lib.hid (G_none (l := s.data.toList.drop p) (by rw [hl]; rfl))
      clear htz htl hl
      go_wp2
      go_quiet (fail)
      go_wp2
      (try simp only [Exit.jump])
      go_ret
      exact ⟨by rw [HG.out, HN.out]; rfl, pw_below_drewN HBL.out _, done_ok HRp.out HG.out HN.out hp1⟩
    | cons c r =>
      rw [hl] at htl
      have hg1 := gap1_cons c r
      have e1 : t.toList.isEmpty = false := by rw [Lib.toList_data, htl]; rfl
      have hb0 := (bt_of t 0 c r (by rw [htl]; rfl)).1
      have hx : ∀ h : 0 < t.size, ((t[0]'h).toNat : Int) = bt t 0 := bt_at t 0
      have hz0 : 0 < t.size := by rw [Lib.size_eq, htl]; simp
      have hI : ∀ w, Calls Tryd.prog 28 #[.string ⟨#[32, 9, 10, 13]⟩, .int .u8 (bt t 0)] w fun e w' => e = .returned (.int .i64 (Lib.indexByte [32, 9, 10, 13] c)) ∧ w' = w := fun w => by
        have := Tryd.strings_IndexByte ⟨#[32, 9, 10, 13]⟩ (bt t 0) w
        have hc : (bt t 0).toNat.toUInt8 = c := by have h : bt t 0 = c.toNat := hb0; rw [h, Int.toNat_natCast]; exact UInt8.ofNat_toNat
        rw [hc] at this
        exact this
      obtain ⟨I, hIv⟩ : ∃ I, Lib.indexByte [32, 9, 10, 13] c = I := ⟨_, rfl⟩
      have hbl := blank_index c
      rw [hIv] at hI hbl
      have HI := Lib.hid hI
      clear hI hIv
      by_cases hbk : LexPure.blank c = true
      · rw [hbk] at hbl
        have HN := Lib.hid (G_some (l := s.data.toList.drop p) (n := 1) (by rw [hl, hg1, if_pos hbk]; rfl) (by decide))
        have HLE := Lib.hid (show p + 1 ≤ s.size by omega)
        clear htz htl hl hg1 hb0 hbk
        go_wp2
        go_quiet (fail)
        go_wp2_with (first
      | (go_at_call 28; (with_reducible refine (HI.out _).mono ?_); rintro e w2 ⟨rfl, rfl⟩)
      | (go_at_call 28; (with_reducible refine (HI2.out _).mono ?_); rintro e w2 ⟨rfl, rfl⟩)
      | (go_at_call 29; (with_reducible refine (HP1.out _).mono ?_); rintro e w2 ⟨rfl, rfl⟩)
      | (go_at_call 29; (with_reducible refine (HP2.out _).mono ?_); rintro e w2 ⟨rfl, rfl⟩)
      | (go_at_call 30; (with_reducible refine (HI3.out _).mono ?_); rintro e w2 ⟨rfl, rfl⟩)
      | (go_at_call 31; refine (fail_any _ B b s (p : Int) l why fat 7 (p : Int) (HRp.out.drewN _)).mono ?_; rintro e w3 ⟨rfl, hr3, hb3⟩))
        go_step3
        exact ⟨rfl, ⟨(pw_below_drewN HBL.out _).setCell (p := ⟨b, 1, none⟩) h0 _, ⟨_, _, _, _, _, _, _, _, _, _, _, _, _, _, _, _, _, _, _, _, _, _, _, _, _, _, _, _, _, _, _, _, _, _, _, _, _, _, _, _, _, _, _, _, _, _, _, _, _, _, _, _, _, _, _, _, _, _, _, _, _, _, _, _, _, _, _, _, rfl⟩, p + 1, by omega, (by have := HLE.out; have := HTZ.out; omega), RS_at (n := 1) h0 HBk.out HOw.out (by push_cast; rfl), jump_G HG.out HN.out hp1⟩⟩
      · have hbf : LexPure.blank c = false := by simpa using hbk
        rw [hbf] at hbl
        rw [if_neg hbk] at hg1
        have hP1 : ∀ w, Calls Tryd.prog 29 #[.string t, .string ⟨#[47, 47]⟩] w fun e w' => e = .returned (.bool ([47, 47].isPrefixOf (c :: r))) ∧ w' = w := fun w => by
          have := Tryd.strings_HasPrefix t ⟨#[47, 47]⟩ w
          rw [htl] at this
          exact this
        by_cases hp47 : [47, 47].isPrefixOf (c :: r) = true
        · rw [hp47] at hP1
          rw [if_pos hp47] at hg1
          have HP1 := Lib.hid hP1
          have hI2 : ∀ w, Calls Tryd.prog 28 #[.string t, .int .u8 10] w fun e w' => e = .returned (.int .i64 (Lib.indexByte (c :: r) 10)) ∧ w' = w := fun w => by
            have := Tryd.strings_IndexByte t 10 w
            rw [htl] at this
            exact this
          have he := eol_index (c :: r)
          have hel := eol_le (c :: r)
          have hpos : 0 < eol (c :: r) := by
            have : c = 47 := by
              have := List.isPrefixOf_iff_prefix.1 hp47
              obtain ⟨u, hu⟩ := this
              simp at hu
              exact hu.1.symm
            subst this
            unfold eol
            rw [if_neg (by decide)]
            omega
          have htz2 : (c :: r).length = t.size := by rw [Lib.size_eq, htl]
          obtain ⟨n, hn⟩ : ∃ n, eol (c :: r) = n := ⟨_, rfl⟩
          rw [hn] at he hel hpos hg1
          have HN := Lib.hid (G_some (l := s.data.toList.drop p) (n := n) (by rw [hl]; exact hg1) hpos)
          have HLE := Lib.hid (show p + n ≤ s.size by omega)
          obtain ⟨I2, hI2v⟩ : ∃ I, Lib.indexByte (c :: r) 10 = I := ⟨_, rfl⟩
          rw [hI2v] at hI2 he
          have HI2 := Lib.hid hI2
          by_cases hlt : I2 < 0
          · have hn2 : n = t.size := by rw [← htz2]; exact he.1 hlt
            subst hn2
            have hltb : decide (I2 < 0) = true := decide_eq_true hlt
            clear hI2 he hel hpos hg1 htz htl hl hb0 hbk hp47 hP1 htz2 hn hI2v
            go_wp2
            go_quiet (fail)
            go_wp2_with (first
      | (go_at_call 28; (with_reducible refine (HI.out _).mono ?_); rintro e w2 ⟨rfl, rfl⟩)
      | (go_at_call 28; (with_reducible refine (HI2.out _).mono ?_); rintro e w2 ⟨rfl, rfl⟩)
      | (go_at_call 29; (with_reducible refine (HP1.out _).mono ?_); rintro e w2 ⟨rfl, rfl⟩)
      | (go_at_call 29; (with_reducible refine (HP2.out _).mono ?_); rintro e w2 ⟨rfl, rfl⟩)
      | (go_at_call 30; (with_reducible refine (HI3.out _).mono ?_); rintro e w2 ⟨rfl, rfl⟩)
      | (go_at_call 31; refine (fail_any _ B b s (p : Int) l why fat 7 (p : Int) (HRp.out.drewN _)).mono ?_; rintro e w3 ⟨rfl, hr3, hb3⟩))
            go_step3
            exact ⟨rfl, ⟨(pw_below_drewN HBL.out _).setCell (p := ⟨b, 1, none⟩) h0 _, ⟨_, _, _, _, _, _, _, _, _, _, _, _, _, _, _, _, _, _, _, _, _, _, _, _, _, _, _, _, _, _, _, _, _, _, _, _, _, _, _, _, _, _, _, _, _, _, _, _, _, _, _, _, _, _, _, _, _, _, _, _, _, _, _, _, _, _, _, _, rfl⟩, p + t.size, by omega, (by have := HLE.out; have := HTZ.out; omega), RS_at (n := t.size) h0 HBk.out HOw.out (by push_cast; rfl), jump_G HG.out HN.out hp1⟩⟩
          · have hn2 : I2 = (n : Int) := he.2 hlt
            subst hn2
            have hltb : decide ((n : Int) < 0) = false := decide_eq_false hlt
            have hn65 : (n : Int) ≤ 65536 := by omega
            clear hI2 he hel hg1 htz htl hl hb0 hbk hp47 hP1 htz2 hn hI2v
            go_wp2
            go_quiet (fail)
            go_wp2_with (first
      | (go_at_call 28; (with_reducible refine (HI.out _).mono ?_); rintro e w2 ⟨rfl, rfl⟩)
      | (go_at_call 28; (with_reducible refine (HI2.out _).mono ?_); rintro e w2 ⟨rfl, rfl⟩)
      | (go_at_call 29; (with_reducible refine (HP1.out _).mono ?_); rintro e w2 ⟨rfl, rfl⟩)
      | (go_at_call 29; (with_reducible refine (HP2.out _).mono ?_); rintro e w2 ⟨rfl, rfl⟩)
      | (go_at_call 30; (with_reducible refine (HI3.out _).mono ?_); rintro e w2 ⟨rfl, rfl⟩)
      | (go_at_call 31; refine (fail_any _ B b s (p : Int) l why fat 7 (p : Int) (HRp.out.drewN _)).mono ?_; rintro e w3 ⟨rfl, hr3, hb3⟩))
            go_step3
            exact ⟨rfl, ⟨(pw_below_drewN HBL.out _).setCell (p := ⟨b, 1, none⟩) h0 _, ⟨_, _, _, _, _, _, _, _, _, _, _, _, _, _, _, _, _, _, _, _, _, _, _, _, _, _, _, _, _, _, _, _, _, _, _, _, _, _, _, _, _, _, _, _, _, _, _, _, _, _, _, _, _, _, _, _, _, _, _, _, _, _, _, _, _, _, _, _, rfl⟩, p + n, by omega, (by have := HLE.out; have := HTZ.out; omega), RS_at (n := n) h0 HBk.out HOw.out (by push_cast; rfl), jump_G HG.out HN.out hp1⟩⟩
        · have hp47f : [47, 47].isPrefixOf (c :: r) = false := Bool.eq_false_iff.2 hp47
          rw [hp47f] at hP1
          rw [if_neg hp47] at hg1
          have HP1 := Lib.hid hP1
          have hP2 : ∀ w, Calls Tryd.prog 29 #[.string t, .string ⟨#[47, 42]⟩] w fun e w' => e = .returned (.bool ([47, 42].isPrefixOf (c :: r))) ∧ w' = w := fun w => by
            have := Tryd.strings_HasPrefix t ⟨#[47, 42]⟩ w
            rw [htl] at this
            exact this
          by_cases hp42 : [47, 42].isPrefixOf (c :: r) = true
          · rw [hp42] at hP2
            rw [if_pos hp42] at hg1
            have HP2 := Lib.hid hP2
            have hlen : 2 ≤ t.size := by
              have h5 := List.IsPrefix.length_le (List.isPrefixOf_iff_prefix.1 hp42)
              rw [Lib.size_eq, htl]; exact h5
            have hd2 : (t.extract 2 t.size).data.toList = r.drop 1 := by rw [drop_data, htl]; rfl
            have hI3 : ∀ n, Calls Tryd.prog 30 #[.string (t.extract 2 t.size), .string ⟨#[42, 47]⟩] (w.drewN n) fun e w2 => e = .returned (.int .i64 (Lib.index (r.drop 1) [42, 47])) ∧ w2 = w.drewN n := fun n => by
              have := Tryd.strings_Index (t.extract 2 t.size) ⟨#[42, 47]⟩ m (w.drewN n) (by rw [Lib.size_eq, drop_data, List.length_drop, ← Lib.size_eq]; omega) hm
              rw [hd2] at this
              exact this
            have hci := close_index (r.drop 1)
            obtain ⟨I3, hI3v⟩ : ∃ I, Lib.index (r.drop 1) [42, 47] = I := ⟨_, rfl⟩
            rw [hI3v] at hI3 hci
            have HI3 := Lib.hid hI3
            by_cases hlt : I3 < 0
            · have hltb : decide (I3 < 0) = true := decide_eq_true hlt
              have HN := Lib.hid (G_open (l := s.data.toList.drop p) (by rw [hl, hg1, hci.1 hlt]; decide))
              clear hI3 hci hg1 htz htl hl hb0 hbk hp47 hp42 hP1 hP2 hd2 hlt hI3v
              go_wp2
              go_quiet (fail)
              go_wp2_with (first
      | (go_at_call 28; (with_reducible refine (HI.out _).mono ?_); rintro e w2 ⟨rfl, rfl⟩)
      | (go_at_call 28; (with_reducible refine (HI2.out _).mono ?_); rintro e w2 ⟨rfl, rfl⟩)
      | (go_at_call 29; (with_reducible refine (HP1.out _).mono ?_); rintro e w2 ⟨rfl, rfl⟩)
      | (go_at_call 29; (with_reducible refine (HP2.out _).mono ?_); rintro e w2 ⟨rfl, rfl⟩)
      | (go_at_call 30; (with_reducible refine (HI3.out _).mono ?_); rintro e w2 ⟨rfl, rfl⟩)
      | (go_at_call 31; refine (fail_any _ B b s (p : Int) l why fat 7 (p : Int) (HRp.out.drewN _)).mono ?_; rintro e w3 ⟨rfl, hr3, hb3⟩))
              (try simp only [Exit.jump])
              go_ret
              exact ⟨by rw [HG.out, HN.out]; rfl, (pw_below_drewN HBL.out _).trans hb3, done_bad hr3 HG.out HN.out hp1⟩
            · obtain ⟨n, hn1, hn2⟩ := hci.2 hlt
              subst hn1
              have hcl := close_le _ _ hn2
              have hlr : (r.drop 1).length + 2 = t.size := by rw [List.length_drop, Lib.size_eq, htl]; have := hlen; rw [Lib.size_eq, htl] at this; simp at this ⊢; omega
              have hltb : decide ((n : Int) < 0) = false := decide_eq_false hlt
              have hn65 : (n : Int) ≤ 65536 := by omega
              have HN := Lib.hid (G_some (l := s.data.toList.drop p) (n := n + 4) (by rw [hl, hg1, hn2]) (by omega))
              have HLE := Lib.hid (show p + (n + 4) ≤ s.size by omega)
              clear hI3 hci hg1 htz htl hl hb0 hbk hp47 hp42 hP1 hP2 hd2 hlt hI3v hn2 hcl hlr
              go_wp2
              go_quiet (fail)
              go_wp2_with (first
      | (go_at_call 28; (with_reducible refine (HI.out _).mono ?_); rintro e w2 ⟨rfl, rfl⟩)
      | (go_at_call 28; (with_reducible refine (HI2.out _).mono ?_); rintro e w2 ⟨rfl, rfl⟩)
      | (go_at_call 29; (with_reducible refine (HP1.out _).mono ?_); rintro e w2 ⟨rfl, rfl⟩)
      | (go_at_call 29; (with_reducible refine (HP2.out _).mono ?_); rintro e w2 ⟨rfl, rfl⟩)
      | (go_at_call 30; (with_reducible refine (HI3.out _).mono ?_); rintro e w2 ⟨rfl, rfl⟩)
      | (go_at_call 31; refine (fail_any _ B b s (p : Int) l why fat 7 (p : Int) (HRp.out.drewN _)).mono ?_; rintro e w3 ⟨rfl, hr3, hb3⟩))
              go_step3
              exact ⟨rfl, ⟨(pw_below_drewN HBL.out _).setCell (p := ⟨b, 1, none⟩) h0 _, ⟨_, _, _, _, _, _, _, _, _, _, _, _, _, _, _, _, _, _, _, _, _, _, _, _, _, _, _, _, _, _, _, _, _, _, _, _, _, _, _, _, _, _, _, _, _, _, _, _, _, _, _, _, _, _, _, _, _, _, _, _, _, _, _, _, _, _, _, _, rfl⟩, p + (n + 4), by omega, (by have := HLE.out; have := HTZ.out; omega), RS_at (n := (n + 4)) h0 HBk.out HOw.out (by push_cast; rfl), jump_G HG.out HN.out hp1⟩⟩
          · have hp42f : [47, 42].isPrefixOf (c :: r) = false := Bool.eq_false_iff.2 hp42
            rw [hp42f] at hP2
            rw [if_neg hp42] at hg1
            have HP2 := Lib.hid hP2
            have HN := Lib.hid (G_none (l := s.data.toList.drop p) (by rw [hl]; exact hg1))
            clear hg1 htz htl hl hb0 hbk hp47 hp42 hP1 hP2
            go_wp2
            go_quiet (fail)
            go_wp2_with (first
      | (go_at_call 28; (with_reducible refine (HI.out _).mono ?_); rintro e w2 ⟨rfl, rfl⟩)
      | (go_at_call 28; (with_reducible refine (HI2.out _).mono ?_); rintro e w2 ⟨rfl, rfl⟩)
      | (go_at_call 29; (with_reducible refine (HP1.out _).mono ?_); rintro e w2 ⟨rfl, rfl⟩)
      | (go_at_call 29; (with_reducible refine (HP2.out _).mono ?_); rintro e w2 ⟨rfl, rfl⟩)
      | (go_at_call 30; (with_reducible refine (HI3.out _).mono ?_); rintro e w2 ⟨rfl, rfl⟩)
      | (go_at_call 31; refine (fail_any _ B b s (p : Int) l why fat 7 (p : Int) (HRp.out.drewN _)).mono ?_; rintro e w3 ⟨rfl, hr3, hb3⟩))
            (try simp only [Exit.jump])
            go_ret
            exact ⟨by rw [HG.out, HN.out]; rfl, pw_below_drewN HBL.out _, done_ok HRp.out HG.out HN.out hp1⟩
  · rintro a' w' ⟨bel, ⟨u1, u3, u4, u5, u6, u7, u8, u9, u10, u11, u12, u13, u14, u15, u16, u17, u18, u19, u20, u21, u22, u23, u24, u25, u26, u27, u28, u29, u30, u31, u32, u33, u34, u35, u36, u37, u38, u39, u40, u41, u42, u43, u44, u45, u46, u47, u48, u49, u50, u51, u52, u53, u54, u55, u56, u57, u58, u59, u60, u61, u62, u63, u64, u65, u66, u67, u68, u69, rfl⟩, p, hp1, hp2, hR, hG⟩
    clear HR HQ
    obtain ⟨h0, v, hb, ho⟩ := id hR
    have c0 := hb.cell 0
    have c1 := hb.cell 1
    have f1 := hb.frozen 1
    have HRp := Lib.hid hR
    have HBL := Lib.hid bel
    have HG := Lib.hid hG
    have HBk := Lib.hid hb
    have HOw := Lib.hid ho
    obtain ⟨m, hm⟩ := max_below bel HB.out HM.out
    simp at c0 c1
    clear hR bel hG hb ho
    obtain ⟨t, ht⟩ : ∃ t, s.extract p s.size = t := ⟨_, rfl⟩
    have htl : t.data.toList = s.data.toList.drop p := by rw [← ht]; exact drop_data s p
    have htz : t.size = s.size - p := by rw [Lib.size_eq, htl, List.length_drop, ← HZ.out]
    have hs16 := HS.out
    have htb : t.size ≤ 65536 := by omega
    have HTL := Lib.hid htl
    have HTZ := Lib.hid htz
    cases hl : s.data.toList.drop p with
    | nil =>
      have e1 : t.toList.isEmpty = true := by rw [Lib.toList_data, htl, hl]; rfl
      have HN := Lib.hid (G_none (l := s.data.toList.drop p) (by rw [hl]; rfl))
      clear htz htl hl
      go_wp2
      go_quiet (fail)
      go_wp2
      (try simp only [Exit.jump])
      go_ret
      exact ⟨by rw [HG.out, HN.out]; rfl, pw_below_drewN HBL.out _, done_ok HRp.out HG.out HN.out hp1⟩
    | cons c r =>
      rw [hl] at htl
      have hg1 := gap1_cons c r
      have e1 : t.toList.isEmpty = false := by rw [Lib.toList_data, htl]; rfl
      have hb0 := (bt_of t 0 c r (by rw [htl]; rfl)).1
      have hx : ∀ h : 0 < t.size, ((t[0]'h).toNat : Int) = bt t 0 := bt_at t 0
      have hz0 : 0 < t.size := by rw [Lib.size_eq, htl]; simp
      have hI : ∀ w, Calls Tryd.prog 28 #[.string ⟨#[32, 9, 10, 13]⟩, .int .u8 (bt t 0)] w fun e w' => e = .returned (.int .i64 (Lib.indexByte [32, 9, 10, 13] c)) ∧ w' = w := fun w => by
        have := Tryd.strings_IndexByte ⟨#[32, 9, 10, 13]⟩ (bt t 0) w
        have hc : (bt t 0).toNat.toUInt8 = c := by have h : bt t 0 = c.toNat := hb0; rw [h, Int.toNat_natCast]; exact UInt8.ofNat_toNat
        rw [hc] at this
        exact this
      obtain ⟨I, hIv⟩ : ∃ I, Lib.indexByte [32, 9, 10, 13] c = I := ⟨_, rfl⟩
      have hbl := blank_index c
      rw [hIv] at hI hbl
      have HI := Lib.hid hI
      clear hI hIv
      by_cases hbk : LexPure.blank c = true
      · rw [hbk] at hbl
        have HN := Lib.hid (G_some (l := s.data.toList.drop p) (n := 1) (by rw [hl, hg1, if_pos hbk]; rfl) (by decide))
        have HLE := Lib.hid (show p + 1 ≤ s.size by omega)
        clear htz htl hl hg1 hb0 hbk
        go_wp2
        go_quiet (fail)
        go_wp2_with (first
      | (go_at_call 28; (with_reducible refine (HI.out _).mono ?_); rintro e w2 ⟨rfl, rfl⟩)
      | (go_at_call 28; (with_reducible refine (HI2.out _).mono ?_); rintro e w2 ⟨rfl, rfl⟩)
      | (go_at_call 29; (with_reducible refine (HP1.out _).mono ?_); rintro e w2 ⟨rfl, rfl⟩)
      | (go_at_call 29; (with_reducible refine (HP2.out _).mono ?_); rintro e w2 ⟨rfl, rfl⟩)
      | (go_at_call 30; (with_reducible refine (HI3.out _).mono ?_); rintro e w2 ⟨rfl, rfl⟩)
      | (go_at_call 31; refine (fail_any _ B b s (p : Int) l why fat 7 (p : Int) (HRp.out.drewN _)).mono ?_; rintro e w3 ⟨rfl, hr3, hb3⟩))
        go_step3
        exact ⟨rfl, ⟨(pw_below_drewN HBL.out _).setCell (p := ⟨b, 1, none⟩) h0 _, ⟨_, _, _, _, _, _, _, _, _, _, _, _, _, _, _, _, _, _, _, _, _, _, _, _, _, _, _, _, _, _, _, _, _, _, _, _, _, _, _, _, _, _, _, _, _, _, _, _, _, _, _, _, _, _, _, _, _, _, _, _, _, _, _, _, _, _, _, _, rfl⟩, p + 1, by omega, (by have := HLE.out; have := HTZ.out; omega), RS_at (n := 1) h0 HBk.out HOw.out (by push_cast; rfl), jump_G HG.out HN.out hp1⟩, mu_lt HRp.out (RS_at (n := 1) h0 HBk.out HOw.out (by push_cast; rfl)) (by have := HLE.out; have := HTZ.out; omega) (by omega)⟩
      · have hbf : LexPure.blank c = false := by simpa using hbk
        rw [hbf] at hbl
        rw [if_neg hbk] at hg1
        have hP1 : ∀ w, Calls Tryd.prog 29 #[.string t, .string ⟨#[47, 47]⟩] w fun e w' => e = .returned (.bool ([47, 47].isPrefixOf (c :: r))) ∧ w' = w := fun w => by
          have := Tryd.strings_HasPrefix t ⟨#[47, 47]⟩ w
          rw [htl] at this
          exact this
        by_cases hp47 : [47, 47].isPrefixOf (c :: r) = true
        · rw [hp47] at hP1
          rw [if_pos hp47] at hg1
          have HP1 := Lib.hid hP1
          have hI2 : ∀ w, Calls Tryd.prog 28 #[.string t, .int .u8 10] w fun e w' => e = .returned (.int .i64 (Lib.indexByte (c :: r) 10)) ∧ w' = w := fun w => by
            have := Tryd.strings_IndexByte t 10 w
            rw [htl] at this
            exact this
          have he := eol_index (c :: r)
          have hel := eol_le (c :: r)
          have hpos : 0 < eol (c :: r) := by
            have : c = 47 := by
              have := List.isPrefixOf_iff_prefix.1 hp47
              obtain ⟨u, hu⟩ := this
              simp at hu
              exact hu.1.symm
            subst this
            unfold eol
            rw [if_neg (by decide)]
            omega
          have htz2 : (c :: r).length = t.size := by rw [Lib.size_eq, htl]
          obtain ⟨n, hn⟩ : ∃ n, eol (c :: r) = n := ⟨_, rfl⟩
          rw [hn] at he hel hpos hg1
          have HN := Lib.hid (G_some (l := s.data.toList.drop p) (n := n) (by rw [hl]; exact hg1) hpos)
          have HLE := Lib.hid (show p + n ≤ s.size by omega)
          obtain ⟨I2, hI2v⟩ : ∃ I, Lib.indexByte (c :: r) 10 = I := ⟨_, rfl⟩
          rw [hI2v] at hI2 he
          have HI2 := Lib.hid hI2
          by_cases hlt : I2 < 0
          · have hn2 : n = t.size := by rw [← htz2]; exact he.1 hlt
            subst hn2
            have hltb : decide (I2 < 0) = true := decide_eq_true hlt
            clear hI2 he hel hpos hg1 htz htl hl hb0 hbk hp47 hP1 htz2 hn hI2v
            go_wp2
            go_quiet (fail)
            go_wp2_with (first
      | (go_at_call 28; (with_reducible refine (HI.out _).mono ?_); rintro e w2 ⟨rfl, rfl⟩)
      | (go_at_call 28; (with_reducible refine (HI2.out _).mono ?_); rintro e w2 ⟨rfl, rfl⟩)
      | (go_at_call 29; (with_reducible refine (HP1.out _).mono ?_); rintro e w2 ⟨rfl, rfl⟩)
      | (go_at_call 29; (with_reducible refine (HP2.out _).mono ?_); rintro e w2 ⟨rfl, rfl⟩)
      | (go_at_call 30; (with_reducible refine (HI3.out _).mono ?_); rintro e w2 ⟨rfl, rfl⟩)
      | (go_at_call 31; refine (fail_any _ B b s (p : Int) l why fat 7 (p : Int) (HRp.out.drewN _)).mono ?_; rintro e w3 ⟨rfl, hr3, hb3⟩))
            go_step3
            exact ⟨rfl, ⟨(pw_below_drewN HBL.out _).setCell (p := ⟨b, 1, none⟩) h0 _, ⟨_, _, _, _, _, _, _, _, _, _, _, _, _, _, _, _, _, _, _, _, _, _, _, _, _, _, _, _, _, _, _, _, _, _, _, _, _, _, _, _, _, _, _, _, _, _, _, _, _, _, _, _, _, _, _, _, _, _, _, _, _, _, _, _, _, _, _, _, rfl⟩, p + t.size, by omega, (by have := HLE.out; have := HTZ.out; omega), RS_at (n := t.size) h0 HBk.out HOw.out (by push_cast; rfl), jump_G HG.out HN.out hp1⟩, mu_lt HRp.out (RS_at (n := t.size) h0 HBk.out HOw.out (by push_cast; rfl)) (by have := HLE.out; have := HTZ.out; omega) (by omega)⟩
          · have hn2 : I2 = (n : Int) := he.2 hlt
            subst hn2
            have hltb : decide ((n : Int) < 0) = false := decide_eq_false hlt
            have hn65 : (n : Int) ≤ 65536 := by omega
            clear hI2 he hel hg1 htz htl hl hb0 hbk hp47 hP1 htz2 hn hI2v
            go_wp2
            go_quiet (fail)
            go_wp2_with (first
      | (go_at_call 28; (with_reducible refine (HI.out _).mono ?_); rintro e w2 ⟨rfl, rfl⟩)
      | (go_at_call 28; (with_reducible refine (HI2.out _).mono ?_); rintro e w2 ⟨rfl, rfl⟩)
      | (go_at_call 29; (with_reducible refine (HP1.out _).mono ?_); rintro e w2 ⟨rfl, rfl⟩)
      | (go_at_call 29; (with_reducible refine (HP2.out _).mono ?_); rintro e w2 ⟨rfl, rfl⟩)
      | (go_at_call 30; (with_reducible refine (HI3.out _).mono ?_); rintro e w2 ⟨rfl, rfl⟩)
      | (go_at_call 31; refine (fail_any _ B b s (p : Int) l why fat 7 (p : Int) (HRp.out.drewN _)).mono ?_; rintro e w3 ⟨rfl, hr3, hb3⟩))
            go_step3
            exact ⟨rfl, ⟨(pw_below_drewN HBL.out _).setCell (p := ⟨b, 1, none⟩) h0 _, ⟨_, _, _, _, _, _, _, _, _, _, _, _, _, _, _, _, _, _, _, _, _, _, _, _, _, _, _, _, _, _, _, _, _, _, _, _, _, _, _, _, _, _, _, _, _, _, _, _, _, _, _, _, _, _, _, _, _, _, _, _, _, _, _, _, _, _, _, _, rfl⟩, p + n, by omega, (by have := HLE.out; have := HTZ.out; omega), RS_at (n := n) h0 HBk.out HOw.out (by push_cast; rfl), jump_G HG.out HN.out hp1⟩, mu_lt HRp.out (RS_at (n := n) h0 HBk.out HOw.out (by push_cast; rfl)) (by have := HLE.out; have := HTZ.out; omega) (by omega)⟩
        · have hp47f : [47, 47].isPrefixOf (c :: r) = false := Bool.eq_false_iff.2 hp47
          rw [hp47f] at hP1
          rw [if_neg hp47] at hg1
          have HP1 := Lib.hid hP1
          have hP2 : ∀ w, Calls Tryd.prog 29 #[.string t, .string ⟨#[47, 42]⟩] w fun e w' => e = .returned (.bool ([47, 42].isPrefixOf (c :: r))) ∧ w' = w := fun w => by
            have := Tryd.strings_HasPrefix t ⟨#[47, 42]⟩ w
            rw [htl] at this
            exact this
          by_cases hp42 : [47, 42].isPrefixOf (c :: r) = true
          · rw [hp42] at hP2
            rw [if_pos hp42] at hg1
            have HP2 := Lib.hid hP2
            have hlen : 2 ≤ t.size := by
              have h5 := List.IsPrefix.length_le (List.isPrefixOf_iff_prefix.1 hp42)
              rw [Lib.size_eq, htl]; exact h5
            have hd2 : (t.extract 2 t.size).data.toList = r.drop 1 := by rw [drop_data, htl]; rfl
            have hI3 : ∀ n, Calls Tryd.prog 30 #[.string (t.extract 2 t.size), .string ⟨#[42, 47]⟩] (w'.drewN n) fun e w2 => e = .returned (.int .i64 (Lib.index (r.drop 1) [42, 47])) ∧ w2 = w'.drewN n := fun n => by
              have := Tryd.strings_Index (t.extract 2 t.size) ⟨#[42, 47]⟩ m (w'.drewN n) (by rw [Lib.size_eq, drop_data, List.length_drop, ← Lib.size_eq]; omega) hm
              rw [hd2] at this
              exact this
            have hci := close_index (r.drop 1)
            obtain ⟨I3, hI3v⟩ : ∃ I, Lib.index (r.drop 1) [42, 47] = I := ⟨_, rfl⟩
            rw [hI3v] at hI3 hci
            have HI3 := Lib.hid hI3
            by_cases hlt : I3 < 0
            · have hltb : decide (I3 < 0) = true := decide_eq_true hlt
              have HN := Lib.hid (G_open (l := s.data.toList.drop p) (by rw [hl, hg1, hci.1 hlt]; decide))
              clear hI3 hci hg1 htz htl hl hb0 hbk hp47 hp42 hP1 hP2 hd2 hlt hI3v
              go_wp2
              go_quiet (fail)
              go_wp2_with (first
      | (go_at_call 28; (with_reducible refine (HI.out _).mono ?_); rintro e w2 ⟨rfl, rfl⟩)
      | (go_at_call 28; (with_reducible refine (HI2.out _).mono ?_); rintro e w2 ⟨rfl, rfl⟩)
      | (go_at_call 29; (with_reducible refine (HP1.out _).mono ?_); rintro e w2 ⟨rfl, rfl⟩)
      | (go_at_call 29; (with_reducible refine (HP2.out _).mono ?_); rintro e w2 ⟨rfl, rfl⟩)
      | (go_at_call 30; (with_reducible refine (HI3.out _).mono ?_); rintro e w2 ⟨rfl, rfl⟩)
      | (go_at_call 31; refine (fail_any _ B b s (p : Int) l why fat 7 (p : Int) (HRp.out.drewN _)).mono ?_; rintro e w3 ⟨rfl, hr3, hb3⟩))
              (try simp only [Exit.jump])
              go_ret
              exact ⟨by rw [HG.out, HN.out]; rfl, (pw_below_drewN HBL.out _).trans hb3, done_bad hr3 HG.out HN.out hp1⟩
            · obtain ⟨n, hn1, hn2⟩ := hci.2 hlt
              subst hn1
              have hcl := close_le _ _ hn2
              have hlr : (r.drop 1).length + 2 = t.size := by rw [List.length_drop, Lib.size_eq, htl]; have := hlen; rw [Lib.size_eq, htl] at this; simp at this ⊢; omega
              have hltb : decide ((n : Int) < 0) = false := decide_eq_false hlt
              have hn65 : (n : Int) ≤ 65536 := by omega
              have HN := Lib.hid (G_some (l := s.data.toList.drop p) (n := n + 4) (by rw [hl, hg1, hn2]) (by omega))
              have HLE := Lib.hid (show p + (n + 4) ≤ s.size by omega)
              clear hI3 hci hg1 htz htl hl hb0 hbk hp47 hp42 hP1 hP2 hd2 hlt hI3v hn2 hcl hlr
              go_wp2
              go_quiet (fail)
              go_wp2_with (first
      | (go_at_call 28; (with_reducible refine (HI.out _).mono ?_); rintro e w2 ⟨rfl, rfl⟩)
      | (go_at_call 28; (with_reducible refine (HI2.out _).mono ?_); rintro e w2 ⟨rfl, rfl⟩)
      | (go_at_call 29; (with_reducible refine (HP1.out _).mono ?_); rintro e w2 ⟨rfl, rfl⟩)
      | (go_at_call 29; (with_reducible refine (HP2.out _).mono ?_); rintro e w2 ⟨rfl, rfl⟩)
      | (go_at_call 30; (with_reducible refine (HI3.out _).mono ?_); rintro e w2 ⟨rfl, rfl⟩)
      | (go_at_call 31; refine (fail_any _ B b s (p : Int) l why fat 7 (p : Int) (HRp.out.drewN _)).mono ?_; rintro e w3 ⟨rfl, hr3, hb3⟩))
              go_step3
              exact ⟨rfl, ⟨(pw_below_drewN HBL.out _).setCell (p := ⟨b, 1, none⟩) h0 _, ⟨_, _, _, _, _, _, _, _, _, _, _, _, _, _, _, _, _, _, _, _, _, _, _, _, _, _, _, _, _, _, _, _, _, _, _, _, _, _, _, _, _, _, _, _, _, _, _, _, _, _, _, _, _, _, _, _, _, _, _, _, _, _, _, _, _, _, _, _, rfl⟩, p + (n + 4), by omega, (by have := HLE.out; have := HTZ.out; omega), RS_at (n := (n + 4)) h0 HBk.out HOw.out (by push_cast; rfl), jump_G HG.out HN.out hp1⟩, mu_lt HRp.out (RS_at (n := (n + 4)) h0 HBk.out HOw.out (by push_cast; rfl)) (by have := HLE.out; have := HTZ.out; omega) (by omega)⟩
          · have hp42f : [47, 42].isPrefixOf (c :: r) = false := Bool.eq_false_iff.2 hp42
            rw [hp42f] at hP2
            rw [if_neg hp42] at hg1
            have HP2 := Lib.hid hP2
            have HN := Lib.hid (G_none (l := s.data.toList.drop p) (by rw [hl]; exact hg1))
            clear hg1 htz htl hl hb0 hbk hp47 hp42 hP1 hP2
            go_wp2
            go_quiet (fail)
            go_wp2_with (first
      | (go_at_call 28; (with_reducible refine (HI.out _).mono ?_); rintro e w2 ⟨rfl, rfl⟩)
      | (go_at_call 28; (with_reducible refine (HI2.out _).mono ?_); rintro e w2 ⟨rfl, rfl⟩)
      | (go_at_call 29; (with_reducible refine (HP1.out _).mono ?_); rintro e w2 ⟨rfl, rfl⟩)
      | (go_at_call 29; (with_reducible refine (HP2.out _).mono ?_); rintro e w2 ⟨rfl, rfl⟩)
      | (go_at_call 30; (with_reducible refine (HI3.out _).mono ?_); rintro e w2 ⟨rfl, rfl⟩)
      | (go_at_call 31; refine (fail_any _ B b s (p : Int) l why fat 7 (p : Int) (HRp.out.drewN _)).mono ?_; rintro e w3 ⟨rfl, hr3, hb3⟩))
            (try simp only [Exit.jump])
            go_ret
            exact ⟨by rw [HG.out, HN.out]; rfl, pw_below_drewN HBL.out _, done_ok HRp.out HG.out HN.out hp1⟩
end Go.Proofs.YtafndkgoeabehaaDoor.LexGaps
