/- The walks of the laws NumTexts and NumBack. -/
import Derived.Test.YtmbmcnklgoadiaaDoorNumLaws
import Derived.Test.YtmbmcnklgoadiaaDoorNumParse
import Derived.Test.YtmbmcnklgoadiaaDoorNumRef
namespace Go.Proofs.YtmbmcnklgoadiaaDoor.NumTextLaws
open Go Go.RowKit Go.Sort Go.Proofs.YtmbmcnklgoadiaaDoor.NumPure Go.Proofs.YtmbmcnklgoadiaaDoor.NumSpec Go.Proofs.YtmbmcnklgoadiaaDoor.NumAlive Go.Proofs.YtmbmcnklgoadiaaDoor.NumLaws Go.Proofs.YtmbmcnklgoadiaaDoor.NumRead Go.Proofs.YtmbmcnklgoadiaaDoor.NumParse Go.Proofs.YtmbmcnklgoadiaaDoor.NumRef Go.Proofs.YtmbmcnklgoadiaaDoorW.PrintWords

theorem below_seq {a b c : World} (h : Below a.heap.size a b) (k : Below b.heap.size b c) : Below a.heap.size a c := h.trans (k.mono h.size)
theorem below_draw {a b : World} {n : Nat} (k : Below (a.drewN n).heap.size (a.drewN n) b) : Below a.heap.size a b := below_seq (below_drewN (Below.refl _ _) n) k

theorem text_any (n : Int) (h : In n) (w : World) (t : Tab w) :
    Calls Tryd.prog 28 #[.int .i64 n] w fun e w' => e = .returned (.string ⟨(Lib.itoa n).toArray⟩) ∧ Below w.heap.size w w' := by
  have H := Lib.hid t
  have H1 := Lib.hid h
  clear t h
  go_enter Tryd.func28, Tryd.ntmps28
  go_wp2_with (go_at_call 35; refine (Tryd.strconv_Itoa n H1.out.1 H1.out.2 _ H.out).mono ?_; rintro e w' ⟨rfl, k, os, rfl⟩)
  go_ret
  exact ⟨rfl, below_new _ _ (Nat.le_refl _) _ _⟩

set_option maxHeartbeats 1000000 in
set_option maxRecDepth 100000 in
theorem texts_core (s x : ByteArray) (n a e : Int) (w : World) (t : Tab w) (te : ErrVar w)
    (hp : ∀ w, ErrVar w → Calls Tryd.prog 26 #[.string s] w fun e' w' => e' = .returned (.tuple #[.int .i64 a, .int .i64 e]) ∧ Below w.heap.size w w')
    (hP : ∀ w, Calls Tryd.prog 27 #[.string s] w fun e' w' => e' = .returned (.tuple #[.int .i64 a, .int .i64 e]) ∧ Drawn0 w w')
    (ht : ∀ w, Tab w → Calls Tryd.prog 28 #[.int .i64 n] w fun e w' => e = .returned (.string x) ∧ Below w.heap.size w w')
    (hT : ∀ w, Calls Tryd.prog 29 #[.int .i64 n] w fun e w' => e = .returned (.string x) ∧ Below w.heap.size w w') :
    Calls Tryd.prog 7 #[.string s, .int .i64 n] w fun e w' => e = .returned (.bool true) ∧ Below w.heap.size w w' := by
  have H := Lib.hid t
  have E := Lib.hid te
  have Hp := Lib.hid hp
  have HP := Lib.hid hP
  have Ht := Lib.hid ht
  have HT := Lib.hid hT
  clear t te hp hP ht hT
  go_enter Tryd.func7, Tryd.ntmps7
  go_wp2_with (first
    | (go_at_call 26; (with_reducible refine (Hp.out _ E.out).mono ?_); rintro e w1 ⟨rfl, hb1⟩; have HB1 := Lib.hid hb1; clear hb1)
    | (go_at_call 27; (with_reducible refine (HP.out _).mono ?_); rintro e w' ⟨rfl, ⟨nd, rfl⟩⟩)
    | (go_at_call 11; (with_reducible refine (same_yes _ _ _).mono ?_); rintro e w' ⟨rfl, ⟨nd, rfl⟩⟩)
    | (go_at_call 28; (with_reducible refine (Ht.out _ (tab_drewN _ (tab_below HB1.out H.out))).mono ?_); rintro e w2 ⟨rfl, hb2⟩; have HB2 := Lib.hid hb2; clear hb2)
    | (go_at_call 29; (with_reducible refine (HT.out _).mono ?_); rintro e w3 ⟨rfl, hb3⟩; have HB3 := Lib.hid hb3; clear hb3)
    | (go_at_call 20; refine (alive_any _ (tab_below HB3.out (tab_below HB2.out (tab_drewN _ (tab_below HB1.out H.out))))).mono ?_; rintro e w4 ⟨rfl, hb4⟩))
  go_ret
  exact ⟨rfl, below_seq HB1.out (below_draw (below_seq HB2.out (below_seq HB3.out hb4)))⟩

theorem texts_walk (s : ByteArray) (n : Int) (w : World) (hs : s.size ≤ 140737488351232) (hn : (Lit.int .i64 n).wf = true) (t : Tab w ∧ ErrVar w) :
    Calls Tryd.prog 7 #[.string s, .int .i64 n] w fun e w' => e = .returned (.bool true) ∧ Below w.heap.size w w' := by
  have i := in_of_wf hn
  obtain ⟨k, hk⟩ := ref_parse s hs
  obtain ⟨k2, hk2⟩ := ref_text n i
  exact texts_core s _ n _ _ w t.1 t.2 (fun w te => parse_any s w hs te) (fun w => QParse.vestryref01_Parse.calls k s _ _ w hk) (fun w t => text_any n i w t) (fun w => PText.vestryref01_Text.calls k2 n _ w hk2)

/-- the ways of NumBack: what was read is a number, and its text the text read; or it is none -/
theorem back_core (s x : ByteArray) (n a e : Int) (w : World) (t : Tab w) (te : ErrVar w)
    (ht : ∀ w, Tab w → Calls Tryd.prog 28 #[.int .i64 n] w fun e w' => e = .returned (.string x) ∧ Below w.heap.size w w')
    (hq : ∀ w, ErrVar w → Calls Tryd.prog 26 #[.string x] w fun e' w' => e' = .returned (.tuple #[.int .i64 n, .int .i64 0]) ∧ Below w.heap.size w w')
    (hp : ∀ w, ErrVar w → Calls Tryd.prog 26 #[.string s] w fun e' w' => e' = .returned (.tuple #[.int .i64 a, .int .i64 e]) ∧ Below w.heap.size w w')
    (hk : e = 0 → ∀ w, Tab w → Calls Tryd.prog 28 #[.int .i64 a] w fun e w' => e = .returned (.string s) ∧ Below w.heap.size w w') :
    Calls Tryd.prog 8 #[.int .i64 n, .string s] w fun e w' => e = .returned (.bool true) ∧ Below w.heap.size w w' := by
  have H := Lib.hid t
  have E := Lib.hid te
  have Ht := Lib.hid ht
  have Hq := Lib.hid hq
  have Hp := Lib.hid hp
  clear t te ht hq hp
  by_cases c : e = 0
  · have Hk := Lib.hid (hk c)
    subst c
    clear hk
    go_enter Tryd.func8, Tryd.ntmps8
    go_wp2_with (first
      | (go_at_call 28; (with_reducible refine (Ht.out _ H.out).mono ?_); rintro e w1 ⟨rfl, hb1⟩; have HB1 := Lib.hid hb1; clear hb1)
      | (go_at_call 26; (with_reducible refine (Hq.out _ (err_below HB1.out E.out)).mono ?_); rintro e w2 ⟨rfl, hb2⟩; have HB2 := Lib.hid hb2; clear hb2)
      | (go_at_call 26; (with_reducible refine (Hp.out _ (err_below HB2.out (err_below HB1.out E.out))).mono ?_); rintro e w3 ⟨rfl, hb3⟩; have HB3 := Lib.hid hb3; clear hb3)
      | (go_at_call 28; (with_reducible refine (Hk.out _ (tab_below HB3.out (tab_below HB2.out (tab_below HB1.out H.out)))).mono ?_); rintro e w4 ⟨rfl, hb4⟩; have HB4 := Lib.hid hb4; clear hb4)
      | (go_at_call 20; refine (alive_any _ (tab_below HB4.out (tab_below HB3.out (tab_below HB2.out (tab_below HB1.out H.out))))).mono ?_; rintro e w5 ⟨rfl, hb5⟩))
    go_ret
    exact ⟨rfl, below_seq HB1.out (below_seq HB2.out (below_seq HB3.out (below_seq HB4.out hb5)))⟩
  · have c1 : (e == 0) = false := beq_eq_false_iff_ne.mpr c
    have c2 : (e != 0) = true := bne_iff_ne.mpr c
    clear c hk
    go_enter Tryd.func8, Tryd.ntmps8
    go_wp2_with (first
      | (go_at_call 28; (with_reducible refine (Ht.out _ H.out).mono ?_); rintro e w1 ⟨rfl, hb1⟩; have HB1 := Lib.hid hb1; clear hb1)
      | (go_at_call 26; (with_reducible refine (Hq.out _ (err_below HB1.out E.out)).mono ?_); rintro e w2 ⟨rfl, hb2⟩; have HB2 := Lib.hid hb2; clear hb2)
      | (go_at_call 26; (with_reducible refine (Hp.out _ (err_below HB2.out (err_below HB1.out E.out))).mono ?_); rintro e w3 ⟨rfl, hb3⟩; have HB3 := Lib.hid hb3; clear hb3)
      | (go_at_call 20; refine (alive_any _ (tab_below HB3.out (tab_below HB2.out (tab_below HB1.out H.out)))).mono ?_; rintro e w5 ⟨rfl, hb5⟩))
    go_ret
    exact ⟨rfl, below_seq HB1.out (below_seq HB2.out (below_seq HB3.out hb5))⟩

theorem itoa_size (n : Int) (h : In n) : (⟨(Lib.itoa n).toArray⟩ : ByteArray).size ≤ 140737488351232 := by
  have e : (⟨(Lib.itoa n).toArray⟩ : ByteArray).size = (Lib.itoa n).length := by simp [ByteArray.size]
  rw [e]
  unfold Lib.itoa
  unfold In at h
  split
  · have := dec_len n.natAbs (by omega); rw [List.length_cons]; omega
  · have := dec_len n.toNat (by omega); omega

theorem told_in2 {x k : Int} (h : told x = (k, 0)) : In k := by
  unfold told at h
  split at h
  · simp only [Prod.mk.injEq, and_true] at h; rw [← h]; assumption
  · simp at h

theorem back_walk (n : Int) (s : ByteArray) (w : World) (hn : (Lit.int .i64 n).wf = true) (hs : s.size ≤ 140737488351232) (t : Tab w ∧ ErrVar w) :
    Calls Tryd.prog 8 #[.int .i64 n, .string s] w fun e w' => e = .returned (.bool true) ∧ Below w.heap.size w w' := by
  have i := in_of_wf hn
  refine back_core s ⟨(Lib.itoa n).toArray⟩ n _ _ w t.1 t.2 (fun w t => text_any n i w t) (fun w te => ?_) (fun w te => parse_any s w hs te) ?_
  · have := parse_any ⟨(Lib.itoa n).toArray⟩ w (itoa_size n i) te
    rw [show (⟨(Lib.itoa n).toArray⟩ : ByteArray).data.toList = Lib.itoa n from rfl, parse_itoa n i] at this
    exact this
  · intro h w t
    have hp : parseS s.data.toList = ((parseS s.data.toList).1, 0) := by rw [← h]
    have hi : In (parseS s.data.toList).1 := by
      have h2 := hp
      unfold parseS core at h2 ⊢
      repeat' split at h2
      all_goals first
        | (simp at h2; done)
        | skip
      all_goals (repeat' split)
      all_goals first
        | contradiction
        | exact told_in2 h2
        | simp_all
    have := text_any _ hi w t
    rw [itoa_parse s.data.toList _ hp] at this
    exact this
end Go.Proofs.YtmbmcnklgoadiaaDoor.NumTextLaws
