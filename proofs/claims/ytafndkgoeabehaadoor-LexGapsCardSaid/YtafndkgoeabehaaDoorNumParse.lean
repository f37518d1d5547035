/- num.Parse at every text: what it answers. It makes new memory alone. -/
import Derived.Test.YtafndkgoeabehaaDoorWWords
import Derived.Test.YtafndkgoeabehaaDoorNumRead
import Derived.Test.YtafndkgoeabehaaDoorShelf
import Derived.Shelf.Strings.SlTrimAscii
import Derived.Lib.SmallJoins
import Derived.Stop.LaidErr
import Derived.MakeChecks
import Derived.Lib.AtoiErrMem
namespace Go.Proofs.YtafndkgoeabehaaDoor.NumParse
open Go Go.RowKit Go.Proofs.YtafndkgoeabehaaDoor.NumPure Go.Proofs.YtafndkgoeabehaaDoor.NumRead Go.Proofs.YtafndkgoeabehaaDoorW.PrintWords

/-- the variable ErrRange holds an error -/
def ErrVar (w : World) : Prop := ∃ te pe, w.cell? ⟨2, 0, none⟩ = some (.iface te pe)
theorem err_below {w w' : World} (h : Below w.heap.size w w') (t : ErrVar w) : ErrVar w' := by
  obtain ⟨te, pe, hc⟩ := t
  exact ⟨te, pe, (h.cell (World.block_lt_of_cell? w _ hc)).trans hc⟩

theorem star : "*" ++ "errors.errorString" = "*errors.errorString" := by decide
theorem rowErr (u : TypeId) (h : Tryd.prog.typeName? 3 u = some "*errors.errorString") : u = 106 :=
  typeName_ptr_named (nm := "errors.errorString") (by rw [star]; kernel_rfl) (by kernel_rfl) (by decide) u (by rw [star]; exact h)
/-- the row's condition, where ErrRange is the fifth on its list -/
theorem err_of_laid {a b c d : String × DataW Unit} {r : List (String × DataW Unit)} {w : World} {text : List UInt8} (h : laidMet Tryd.prog (a :: b :: c :: d :: ("strconv.ErrRange", .iface "*errors.errorString" (.ptr (.agg [.lit (.string text)]))) :: r) w) : ErrVar w := by
  have g : Tryd.prog.globalNamed "strconv.ErrRange" = some 2 := by kernel_rfl
  obtain ⟨a0, s0, hv, _⟩ := laid_sentinel h.tail.tail.tail.tail (g := 2) (ti := 60) (tp := 106) (te := 108) (ts := 9) g (by kernel_rfl) Tryd.underlying60 rowErr Tryd.underlying106 Tryd.underlying108 rfl rfl Tryd.underlying9 (by kernel_rfl) (by kernel_rfl)
  have := World.var?_cell g hv 0
  exact ⟨_, _, by simpa using this⟩

theorem trim_calls (s : ByteArray) (w : World) (hs : s.size ≤ 140737488351232) :
    Calls Tryd.prog 52 #[.string s, .string ⟨#[48, 49, 50, 51, 52, 53, 54, 55, 56, 57]⟩] w fun e w' => e = .returned (.string ⟨(Lib.trimS s.data.toList cs10).toArray⟩) ∧ Below w.heap.size w w' :=
  Any.strings_Trim_laid Tryd.lays160 (by kernel_rfl) s _ w (by omega) (by decide) (ascii_of_all (by decide))

/-- how Atoi ends, as far as Parse looks: its number, or an error that is not nil -/
theorem atoi_calls (s : ByteArray) (v : Int) (w : World) (hs : s.size ≤ 140737488351232) (t : ErrVar w) (h : Lib.atoiAll s.data.toList = if In v then .ok v else .range) :
    Calls Tryd.prog 53 #[.string s] w fun e w' => (if In v then e = .returned (.tuple #[.int .i64 v, .nilIface]) else ∃ (x : Int) (u : TypeId) (p : Value), e = .returned (.tuple #[.int .i64 x, .iface u p])) ∧ Below w.heap.size w w' := by
  by_cases hv : In v
  · rw [if_pos hv] at h
    refine (Tryd.strconv_Atoi_ok s (by omega) v h w).mono ?_
    rintro e w' ⟨rfl, hw⟩
    refine ⟨by rw [if_pos hv], ?_⟩
    rcases hw with rfl | ⟨t, rfl⟩
    · exact Below.refl _ _
    · exact Lib.bytesWorld_below _ _ _
  · rw [if_neg hv] at h
    obtain ⟨te, pe, hc⟩ := t
    refine (Tryd.strconv_Atoi_range s (by omega) h _ w hc (.inr ⟨te, pe, rfl⟩)).mono ?_
    rintro e w' ⟨N, rfl, _, _, hb⟩
    exact ⟨by rw [if_neg hv]; exact ⟨_, _, _, rfl⟩, hb⟩

section
variable (s d tr : ByteArray) (w : World)
  (hp : ∀ w, Calls Tryd.prog 51 #[.string s, .string ⟨#[45]⟩] w fun e w' => e = .returned (.string d) ∧ w' = w)
  (ht : ∀ w, Calls Tryd.prog 52 #[.string d, .string ⟨#[48, 49, 50, 51, 52, 53, 54, 55, 56, 57]⟩] w fun e w' => e = .returned (.string tr) ∧ Below w.heap.size w w')
include hp ht
set_option linter.unusedSectionVars false

set_option maxRecDepth 100000 in
theorem parse_empty (hd : d.toList = []) :
    Calls Tryd.prog 43 #[.string s] w fun e w' => e = .returned (.tuple #[.int .i64 0, .int .i64 7]) ∧ Below w.heap.size w w' := by
  have HP := Lib.hid hp
  clear hp ht
  have h1 : d.toList.isEmpty = true := by rw [hd]; rfl
  go_enter Tryd.func43, Tryd.ntmps43
  go_wp2_with (go_at_call 51; (with_reducible refine (HP.out _).mono ?_); rintro e w' ⟨rfl, rfl⟩)
  go_ret2
  exact ⟨rfl, Below.refl _ _⟩

set_option maxRecDepth 100000 in
theorem parse_trim (hd : ¬ d.toList = []) (hr : ¬ tr.toList = []) :
    Calls Tryd.prog 43 #[.string s] w fun e w' => e = .returned (.tuple #[.int .i64 0, .int .i64 7]) ∧ Below w.heap.size w w' := by
  have HP := Lib.hid hp
  have HT := Lib.hid ht
  clear hp ht
  have h1 : d.toList.isEmpty = false := by simpa using hd
  have h2 : tr.toList.isEmpty = false := by simpa using hr
  clear hd hr
  go_enter Tryd.func43, Tryd.ntmps43
  go_wp2_with (first | (go_at_call 51; (with_reducible refine (HP.out _).mono ?_); rintro e w' ⟨rfl, rfl⟩) | (go_at_call 52; (with_reducible refine (HT.out _).mono ?_); rintro e w' ⟨rfl, hb⟩))
  go_ret2
  exact ⟨rfl, hb⟩

set_option maxRecDepth 100000 in
theorem parse_zero (hd : ¬ d.toList = []) (hr : tr.toList = []) (hz : 0 < d.size) (h48 : bt d 0 = 48) (h0 : ¬ s.toList = [48]) :
    Calls Tryd.prog 43 #[.string s] w fun e w' => e = .returned (.tuple #[.int .i64 0, .int .i64 7]) ∧ Below w.heap.size w w' := by
  have HP := Lib.hid hp
  have HT := Lib.hid ht
  clear hp ht
  have h1 : d.toList.isEmpty = false := by simpa using hd
  have h2 : tr.toList.isEmpty = true := by rw [hr]; rfl
  have h3 : ((bt d 0) == 48) = true := beq_iff_eq.mpr h48
  have h4 : (s.toList == ([48] : List UInt8)) = false := beq_eq_false_iff_ne.mpr h0
  clear hd hr h48 h0
  have hx : ∀ h : 0 < d.size, ((d[0]'h).toNat : Int) = bt d 0 := bt_at d 0
  go_enter Tryd.func43, Tryd.ntmps43
  go_wp2_with (first | (go_at_call 51; (with_reducible refine (HP.out _).mono ?_); rintro e w' ⟨rfl, rfl⟩) | (go_at_call 52; (with_reducible refine (HT.out _).mono ?_); rintro e w' ⟨rfl, hb⟩))
  go_ret2
  exact ⟨rfl, hb⟩

/-- behind the tests: Atoi decides -/
theorem parse_num (t : ErrVar w) (v : Int) (hd : ¬ d.toList = []) (hr : tr.toList = []) (hz : 0 < d.size) (h48 : bt d 0 = 48 → s.toList = [48])
    (ha : ∀ w, ErrVar w → Calls Tryd.prog 53 #[.string s] w fun e w' => (if In v then e = .returned (.tuple #[.int .i64 v, .nilIface]) else ∃ (x : Int) (u : TypeId) (p : Value), e = .returned (.tuple #[.int .i64 x, .iface u p])) ∧ Below w.heap.size w w') :
    Calls Tryd.prog 43 #[.string s] w fun e w' => e = .returned (.tuple #[.int .i64 (told v).1, .int .i64 (told v).2]) ∧ Below w.heap.size w w' := by
  have T := Lib.hid t
  have HP := Lib.hid hp
  have HT := Lib.hid ht
  clear hp ht t
  have h1 : d.toList.isEmpty = false := by simpa using hd
  have h2 : tr.toList.isEmpty = true := by rw [hr]; rfl
  clear hd hr
  have hx : ∀ h : 0 < d.size, ((d[0]'h).toNat : Int) = bt d 0 := bt_at d 0
  unfold told
  by_cases hv : In v
  · rw [if_pos hv]
    simp only [if_pos hv] at ha
    have HA := Lib.hid ha
    clear ha hv
    by_cases c : bt d 0 = 48
    · have h3 : ((bt d 0) == 48) = true := beq_iff_eq.mpr c
      have h4 : (s.toList == ([48] : List UInt8)) = true := beq_iff_eq.mpr (h48 c)
      clear c h48
      go_enter Tryd.func43, Tryd.ntmps43
      go_wp2_with (first | (go_at_call 51; (with_reducible refine (HP.out _).mono ?_); rintro e w' ⟨rfl, rfl⟩) | (go_at_call 52; (with_reducible refine (HT.out _).mono ?_); rintro e w' ⟨rfl, hb⟩) | (go_at_call 53; (with_reducible refine (HA.out _ (err_below hb T.out)).mono ?_); rintro e w2 ⟨rfl, hb2⟩))
      go_ret2
      exact ⟨rfl, hb.trans (hb2.mono hb.size)⟩
    · have h3 : ((bt d 0) == 48) = false := beq_eq_false_iff_ne.mpr c
      clear c h48
      go_enter Tryd.func43, Tryd.ntmps43
      go_wp2_with (first | (go_at_call 51; (with_reducible refine (HP.out _).mono ?_); rintro e w' ⟨rfl, rfl⟩) | (go_at_call 52; (with_reducible refine (HT.out _).mono ?_); rintro e w' ⟨rfl, hb⟩) | (go_at_call 53; (with_reducible refine (HA.out _ (err_below hb T.out)).mono ?_); rintro e w2 ⟨rfl, hb2⟩))
      go_ret2
      exact ⟨rfl, hb.trans (hb2.mono hb.size)⟩
  · rw [if_neg hv]
    simp only [if_neg hv] at ha
    have HA := Lib.hid ha
    clear ha hv
    by_cases c : bt d 0 = 48
    · have h3 : ((bt d 0) == 48) = true := beq_iff_eq.mpr c
      have h4 : (s.toList == ([48] : List UInt8)) = true := beq_iff_eq.mpr (h48 c)
      clear c h48
      go_enter Tryd.func43, Tryd.ntmps43
      go_wp2_with (first | (go_at_call 51; (with_reducible refine (HP.out _).mono ?_); rintro e w' ⟨rfl, rfl⟩) | (go_at_call 52; (with_reducible refine (HT.out _).mono ?_); rintro e w' ⟨rfl, hb⟩) | (go_at_call 53; (with_reducible refine (HA.out _ (err_below hb T.out)).mono ?_); rintro e w2 ⟨⟨x, u, p, rfl⟩, hb2⟩))
      go_ret2
      exact ⟨rfl, hb.trans (hb2.mono hb.size)⟩
    · have h3 : ((bt d 0) == 48) = false := beq_eq_false_iff_ne.mpr c
      clear c h48
      go_enter Tryd.func43, Tryd.ntmps43
      go_wp2_with (first | (go_at_call 51; (with_reducible refine (HP.out _).mono ?_); rintro e w' ⟨rfl, rfl⟩) | (go_at_call 52; (with_reducible refine (HT.out _).mono ?_); rintro e w' ⟨rfl, hb⟩) | (go_at_call 53; (with_reducible refine (HA.out _ (err_below hb T.out)).mono ?_); rintro e w2 ⟨⟨x, u, p, rfl⟩, hb2⟩))
      go_ret2
      exact ⟨rfl, hb.trans (hb2.mono hb.size)⟩
end

theorem bt_head (l : List UInt8) (c : UInt8) (r : List UInt8) (h : l = c :: r) : bt (⟨l.toArray⟩ : ByteArray) 0 = c.toNat := by
  subst h
  unfold bt
  rw [dif_pos (by simp [ByteArray.size])]
  rfl

theorem parse_any (s : ByteArray) (w : World) (hs : s.size ≤ 140737488351232) (t : ErrVar w) :
    Calls Tryd.prog 43 #[.string s] w fun e w' => e = .returned (.tuple #[.int .i64 (parseS s.data.toList).1, .int .i64 (parseS s.data.toList).2]) ∧ Below w.heap.size w w' := by
  have hsl : s.toList = s.data.toList := Lib.toList_data s
  -- the text without its minus
  obtain ⟨m, d, hl, hpre, hpar⟩ : ∃ (m : Bool) (d : List UInt8), (s.data.toList = if m = true then 45 :: d else d) ∧ Lib.trimPrefix s.data.toList [45] = d ∧ parseS s.data.toList = core s.data.toList m d := by
    unfold parseS
    cases hh : s.data.toList with
    | nil => exact ⟨false, [], rfl, rfl, rfl⟩
    | cons c r =>
      by_cases hc : c = 45
      · subst hc
        exact ⟨true, r, rfl, by simp [Lib.trimPrefix, Lib.hasPrefix], by rw [if_pos (show (45 :: r : List UInt8).head? = some 45 from rfl)]; rfl⟩
      · refine ⟨false, c :: r, rfl, ?_, by rw [if_neg (by simpa using hc)]⟩
        have : Lib.hasPrefix (c :: r) [45] = false := by
          have h45 : ((45 : UInt8) == c) = false := beq_eq_false_iff_ne.mpr (fun x => hc x.symm)
          simp [Lib.hasPrefix, List.isPrefixOf, h45]
        simp [Lib.trimPrefix, this]
  rw [hpar]
  have hdl : (⟨d.toArray⟩ : ByteArray).toList = d := by rw [Lib.toList_data]
  have hsz : (⟨d.toArray⟩ : ByteArray).size = d.length := by simp [ByteArray.size]
  have hdz : d.length ≤ s.size := by
    rw [Lib.size_eq, hl]
    cases m <;> simp
  have hp : ∀ w, Calls Tryd.prog 51 #[.string s, .string ⟨#[45]⟩] w fun e w' => e = .returned (.string ⟨d.toArray⟩) ∧ w' = w := fun w => by
    have := Tryd.strings_TrimPrefix s ⟨#[45]⟩ w
    rw [show (⟨#[45]⟩ : ByteArray).data.toList = [45] from rfl, hpre] at this
    exact this
  have ht : ∀ w, Calls Tryd.prog 52 #[.string ⟨d.toArray⟩, .string ⟨#[48, 49, 50, 51, 52, 53, 54, 55, 56, 57]⟩] w fun e w' => e = .returned (.string ⟨(Lib.trimS d cs10).toArray⟩) ∧ Below w.heap.size w w' := fun w =>
    trim_calls ⟨d.toArray⟩ w (by omega)
  have htl : (⟨(Lib.trimS d cs10).toArray⟩ : ByteArray).toList = Lib.trimS d cs10 := by rw [Lib.toList_data]
  unfold core
  by_cases hd : d = []
  · rw [if_pos (.inl hd)]
    exact parse_empty s _ _ w hp ht (by rw [hdl]; exact hd)
  by_cases ha : d.all dig = true
  · have hr : Lib.trimS d cs10 = [] := (trim_nil d).2 ha
    obtain ⟨c, r, hcr⟩ : ∃ c r, d = c :: r := by cases d with | nil => exact absurd rfl hd | cons c r => exact ⟨c, r, rfl⟩
    have hb := bt_head d c r hcr
    by_cases hz : d.head? = some 48 ∧ s.data.toList ≠ [48]
    · rw [if_pos (.inr (.inr hz))]
      refine parse_zero s _ _ w hp ht (by rw [hdl]; exact hd) (by rw [htl]; exact hr) (by rw [hsz, hcr]; simp) ?_ (by rw [hsl]; exact hz.2)
      rw [hb]
      have := hz.1
      rw [hcr] at this
      simp only [List.head?_cons, Option.some.injEq] at this
      rw [this]; rfl
    · rw [if_neg (by
        rintro (x | x | x)
        · exact hd x
        · rw [ha] at x; cases x
        · exact hz x)]
      refine parse_num s _ _ w hp ht t (signed m (val 0 d)) (by rw [hdl]; exact hd) (by rw [htl]; exact hr) (by rw [hsz, hcr]; simp) ?_ (fun w t => atoi_calls s _ w hs t (atoi_digits _ m d hl hd ha))
      intro e
      rw [hb] at e
      rw [hsl]
      have ec : c = 48 := UInt8.toNat_inj.mp (by have e48 : (48 : UInt8).toNat = 48 := rfl; omega)
      by_cases x : s.data.toList = [48]
      · exact x
      · exact absurd ⟨by rw [hcr, ec]; rfl, x⟩ hz
  · have hr : ¬ Lib.trimS d cs10 = [] := fun x => ha ((trim_nil d).1 x)
    rw [if_pos (.inr (.inl (by simpa using ha)))]
    exact parse_trim s _ _ w hp ht (by rw [hdl]; exact hd) (by rw [htl]; exact hr)
end Go.Proofs.YtafndkgoeabehaaDoor.NumParse
