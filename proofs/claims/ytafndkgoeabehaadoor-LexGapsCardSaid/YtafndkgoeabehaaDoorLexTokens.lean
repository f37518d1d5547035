/- Tokens: walked. -/
import Derived.Test.YtafndkgoeabehaaDoorLexToken
import Derived.Test.YtafndkgoeabehaaDoorLexToks
import Derived.Deep.LoopGhost
import Derived.Deep.Onto
namespace Go.Proofs.YtafndkgoeabehaaDoor.LexTokens
open Go Go.RowKit Go.Proofs.YtafndkgoeabehaaDoor.NumPure Go.Proofs.YtafndkgoeabehaaDoor.NumRead Go.Proofs.YtafndkgoeabehaaDoor.NumParse Go.Proofs.YtafndkgoeabehaaDoor.LexPure Go.Proofs.YtafndkgoeabehaaDoor.LexGap Go.Proofs.YtafndkgoeabehaaDoor.LexMem Go.Proofs.YtafndkgoeabehaaDoor.LexWord Go.Proofs.YtafndkgoeabehaaDoor.LexGaps Go.Proofs.YtafndkgoeabehaaDoor.LexTook Go.Proofs.YtafndkgoeabehaaDoor.LexNumber Go.Proofs.YtafndkgoeabehaaDoor.LexToken Go.Proofs.YtafndkgoeabehaaDoor.LexToks Go.Proofs.YtafndkgoeabehaaDoorW.PrintWords

def tk (t : T) : Tk := ⟨t.kind, t.text, t.n, t.at_⟩

set_option maxRecDepth 100000 in
theorem Tokens_long (w : World) (s : ByteArray) (hs : 65536 < s.size) : Calls Tryd.prog 8 #[.string s] w fun e w' => e = .returned (.tuple #[.slice none 0 0, .agg #[.int .i64 2, .int .i64 0]]) ∧ Below w.heap.size w w' := by
  have hsb : decide (65536 < (s.size : Int)) = true := decide_eq_true (by omega)
  clear hs
  go_enter Tryd.func8, Tryd.ntmps8
  go_wp2
  refine bodyPost_ret (results_tc rfl _ _ w.heap.size 25 #[.int .i64 2, .int .i64 0] (0, 0) _ rfl (blk_new w _) Tryd.underlying25 rfl (by kernel_rfl)) rfl ?_
  exact ⟨rfl, (Below.refl _ _).alloc (Nat.le_refl _) _⟩
  repeat (first | exact Below.refl _ _ | exact Nat.le_refl _ | apply below_drewN | apply Below.alloc | apply Below.setCell)

section
variable {w W0 : World} {s : ByteArray} {n : Nat} {V : List T × Int × Int}
/-- what holds at the loop's head: all read so far, or a fault -/
def Inv (V : List T × Int × Int) (W0 : World) (n : Nat) (s : ByteArray) (wr : World) (g : Nat) (k : Bool) : Prop :=
  Below (n + 1) W0 wr ∧ (k = true → ∃ (p f : Nat) (acc : List T), RS wr (n + 1) (n + 1) s (p : Int) (acc.map tk) 0 0 ∧ V = aft f p (s.data.toList.drop p) acc ∧ p ≤ s.size ∧ s.size - p ≤ f ∧ acc.length ≤ p ∧ s.size - p < g) ∧
  (k = false → ∃ p l y a, RS wr (n + 1) (n + 1) s p l y a ∧ V = ([], y, a))
theorem inv_start {w1 : World} (hV : toks (s.data.toList.length + 1) 0 s.data.toList [] = V) (hb : Below (n + 1) W0 w1) (ha : After w1 (n + 1) (n + 1) s 0 [] 0 0 (G s.data.toList)) : Inv V W0 n s w1 (s.size + 2) (G s.data.toList).2 := by
  have hz : s.size = s.data.toList.length := Lib.size_eq s
  have hg := G_le s.data.toList
  refine ⟨hb, fun hk => ?_, fun hk => ?_⟩
  · rw [toks_ok hk] at hV
    refine ⟨0 + (G s.data.toList).1, s.data.toList.length, [], ha.1 hk, ?_, by omega, ?_, by simp, by omega⟩
    · rw [← hV, Nat.zero_add]
    · omega
  · rw [toks_bad hk] at hV
    exact ⟨_, _, _, _, ha.2 hk, hV.symm⟩
theorem inv_step {w4 : World} {p f : Nat} {acc : List T} {c : UInt8} {r : List UInt8} {kd m : Int} {tx : List UInt8} {len : Nat} (hV : V = aft f p (c :: r) acc) (hdr : s.data.toList.drop p = c :: r) (hp : p < s.size) (hf : s.size - p ≤ f) (ha : acc.length ≤ p)
    (ht : token (c :: r) = .tok kd tx m len) (hb : Below (n + 1) W0 w4) (hq : After w4 (n + 1) (n + 1) s (p + len) ((acc ++ [(⟨kd, tx, m, p⟩ : T)]).map tk) 0 0 (G (s.data.toList.drop (p + len)))) : Inv V W0 n s w4 (s.size - p) (G (s.data.toList.drop (p + len))).2 := by
  have hz : s.size = s.data.toList.length := Lib.size_eq s
  have hl := token_le c r _ _ _ _ ht
  have hcl : (c :: r).length = s.size - p := by rw [← hdr, List.length_drop, hz]
  have hg := G_le (s.data.toList.drop (p + len))
  rw [List.length_drop, ← hz] at hg
  rw [aft_tok ht, ← hdr, List.drop_drop] at hV
  obtain ⟨f', rfl⟩ : ∃ f', f = f' + 1 := ⟨f - 1, by omega⟩
  refine ⟨hb, fun hk => ?_, fun hk => ?_⟩
  · rw [toks_ok hk, List.drop_drop] at hV
    exact ⟨_, f', acc ++ [⟨kd, tx, m, p⟩], hq.1 hk, hV, by omega, by omega, by rw [List.length_append]; simp; omega, by omega⟩
  · rw [toks_bad hk] at hV
    exact ⟨_, _, _, _, hq.2 hk, hV⟩
theorem inv_bad {w3 : World} {p f : Nat} {acc : List T} {c : UInt8} {r : List UInt8} {why : Int} {off : Nat} {l : List Tk} (hV : V = aft f p (c :: r) acc) (ht : token (c :: r) = .bad why off) (hb : Below (n + 1) W0 w3) (hr : RS w3 (n + 1) (n + 1) s (p : Int) l why ((p + off : Nat) : Int)) : Inv V W0 n s w3 0 false := by
  rw [aft_bad ht] at hV
  exact ⟨hb, fun h => (by cases h), fun _ => ⟨_, _, _, _, hr, hV⟩⟩
end

set_option maxRecDepth 100000 in
set_option maxHeartbeats 4000000 in
theorem Tokens_short (w : World) (s : ByteArray) (hs : s.size ≤ 65536) (hB : 2 < w.heap.size) (hM : MaxVar w) (he : ErrVar w) :
    Calls Tryd.prog 8 #[.string s] w fun e w' => ∃ v, e = .returned (.tuple #[v, .agg #[.int .i64 (toks (s.data.toList.length + 1) 0 s.data.toList []).2.1, .int .i64 (toks (s.data.toList.length + 1) 0 s.data.toList []).2.2]]) ∧ w'.ownsRow w.heap.size 30 4 v (toks (s.data.toList.length + 1) 0 s.data.toList []).1.length (cellsOf ((toks (s.data.toList.length + 1) 0 s.data.toList []).1.map tk)) ∧ Below w.heap.size w w' := by
  have hz : s.size = s.data.toList.length := Lib.size_eq s
  have hsb : decide (65536 < (s.size : Int)) = false := decide_eq_false (by omega)
  obtain ⟨V, hV⟩ : ∃ V, toks (s.data.toList.length + 1) 0 s.data.toList [] = V := ⟨_, rfl⟩
  rw [hV]
  obtain ⟨W0, hW0⟩ : ∃ W0, ((w.alloc (.cells #[.int .i64 0, .int .i64 0] 25)).alloc (.cells #[.string s, .int .i64 0, .slice none 0 0, .int .i64 0, .int .i64 0] 38)) = W0 := ⟨_, rfl⟩
  have hBW0 : Below w.heap.size w W0 := by
    rw [← hW0]
    exact ((Below.refl _ _).alloc (Nat.le_refl _) _).alloc (by simp) _
  have hz0 : W0.heap.size = w.heap.size + 2 := by rw [← hW0]; simp
  have hr0 : RS W0 (w.heap.size + 1) (w.heap.size + 1) s ((0 : Nat) : Int) [] 0 0 := by
    refine ⟨Nat.le_refl _, .slice none 0 0, ?_, World.ownsRow_nil _ _ _ _⟩
    rw [← hW0]
    have := Blk.new (w.alloc (.cells #[.int .i64 0, .int .i64 0] 25)) 38 #[.string s, .int .i64 0, .slice none 0 0, .int .i64 0, .int .i64 0]
    simpa using this
  have hX : Blk W0 w.heap.size 25 #[.int .i64 0, .int .i64 0] := by
    rw [← hW0]
    exact (Blk.new w 25 #[.int .i64 0, .int .i64 0]).alloc _
  have HX : Hid (∀ w2, Below (w.heap.size + 1) W0 w2 → Blk w2 w.heap.size 25 #[.int .i64 0, .int .i64 0]) := Lib.hid (fun w2 hb => hX.below hb (Nat.lt_succ_self _))
  have HM : Hid (∀ w2, Below (w.heap.size + 1) W0 w2 → MaxVar w2) := Lib.hid (fun w2 hb => max_below hb (Nat.succ_pos _) (max_below hBW0 (by omega) hM))
  have HE : Hid (∀ w2, Below (w.heap.size + 1) W0 w2 → ErrVar w2) := Lib.hid (fun w2 hb => err_belowB hb (by omega) (err_belowB hBW0 hB he))
  have hg0 := gaps_any W0 (w.heap.size + 1) (w.heap.size + 1) s 0 [] 0 0 hr0 (Nat.zero_le _) hs (Nat.succ_pos _) (HM.out _ (Below.refl _ _))
  rw [List.drop_zero] at hg0
  have HG0 := Lib.hid hg0
  have HBW := Lib.hid hBW0
  have HB := Lib.hid hB
  have HV := Lib.hid hV
  have HZ := Lib.hid hz
  have HS := Lib.hid hs
  have HZ0 := Lib.hid hz0
  have HW0 := Lib.hid hW0
  clear hV hz hs hg0 hX hr0 hBW0 hM he hB hz0 hW0
  rw [← HW0.out] at HG0
  go_enter Tryd.func8, Tryd.ntmps8
  go_wp2_with (go_at_call 16; (with_reducible refine HG0.out.mono ?_); rintro e w1 ⟨rfl, hb1, ha1⟩)
  have HI0 := Lib.hid (inv_start HV.out (HW0.out ▸ hb1) ha1)
  clear hb1 ha1 HG0
  obtain ⟨k0, hk0⟩ : ∃ k, (G s.data.toList).2 = k := ⟨_, rfl⟩
  rw [hk0] at HI0
  rw [hk0]
  clear hk0
  obtain ⟨n, hn⟩ : ∃ n, w.heap.size = n := ⟨_, rfl⟩
  have HNN := Lib.hid hn
  rw [hn]
  rw [hn] at HI0 HX HM HE
  clear hn
  go_loopg [5] (s.size + 2) (fun g v5 wr => ∃ k, v5 = .bool k ∧ Hid (Inv V W0 n s wr g k))
  case atStart => exact ⟨k0, rfl, HI0⟩
  case round =>
    obtain ⟨k, rfl, HI⟩ := hrel
    clear HI0
    cases k with
    | false =>
      obtain ⟨hbl, _, h2⟩ := HI.out
      obtain ⟨p, l, y, a, hr, hVe⟩ := h2 rfl
      have hx := HX.out _ hbl
      obtain ⟨h0, v, hb, ho⟩ := hr
      have c3 := hb.cell 3
      have c4 := hb.cell 4
      have x0 := hx.cell 0
      have x1 := hx.cell 1
      have f0 := hx.frozen 0
      have f1 := hx.frozen 1
      simp at c3 c4 x0 x1
      have HVE := Lib.hid hVe
      have HBL := Lib.hid hbl
      have HXB := Lib.hid hx
      clear hVe hbl h2 hx hb ho
      go_wp2
      go_region
      all_goals go_wp2
      refine bodyPost_ret (results_tc rfl _ _ n 25 #[.int .i64 y, .int .i64 a] (0, 0) _ rfl ?blk Tryd.underlying25 rfl (by kernel_rfl)) rfl ?_
      case blk => exact (HXB.out.set_ 0 (.int .i64 y)).set_ 1 (.int .i64 a)
      refine ⟨.slice none 0 0, ?_, ?_, ?_⟩
      · rw [HVE.out]; rfl
      · rw [HVE.out]; exact World.ownsRow_nil _ _ _ _
      · exact (((HBW.out.trans (HBL.out.mono (by have := HNN.out; omega))).setCell (p := ⟨n, 0, none⟩) (Nat.le_of_eq HNN.out) _).setCell (p := ⟨n, 1, none⟩) (Nat.le_of_eq HNN.out) _).drew
    | true =>
      obtain ⟨hbl, h1, _⟩ := HI.out
      obtain ⟨p, f, acc, hr, hVe, hp, hf, hacc, hg⟩ := h1 rfl
      have hx := HX.out _ hbl
      obtain ⟨h0, v, hb, ho⟩ := id hr
      have c1 := hb.cell 1
      have c2 := hb.cell 2
      have x0 := hx.cell 0
      have x1 := hx.cell 1
      have f0 := hx.frozen 0
      have f1 := hx.frozen 1
      simp at c1 c2 x0 x1
      have HR := Lib.hid hr
      have HVE := Lib.hid hVe
      have HBL := Lib.hid hbl
      have HXB := Lib.hid hx
      have HO := Lib.hid ho
      clear h1 hbl hx hb hr hVe ho
      cases hdr : s.data.toList.drop p with
      | nil =>
        have hps : p = s.size := by rw [List.drop_eq_nil_iff, ← HZ.out] at hdr; omega
        have hpb : decide (p < s.size) = false := decide_eq_false (by omega)
        have hV2 := HVE.out
        rw [hdr, aft_nil] at hV2
        have HV2 := Lib.hid hV2
        clear hV2 hdr hps hg hf hacc hp
        go_wp2
        refine bodyPost_ret (results_tc rfl _ _ n 25 #[.int .i64 0, .int .i64 0] (0, 0) _ rfl ?blk Tryd.underlying25 rfl (by kernel_rfl)) rfl ?_
        case blk => exact (HXB.out.set_ 0 (.int .i64 0)).set_ 1 (.int .i64 0)
        have hne : v.ownBlock ≠ some n := fun e => by have := (HO.out.lt n e).1; omega
        refine ⟨v, ?_, ?_, ?_⟩
        · rw [HV2.out]; rfl
        · rw [HV2.out]
          have := own_set (own_set HO.out (a := ⟨n, 0, none⟩) hne (.int .i64 0)) (a := ⟨n, 1, none⟩) hne (.int .i64 0)
          rw [List.length_map] at this
          exact this.mono (by have := HNN.out; omega)
        · exact (((HBW.out.trans (HBL.out.mono (by have := HNN.out; omega))).setCell (p := ⟨n, 0, none⟩) (Nat.le_of_eq HNN.out) _).setCell (p := ⟨n, 1, none⟩) (Nat.le_of_eq HNN.out) _)
      | cons c r =>
        have hps : p < s.size := by rcases Nat.lt_or_ge p s.size with h | h; exact h; rw [List.drop_eq_nil_of_le (by rw [← HZ.out]; exact h)] at hdr; cases hdr
        have hpb : decide (p < s.size) = true := decide_eq_true hps
        have htk := token_any wr (n + 1) (n + 1) s p (acc.map tk) 0 0 c r HR.out hp HS.out (by have := HB.out; have := HNN.out; omega) (Nat.succ_pos _) (by have := HBL.out.size; have := HZ0.out; have := HNN.out; omega) (by rw [List.length_map]; have := HS.out; omega) (HM.out _ HBL.out) (HE.out _ HBL.out) hdr
        cases hto : token (c :: r) with
        | bad y off =>
          rw [hto] at htk
          have HTK := Lib.hid (htk.mono (fun e w' h => (⟨h.2.1, h.2.2, h.1⟩ : e = .returned (.bool false) ∧ RS w' (n + 1) (n + 1) s (p : Int) (acc.map tk) y ((p + off : Nat) : Int) ∧ Below (n + 1) wr w')))
          have HDR := Lib.hid hdr
          have HTO := Lib.hid hto
          clear htk hdr hto
          go_wp2_with (first
            | (go_at_call 16; (with_reducible refine (HGA.out _ hr3 hb3).mono ?_); rintro e w4 ⟨rfl, hb4, ha4⟩)
            | (go_at_call 17; (with_reducible refine HTK.out.mono ?_); rintro e w3 ⟨rfl, hr3, hb3⟩))
          go_roundg 0
          case measure => omega
          case rel => exact ⟨false, rfl, inv_bad (V := V) (f := f) (by rw [← HDR.out]; exact HVE.out) HTO.out (HBL.out.trans hb3) hr3⟩
        | tok kd tx m len =>
          rw [hto] at htk
          have hlen := token_le c r _ _ _ _ hto
          have hcl : (c :: r).length = s.size - p := by rw [← hdr, List.length_drop, HZ.out]
          have HTK := Lib.hid (htk.mono (fun e w' h => (⟨h.2.1, (by rw [List.map_append]; exact h.2.2), h.1⟩ : e = .returned (.bool true) ∧ RS w' (n + 1) (n + 1) s ((p + len : Nat) : Int) ((acc ++ [(⟨kd, tx, m, p⟩ : T)]).map tk) 0 0 ∧ Below (n + 1) wr w')))
          have hga : ∀ w2, RS w2 (n + 1) (n + 1) s ((p + len : Nat) : Int) ((acc ++ [(⟨kd, tx, m, p⟩ : T)]).map tk) 0 0 → Below (n + 1) wr w2 → _ := fun w2 hr hb => gaps_any w2 (n + 1) (n + 1) s (p + len) _ 0 0 hr (by omega) HS.out (Nat.succ_pos _) (HM.out _ (HBL.out.trans hb))
          obtain ⟨k2, hk2⟩ : ∃ k, (G (s.data.toList.drop (p + len))).2 = k := ⟨_, rfl⟩
          rw [hk2] at hga
          have HGA := Lib.hid hga
          have HK2 := Lib.hid hk2
          have HDR := Lib.hid hdr
          have HTO := Lib.hid hto
          clear htk hdr hto hga hk2 hlen hcl
          go_wp2_with (first
            | (go_at_call 16; (with_reducible refine (HGA.out _ hr3 hb3).mono ?_); rintro e w4 ⟨rfl, hb4, ha4⟩)
            | (go_at_call 17; (with_reducible refine HTK.out.mono ?_); rintro e w3 ⟨rfl, hr3, hb3⟩))
          go_roundg (s.size - p)
          case measure => omega
          case rel =>
            have := inv_step (V := V) (f := f) (by rw [← HDR.out]; exact HVE.out) HDR.out hps hf hacc HTO.out ((HBL.out.trans hb3).trans hb4) ha4
            rw [HK2.out] at this
            exact ⟨k2, rfl, this⟩

/-- what Tokens answers: the tokens in a row of its own, and the fault -/
theorem Tokens_any (w : World) (s : ByteArray) (hs : s.size ≤ 140737488351232) (hB : 2 < w.heap.size) (hM : MaxVar w) (he : ErrVar w) :
    Calls Tryd.prog 8 #[.string s] w fun e w' => ∃ v, e = .returned (.tuple #[v, .agg #[.int .i64 (lex s.data.toList).2.1, .int .i64 (lex s.data.toList).2.2]]) ∧ w'.ownsRow w.heap.size 30 4 v (lex s.data.toList).1.length (cellsOf ((lex s.data.toList).1.map tk)) ∧ Below w.heap.size w w' := by
  have hz : s.size = s.data.toList.length := Lib.size_eq s
  by_cases h : 65536 < s.size
  · refine (Tokens_long w s h).mono ?_
    rintro e w' ⟨rfl, hb⟩
    have hl : lex s.data.toList = ([], 2, 0) := by unfold lex; rw [if_pos (by omega)]
    rw [hl]
    exact ⟨_, rfl, World.ownsRow_nil _ _ _ _, hb⟩
  · have hl : lex s.data.toList = toks (s.data.toList.length + 1) 0 s.data.toList [] := by unfold lex; rw [if_neg (by omega)]
    rw [hl]
    exact Tokens_short w s (by omega) hB hM he
end Go.Proofs.YtafndkgoeabehaaDoor.LexTokens
