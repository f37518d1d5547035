/- The lexer, as plain functions on lists of bytes: words, names, gaps, numbers, texts, signs, tokens. -/
import Derived.Test.YtafndkgoeabehaaDoorNumRead
import Derived.Lib.IndexMore
import Derived.Lib.IndexLaws
namespace Go.Proofs.YtafndkgoeabehaaDoor.LexPure
open Go Go.RowKit Go.Proofs.YtafndkgoeabehaaDoor.NumPure Go.Proofs.YtafndkgoeabehaaDoor.NumRead

def letter (c : UInt8) : Bool := c == 95 || (decide (97 ≤ c.toNat) && decide (c.toNat ≤ 122)) || (decide (65 ≤ c.toNat) && decide (c.toNat ≤ 90))
/-- may a byte stand in a word, at its begin, or behind it? -/
def inWord (k : Bool) (c : UInt8) : Bool := letter c || (k && dig c)
def wd : Bool → List UInt8 → Nat
  | _, [] => 0
  | k, c :: r => if inWord k c = true then wd true r + 1 else 0
def word (l : List UInt8) : Nat := wd false l
def more : Nat → List UInt8 → Nat
  | 0, _ => 0
  | _ + 1, [] => 0
  | f + 1, c :: r => if c = 46 ∧ 0 < word r then 1 + word r + more f (r.drop (word r)) else 0
def name (l : List UInt8) : Nat := if word l = 0 then 0 else word l + more l.length (l.drop (word l))
def Word (l : List UInt8) : Bool := decide (l ≠ []) && decide (l.length ≤ 64) && decide (word l = l.length)
def Name (l : List UInt8) : Bool := decide (l ≠ []) && decide (l.length ≤ 64) && decide (name l = l.length)

def blank (c : UInt8) : Bool := c == 32 || c == 9 || c == 10 || c == 13
/-- up to the end of the line -/
def eol : List UInt8 → Nat
  | [] => 0
  | c :: r => if c = 10 then 0 else eol r + 1
/-- up to behind the next star and slash -/
def close : List UInt8 → Option Nat
  | [] => none
  | c :: r => if [42, 47].isPrefixOf (c :: r) = true then some 2 else (close r).map (· + 1)
/-- one gap: its length; 0: none; below 0: it does not end -/
def gap1 : List UInt8 → Int
  | [] => 0
  | c :: r => if blank c = true then 1 else if [47, 47].isPrefixOf (c :: r) = true then (eol (c :: r) : Int) else if [47, 42].isPrefixOf (c :: r) = true then (match close (r.drop 1) with | none => -1 | some n => ((n + 2 : Nat) : Int)) else 0
def gaps : Nat → List UInt8 → Nat × Bool
  | 0, _ => (0, true)
  | f + 1, l => if gap1 l = 0 then (0, true) else if gap1 l < 0 then (0, false) else ((gap1 l).toNat + (gaps f (l.drop (gap1 l).toNat)).1, (gaps f (l.drop (gap1 l).toNat)).2)

/-- what stands at a token's begin: a token, or a fault so many bytes on -/
inductive Out where
  | tok (kind : Int) (text : List UInt8) (n : Int) (len : Nat)
  | bad (why : Int) (off : Nat)
  deriving DecidableEq

def run (l : List UInt8) : Nat := (l.takeWhile dig).length
def numLen (l : List UInt8) : Nat := if l.head? = some 48 then 1 else 1 + run l.tail
def stands (l : List UInt8) : Bool := match l with | [] => false | c :: _ => dig c || letter c
def number (l : List UInt8) : Out :=
  if stands (l.drop (numLen l)) = true then .bad 7 (numLen l) else if (parseS (l.take (numLen l))).2 = 0 then .tok 2 [] (parseS (l.take (numLen l))).1 (numLen l) else .bad (parseS (l.take (numLen l))).2 0

/-- what a byte behind a backslash means -/
def esc (c : UInt8) : Option UInt8 := if c = 34 then some 34 else if c = 92 then some 92 else if c = 110 then some 10 else if c = 116 then some 9 else none
def text (b : List UInt8) (i : Nat) : List UInt8 → Out
  | [] => .bad 7 0
  | c :: r => if c = 34 then .tok 3 b 0 (i + 1) else if c = 10 then .bad 7 i else if c = 92 then (match r with | [] => .bad 7 i | d :: r' => match esc d with | none => .bad 7 i | some e => text (b ++ [e]) (i + 2) r') else text (b ++ [c]) (i + 1) r

def heads : List (List UInt8) := [[46, 100, 101, 99, 108], [46, 116, 121, 112, 101], [46, 99, 111, 109, 112], [46, 105, 110, 105, 116]]
def twos : List (List UInt8) := [[58, 45], [60, 58], [60, 61], [62, 61], [33, 61]]
def ones : List UInt8 := [40, 41, 123, 125, 44, 46, 58, 124, 33, 61, 60, 62, 43, 45, 42, 47, 37, 36]
/-- how many bytes of a sign; 0: none -/
def signLen (l : List UInt8) : Nat :=
  if l.head? = some 46 ∧ heads.contains (l.take (1 + word l.tail)) = true then 1 + word l.tail
  else if twos.contains (l.take 2) = true then 2
  else match l with | [] => 0 | c :: _ => if ones.contains c = true then 1 else 0
def sign (l : List UInt8) : Out := if signLen l = 0 then .bad 7 0 else .tok 4 (l.take (signLen l)) 0 (signLen l)
def token (l : List UInt8) : Out :=
  if 64 < name l then .bad 2 0 else if 0 < name l then .tok 1 (l.take (name l)) 0 (name l) else match l with | [] => sign l | c :: r => if dig c = true then number l else if c = 34 then text [] 1 r else sign l

structure T where
  kind : Int
  text : List UInt8
  n : Int
  at_ : Nat
  deriving DecidableEq

/-- the tokens from a byte on, behind those that are there -/
def toks : Nat → Nat → List UInt8 → List T → List T × Int × Int
  | 0, _, _, acc => (acc, 0, 0)
  | f + 1, p, l, acc =>
    if (gaps l.length l).2 = true then
      (match l.drop (gaps l.length l).1 with
        | [] => (acc, 0, 0)
        | c :: r => match token (c :: r) with
          | .bad why off => ([], why, ((p + (gaps l.length l).1 + off : Nat) : Int))
          | .tok kind tx n len => toks f (p + (gaps l.length l).1 + len) ((c :: r).drop len) (acc ++ [⟨kind, tx, n, p + (gaps l.length l).1⟩]))
    else ([], 7, ((p + (gaps l.length l).1 : Nat) : Int))
def lex (l : List UInt8) : List T × Int × Int := if 65536 < l.length then ([], 2, 0) else toks (l.length + 1) 0 l []

/-! bounds -/
theorem wd_le (l : List UInt8) : ∀ k, wd k l ≤ l.length := by
  induction l with
  | nil => intro k; exact Nat.le_refl _
  | cons c r ih => intro k; unfold wd; split
                   · have := ih true; simp; omega
                   · simp
theorem word_le (l : List UInt8) : word l ≤ l.length := wd_le l false
theorem more_le : ∀ (f : Nat) (l : List UInt8), more f l ≤ l.length := by
  intro f
  induction f with
  | zero => intro l; simp [more]
  | succ f ih =>
    intro l
    cases l with
    | nil => simp [more]
    | cons c r =>
      unfold more
      split
      · have h1 := word_le r
        have h2 := ih (r.drop (word r))
        rw [List.length_drop] at h2
        simp; omega
      · simp
theorem name_le (l : List UInt8) : name l ≤ l.length := by
  unfold name
  split
  · omega
  · have h1 := word_le l
    have h2 := more_le l.length (l.drop (word l))
    rw [List.length_drop] at h2
    omega
theorem eol_le (l : List UInt8) : eol l ≤ l.length := by
  induction l with
  | nil => simp [eol]
  | cons c r ih => unfold eol; split <;> simp; omega
theorem close_le (l : List UInt8) : ∀ n, close l = some n → 2 ≤ n ∧ n ≤ l.length := by
  induction l with
  | nil => intro n h; simp [close] at h
  | cons c r ih =>
    intro n h
    unfold close at h
    split at h
    · rename_i hp
      simp only [Option.some.injEq] at h
      have := List.IsPrefix.length_le (List.isPrefixOf_iff_prefix.1 hp)
      simp at this ⊢; omega
    · cases hc : close r with
      | none => rw [hc] at h; simp at h
      | some m => rw [hc] at h; simp at h; have := ih m hc; simp; omega
theorem gap1_cons (c : UInt8) (r : List UInt8) : gap1 (c :: r) = if blank c = true then 1 else if [47, 47].isPrefixOf (c :: r) = true then (eol (c :: r) : Int) else if [47, 42].isPrefixOf (c :: r) = true then (match close (r.drop 1) with | none => -1 | some n => ((n + 2 : Nat) : Int)) else 0 := rfl
theorem gap1_le (l : List UInt8) : -1 ≤ gap1 l ∧ gap1 l ≤ l.length := by
  cases l with
  | nil => exact ⟨by simp [gap1], by simp [gap1]⟩
  | cons c r =>
    rw [gap1_cons]
    by_cases h1 : blank c = true
    · rw [if_pos h1, List.length_cons]; omega
    · rw [if_neg h1]
      by_cases h2 : [47, 47].isPrefixOf (c :: r) = true
      · rw [if_pos h2]; have := eol_le (c :: r); omega
      · rw [if_neg h2]
        by_cases h3 : [47, 42].isPrefixOf (c :: r) = true
        · rw [if_pos h3]
          cases hc : close (r.drop 1) with
          | none => simp only []; omega
          | some n =>
            have h4 := close_le _ n hc
            rw [List.length_drop] at h4
            have h5 := List.IsPrefix.length_le (List.isPrefixOf_iff_prefix.1 h3)
            simp only [List.length_cons, List.length_nil] at h5 ⊢
            omega
        · rw [if_neg h3]; omega
theorem gaps_le : ∀ (f : Nat) (l : List UInt8), (gaps f l).1 ≤ l.length := by
  intro f
  induction f with
  | zero => intro l; simp [gaps]
  | succ f ih =>
    intro l
    have h1 := gap1_le l
    unfold gaps
    split
    · simp
    · split
      · simp
      · have h2 := ih (l.drop (gap1 l).toNat)
        rw [List.length_drop] at h2
        simp only; omega
end Go.Proofs.YtafndkgoeabehaaDoor.LexPure
