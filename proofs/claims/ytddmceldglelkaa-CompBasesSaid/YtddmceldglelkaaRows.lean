/-
  No cell of these rows narrows 'for every input' (looked for: loops, veiled, ifaces, maps, wideKeys, modest, calm, conditions, laid).
  DERIVED. THE GIVEN ROWS OF THIS SEAT. 4 by the template 'for every input the law returns true; each argument reads behind the call as it read before'; 0 by the template 'total and deterministic' (their statements: YtddmceldglelkaaTotals.lean).
  GIVEN WITH THE SEED: the statements are not yours to turn. If you find one false, say at which input.
  Laid BY PROGRAM, IN A SANDBOX (cutbox-rows.mjs): the forced cells as the released guide's own fill.sh prints them over the translation a0dc6d355dd5bc44… (all of the seat's roots in one cut). By AI agents, Wed Nov 11 2026. No macro, syntax, notation, axiom, sorry.
-/
import Derived.Test.YtddmceldglelkaaChecked
import GoSem.Claim
import GoSem.ClaimJoined
import GoSem.ClaimMapViews
import Derived.JoinedTies
import Derived.KernelRfl
namespace Go.Proofs.Ytddmceldglelkaa
/- THE CELL 'sum', in the pinned program and in every row, IS THE sha256 OF THE DUMP (.gsa) THAT YtddmceldglelkaaProg.lean LOADS. Nothing in Lean hashes anything: it is a label: what it is worth is what the hold of that sum in a sandbox is worth. -/
noncomputable def Try.pinned : Pinned := { name := "ytddmceldglelkaa", sum := "a0dc6d355dd5bc44dbcb236cd2b9a41c9c119bc9c74f109b833065a2661cbf44", checked := Try.checked }
namespace Rows
def none {H : Type} : Left H := { results := [], args := [] }

/-- 'vestrylaw11.CompPlain': WHATEVER THE INPUT: true; the input reads as it did. -/
def compPlainSpec : ChangeSpec := { name := "compPlain", fn := fun _ => fun
  | [d] => { results := [.lit (.bool true)], args := [d] }
  | _ => none }
def compPlainRow : OpenClaim := { program := "ytddmceldglelkaa", sum := "a0dc6d355dd5bc44dbcb236cd2b9a41c9c119bc9c74f109b833065a2661cbf44", func := "vestry/vestrylaw11.CompPlain", spec := "compPlain", inPlace := ["internal/bytealg.IndexByteString", "internal/bytealg.IndexString"], unfollowed := true, recurses := true, named := ["internal/bytealg.MaxLen"], apart := false }
def CompPlainSaid : Prop := compPlainRow.holds Try.pinned (OpenSpec.ofChange compPlainSpec)

/-- ITS FALSE NEIGHBOUR: 'it returns false'. Refute it at one input. -/
def compPlainWrong : ChangeSpec := { name := "compPlain", fn := fun _ => fun
  | [d] => { results := [.lit (.bool false)], args := [d] }
  | _ => none }
def CompPlainWrongFalsely : Prop := compPlainRow.holds Try.pinned (OpenSpec.ofChange compPlainWrong)

/-- 'vestrylaw11.CompBases': WHATEVER THE INPUT: true; the input reads as it did. -/
def compBasesSpec : ChangeSpec := { name := "compBases", fn := fun _ => fun
  | [d1, d2] => { results := [.lit (.bool true)], args := [d1, d2] }
  | _ => none }
def compBasesRow : OpenClaim := { program := "ytddmceldglelkaa", sum := "a0dc6d355dd5bc44dbcb236cd2b9a41c9c119bc9c74f109b833065a2661cbf44", func := "vestry/vestrylaw11.CompBases", spec := "compBases", inPlace := ["internal/bytealg.IndexByteString", "internal/bytealg.IndexString"], unfollowed := true, recurses := true, named := ["internal/bytealg.MaxLen"], apart := false }
def CompBasesSaid : Prop := compBasesRow.holds Try.pinned (OpenSpec.ofChange compBasesSpec)

/-- ITS FALSE NEIGHBOUR: 'it returns false'. Refute it at one input. -/
def compBasesWrong : ChangeSpec := { name := "compBases", fn := fun _ => fun
  | [d1, d2] => { results := [.lit (.bool false)], args := [d1, d2] }
  | _ => none }
def CompBasesWrongFalsely : Prop := compBasesRow.holds Try.pinned (OpenSpec.ofChange compBasesWrong)

/-- 'vestrylaw11.CompApart': WHATEVER THE INPUT: true; the input reads as it did. -/
def compApartSpec : ChangeSpec := { name := "compApart", fn := fun _ => fun
  | [d] => { results := [.lit (.bool true)], args := [d] }
  | _ => none }
def compApartRow : OpenClaim := { program := "ytddmceldglelkaa", sum := "a0dc6d355dd5bc44dbcb236cd2b9a41c9c119bc9c74f109b833065a2661cbf44", func := "vestry/vestrylaw11.CompApart", spec := "compApart", inPlace := ["internal/bytealg.IndexByteString", "internal/bytealg.IndexString"], unfollowed := true, recurses := true, named := ["internal/bytealg.MaxLen"], apart := false }
def CompApartSaid : Prop := compApartRow.holds Try.pinned (OpenSpec.ofChange compApartSpec)

/-- ITS FALSE NEIGHBOUR: 'it returns false'. Refute it at one input. -/
def compApartWrong : ChangeSpec := { name := "compApart", fn := fun _ => fun
  | [d] => { results := [.lit (.bool false)], args := [d] }
  | _ => none }
def CompApartWrongFalsely : Prop := compApartRow.holds Try.pinned (OpenSpec.ofChange compApartWrong)

/-- 'vestrylaw11.CompOwn': WHATEVER THE INPUT: true; the input reads as it did. -/
def compOwnSpec : ChangeSpec := { name := "compOwn", fn := fun _ => fun
  | [d] => { results := [.lit (.bool true)], args := [d] }
  | _ => none }
def compOwnRow : OpenClaim := { program := "ytddmceldglelkaa", sum := "a0dc6d355dd5bc44dbcb236cd2b9a41c9c119bc9c74f109b833065a2661cbf44", func := "vestry/vestrylaw11.CompOwn", spec := "compOwn", inPlace := ["internal/bytealg.IndexByteString", "internal/bytealg.IndexString"], unfollowed := true, recurses := true, named := ["internal/bytealg.MaxLen"], apart := false }
def CompOwnSaid : Prop := compOwnRow.holds Try.pinned (OpenSpec.ofChange compOwnSpec)

/-- ITS FALSE NEIGHBOUR: 'it returns false'. Refute it at one input. -/
def compOwnWrong : ChangeSpec := { name := "compOwn", fn := fun _ => fun
  | [d] => { results := [.lit (.bool false)], args := [d] }
  | _ => none }
def CompOwnWrongFalsely : Prop := compOwnRow.holds Try.pinned (OpenSpec.ofChange compOwnWrong)

/- THE SECOND FORM. 'bulk': how many values and letters a reading holds, each counted each time it is reached (what is shared counts as often as it is met; a slice's spare places count too). A statement '..UptoSaid' is the law's where the arguments, and the package variables that the reading takes, are together of bulk at most 1048576: NARROWER than '..Said'. Prove '..Said' where nothing that the law and all that it calls make is longer than what came in: it says more and counts as full. Else prove '..UptoSaid'. A law counts once. -/
mutual
def uptoBulk {H : Type} : DataW H → Nat
  | .lit (.string bytes) => bytes.length + 1
  | .lit _ => 1
  | .nil => 1
  | .ptr d => uptoBulk d + 1
  | .slice elems spare => uptoBulkAll elems + uptoBulkAll spare + 1
  | .agg parts => uptoBulkAll parts + 1
  | .iface _ d => uptoBulk d + 1
  | .map entries => uptoBulkEntries entries + 1
  | .held _ => 1
def uptoBulkAll {H : Type} : List (DataW H) → Nat
  | [] => 0
  | d :: r => uptoBulk d + uptoBulkAll r
def uptoBulkEntries {H : Type} : List (Lit × DataW H) → Nat
  | [] => 0
  | x :: r => uptoBulkEntry x + uptoBulkEntries r
def uptoBulkEntry {H : Type} : Lit × DataW H → Nat
  | (.string bytes, d) => bytes.length + uptoBulk d + 1
  | (_, d) => uptoBulk d + 1
 end
def uptoSmall : (H : Type) → List (DataW H) → Bool := fun _ ds => decide (uptoBulkAll ds ≤ 1048576)
def OpenSpec.upto (s : _root_.Go.ChangeSpec) : _root_.Go.OpenSpec := { _root_.Go.OpenSpec.ofChange s with cond := some uptoSmall }

/-- 'vestrylaw11.CompPlain', WHERE WHAT IT READS IS OF BULK AT MOST 1048576: true; the input reads as it did. -/
def compPlainUptoRow : OpenClaim := { program := "ytddmceldglelkaa", sum := "a0dc6d355dd5bc44dbcb236cd2b9a41c9c119bc9c74f109b833065a2661cbf44", func := "vestry/vestrylaw11.CompPlain", spec := "compPlain", inPlace := ["internal/bytealg.IndexByteString", "internal/bytealg.IndexString"], unfollowed := true, recurses := true, named := ["internal/bytealg.MaxLen"], apart := false, narrowed := true }
def CompPlainUptoSaid : Prop := compPlainUptoRow.holds Try.pinned (OpenSpec.upto compPlainSpec)

/-- 'vestrylaw11.CompBases', WHERE WHAT IT READS IS OF BULK AT MOST 1048576: true; the input reads as it did. -/
def compBasesUptoRow : OpenClaim := { program := "ytddmceldglelkaa", sum := "a0dc6d355dd5bc44dbcb236cd2b9a41c9c119bc9c74f109b833065a2661cbf44", func := "vestry/vestrylaw11.CompBases", spec := "compBases", inPlace := ["internal/bytealg.IndexByteString", "internal/bytealg.IndexString"], unfollowed := true, recurses := true, named := ["internal/bytealg.MaxLen"], apart := false, narrowed := true }
def CompBasesUptoSaid : Prop := compBasesUptoRow.holds Try.pinned (OpenSpec.upto compBasesSpec)

/-- 'vestrylaw11.CompApart', WHERE WHAT IT READS IS OF BULK AT MOST 1048576: true; the input reads as it did. -/
def compApartUptoRow : OpenClaim := { program := "ytddmceldglelkaa", sum := "a0dc6d355dd5bc44dbcb236cd2b9a41c9c119bc9c74f109b833065a2661cbf44", func := "vestry/vestrylaw11.CompApart", spec := "compApart", inPlace := ["internal/bytealg.IndexByteString", "internal/bytealg.IndexString"], unfollowed := true, recurses := true, named := ["internal/bytealg.MaxLen"], apart := false, narrowed := true }
def CompApartUptoSaid : Prop := compApartUptoRow.holds Try.pinned (OpenSpec.upto compApartSpec)

/-- 'vestrylaw11.CompOwn', WHERE WHAT IT READS IS OF BULK AT MOST 1048576: true; the input reads as it did. -/
def compOwnUptoRow : OpenClaim := { program := "ytddmceldglelkaa", sum := "a0dc6d355dd5bc44dbcb236cd2b9a41c9c119bc9c74f109b833065a2661cbf44", func := "vestry/vestrylaw11.CompOwn", spec := "compOwn", inPlace := ["internal/bytealg.IndexByteString", "internal/bytealg.IndexString"], unfollowed := true, recurses := true, named := ["internal/bytealg.MaxLen"], apart := false, narrowed := true }
def CompOwnUptoSaid : Prop := compOwnUptoRow.holds Try.pinned (OpenSpec.upto compOwnSpec)

end Rows
end Go.Proofs.Ytddmceldglelkaa
