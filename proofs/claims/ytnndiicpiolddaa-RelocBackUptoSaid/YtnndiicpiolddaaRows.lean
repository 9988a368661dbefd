/-
  No cell of these rows narrows 'for every input' (looked for: loops, veiled, ifaces, maps, wideKeys, modest, calm, conditions, laid).
  DERIVED. THE GIVEN ROWS OF THIS SEAT. 8 by the template 'for every input the law returns true; each argument reads behind the call as it read before'; 0 by the template 'total and deterministic' (their statements: YtnndiicpiolddaaTotals.lean).
  GIVEN WITH THE SEED: the statements are not yours to turn. If you find one false, say at which input.
  Laid BY PROGRAM, IN A SANDBOX (cutbox-rows.mjs): the forced cells as the released guide's own fill.sh prints them over the translation 1b152c1904e5f495… (all of the seat's roots in one cut). By AI agents, Wed Nov 11 2026. No macro, syntax, notation, axiom, sorry.
-/
import Derived.Test.YtnndiicpiolddaaChecked
import GoSem.Claim
import GoSem.ClaimJoined
import GoSem.ClaimMapViews
import Derived.JoinedTies
import Derived.KernelRfl
namespace Go.Proofs.Ytnndiicpiolddaa
/- THE CELL 'sum', in the pinned program and in every row, IS THE sha256 OF THE DUMP (.gsa) THAT YtnndiicpiolddaaProg.lean LOADS. Nothing in Lean hashes anything: it is a label: what it is worth is what the hold of that sum in a sandbox is worth. -/
noncomputable def Try.pinned : Pinned := { name := "ytnndiicpiolddaa", sum := "1b152c1904e5f4957f60a0eb63cb9a1d3b13f3b635ced300ef20bba3b2803265", checked := Try.checked }
namespace Rows
def none {H : Type} : Left H := { results := [], args := [] }

/-- 'gangwaylaw21.TlsCodes': WHATEVER THE INPUT: true; the input reads as it did. -/
def tlsCodesSpec : ChangeSpec := { name := "tlsCodes", fn := fun _ => fun
  | [d1, d2, d3] => { results := [.lit (.bool true)], args := [d1, d2, d3] }
  | _ => none }
def tlsCodesRow : OpenClaim := { program := "ytnndiicpiolddaa", sum := "1b152c1904e5f4957f60a0eb63cb9a1d3b13f3b635ced300ef20bba3b2803265", func := "gangway/gangwaylaw21.TlsCodes", spec := "tlsCodes", unfollowed := true, recurses := true, apart := false }
def TlsCodesSaid : Prop := tlsCodesRow.holds Try.pinned (OpenSpec.ofChange tlsCodesSpec)

/-- ITS FALSE NEIGHBOUR: 'it returns false'. Refute it at one input. -/
def tlsCodesWrong : ChangeSpec := { name := "tlsCodes", fn := fun _ => fun
  | [d1, d2, d3] => { results := [.lit (.bool false)], args := [d1, d2, d3] }
  | _ => none }
def TlsCodesWrongFalsely : Prop := tlsCodesRow.holds Try.pinned (OpenSpec.ofChange tlsCodesWrong)

/-- 'gangwaylaw21.TlsLength': WHATEVER THE INPUT: true; the input reads as it did. -/
def tlsLengthSpec : ChangeSpec := { name := "tlsLength", fn := fun _ => fun
  | [d1, d2, d3, d4, d5, d6] => { results := [.lit (.bool true)], args := [d1, d2, d3, d4, d5, d6] }
  | _ => none }
def tlsLengthRow : OpenClaim := { program := "ytnndiicpiolddaa", sum := "1b152c1904e5f4957f60a0eb63cb9a1d3b13f3b635ced300ef20bba3b2803265", func := "gangway/gangwaylaw21.TlsLength", spec := "tlsLength", unfollowed := true, recurses := true, apart := false }
def TlsLengthSaid : Prop := tlsLengthRow.holds Try.pinned (OpenSpec.ofChange tlsLengthSpec)

/-- ITS FALSE NEIGHBOUR: 'it returns false'. Refute it at one input. -/
def tlsLengthWrong : ChangeSpec := { name := "tlsLength", fn := fun _ => fun
  | [d1, d2, d3, d4, d5, d6] => { results := [.lit (.bool false)], args := [d1, d2, d3, d4, d5, d6] }
  | _ => none }
def TlsLengthWrongFalsely : Prop := tlsLengthRow.holds Try.pinned (OpenSpec.ofChange tlsLengthWrong)

/-- 'gangwaylaw21.TlsFinds': WHATEVER THE INPUT: true; the input reads as it did. -/
def tlsFindsSpec : ChangeSpec := { name := "tlsFinds", fn := fun _ => fun
  | [d1, d2, d3, d4] => { results := [.lit (.bool true)], args := [d1, d2, d3, d4] }
  | _ => none }
def tlsFindsRow : OpenClaim := { program := "ytnndiicpiolddaa", sum := "1b152c1904e5f4957f60a0eb63cb9a1d3b13f3b635ced300ef20bba3b2803265", func := "gangway/gangwaylaw21.TlsFinds", spec := "tlsFinds", unfollowed := true, recurses := true, apart := false }
def TlsFindsSaid : Prop := tlsFindsRow.holds Try.pinned (OpenSpec.ofChange tlsFindsSpec)

/-- ITS FALSE NEIGHBOUR: 'it returns false'. Refute it at one input. -/
def tlsFindsWrong : ChangeSpec := { name := "tlsFinds", fn := fun _ => fun
  | [d1, d2, d3, d4] => { results := [.lit (.bool false)], args := [d1, d2, d3, d4] }
  | _ => none }
def TlsFindsWrongFalsely : Prop := tlsFindsRow.holds Try.pinned (OpenSpec.ofChange tlsFindsWrong)

/-- 'gangwaylaw21.TlsBlocks': WHATEVER THE INPUT: true; the input reads as it did. -/
def tlsBlocksSpec : ChangeSpec := { name := "tlsBlocks", fn := fun _ => fun
  | [d1, d2, d3] => { results := [.lit (.bool true)], args := [d1, d2, d3] }
  | _ => none }
def tlsBlocksRow : OpenClaim := { program := "ytnndiicpiolddaa", sum := "1b152c1904e5f4957f60a0eb63cb9a1d3b13f3b635ced300ef20bba3b2803265", func := "gangway/gangwaylaw21.TlsBlocks", spec := "tlsBlocks", unfollowed := true, recurses := true, apart := false }
def TlsBlocksSaid : Prop := tlsBlocksRow.holds Try.pinned (OpenSpec.ofChange tlsBlocksSpec)

/-- ITS FALSE NEIGHBOUR: 'it returns false'. Refute it at one input. -/
def tlsBlocksWrong : ChangeSpec := { name := "tlsBlocks", fn := fun _ => fun
  | [d1, d2, d3] => { results := [.lit (.bool false)], args := [d1, d2, d3] }
  | _ => none }
def TlsBlocksWrongFalsely : Prop := tlsBlocksRow.holds Try.pinned (OpenSpec.ofChange tlsBlocksWrong)

/-- 'gangwaylaw20.RelocMoved': WHATEVER THE INPUT: true; the input reads as it did. -/
def relocMovedSpec : ChangeSpec := { name := "relocMoved", fn := fun _ => fun
  | [d1, d2, d3] => { results := [.lit (.bool true)], args := [d1, d2, d3] }
  | _ => none }
def relocMovedRow : OpenClaim := { program := "ytnndiicpiolddaa", sum := "1b152c1904e5f4957f60a0eb63cb9a1d3b13f3b635ced300ef20bba3b2803265", func := "gangway/gangwaylaw20.RelocMoved", spec := "relocMoved", inPlace := ["internal/bytealg.IndexByteString", "internal/bytealg.IndexString"], unfollowed := true, recurses := true, named := ["internal/bytealg.MaxLen"], apart := false }
def RelocMovedSaid : Prop := relocMovedRow.holds Try.pinned (OpenSpec.ofChange relocMovedSpec)

/-- ITS FALSE NEIGHBOUR: 'it returns false'. Refute it at one input. -/
def relocMovedWrong : ChangeSpec := { name := "relocMoved", fn := fun _ => fun
  | [d1, d2, d3] => { results := [.lit (.bool false)], args := [d1, d2, d3] }
  | _ => none }
def RelocMovedWrongFalsely : Prop := relocMovedRow.holds Try.pinned (OpenSpec.ofChange relocMovedWrong)

/-- 'gangwaylaw20.RelocApplies': WHATEVER THE INPUT: true; the input reads as it did. -/
def relocAppliesSpec : ChangeSpec := { name := "relocApplies", fn := fun _ => fun
  | [d1, d2, d3, d4] => { results := [.lit (.bool true)], args := [d1, d2, d3, d4] }
  | _ => none }
def relocAppliesRow : OpenClaim := { program := "ytnndiicpiolddaa", sum := "1b152c1904e5f4957f60a0eb63cb9a1d3b13f3b635ced300ef20bba3b2803265", func := "gangway/gangwaylaw20.RelocApplies", spec := "relocApplies", inPlace := ["internal/bytealg.IndexByteString", "internal/bytealg.IndexString"], unfollowed := true, recurses := true, named := ["internal/bytealg.MaxLen"], apart := false }
def RelocAppliesSaid : Prop := relocAppliesRow.holds Try.pinned (OpenSpec.ofChange relocAppliesSpec)

/-- ITS FALSE NEIGHBOUR: 'it returns false'. Refute it at one input. -/
def relocAppliesWrong : ChangeSpec := { name := "relocApplies", fn := fun _ => fun
  | [d1, d2, d3, d4] => { results := [.lit (.bool false)], args := [d1, d2, d3, d4] }
  | _ => none }
def RelocAppliesWrongFalsely : Prop := relocAppliesRow.holds Try.pinned (OpenSpec.ofChange relocAppliesWrong)

/-- 'gangwaylaw20.RelocValues': WHATEVER THE INPUT: true; the input reads as it did. -/
def relocValuesSpec : ChangeSpec := { name := "relocValues", fn := fun _ => fun
  | [d1, d2, d3] => { results := [.lit (.bool true)], args := [d1, d2, d3] }
  | _ => none }
def relocValuesRow : OpenClaim := { program := "ytnndiicpiolddaa", sum := "1b152c1904e5f4957f60a0eb63cb9a1d3b13f3b635ced300ef20bba3b2803265", func := "gangway/gangwaylaw20.RelocValues", spec := "relocValues", inPlace := ["internal/bytealg.IndexByteString", "internal/bytealg.IndexString"], unfollowed := true, recurses := true, named := ["internal/bytealg.MaxLen"], apart := false }
def RelocValuesSaid : Prop := relocValuesRow.holds Try.pinned (OpenSpec.ofChange relocValuesSpec)

/-- ITS FALSE NEIGHBOUR: 'it returns false'. Refute it at one input. -/
def relocValuesWrong : ChangeSpec := { name := "relocValues", fn := fun _ => fun
  | [d1, d2, d3] => { results := [.lit (.bool false)], args := [d1, d2, d3] }
  | _ => none }
def RelocValuesWrongFalsely : Prop := relocValuesRow.holds Try.pinned (OpenSpec.ofChange relocValuesWrong)

/-- 'gangwaylaw20.RelocBack': WHATEVER THE INPUT: true; the input reads as it did. -/
def relocBackSpec : ChangeSpec := { name := "relocBack", fn := fun _ => fun
  | [d1, d2, d3, d4] => { results := [.lit (.bool true)], args := [d1, d2, d3, d4] }
  | _ => none }
def relocBackRow : OpenClaim := { program := "ytnndiicpiolddaa", sum := "1b152c1904e5f4957f60a0eb63cb9a1d3b13f3b635ced300ef20bba3b2803265", func := "gangway/gangwaylaw20.RelocBack", spec := "relocBack", inPlace := ["internal/bytealg.IndexByteString", "internal/bytealg.IndexString"], unfollowed := true, recurses := true, named := ["internal/bytealg.MaxLen"], apart := false }
def RelocBackSaid : Prop := relocBackRow.holds Try.pinned (OpenSpec.ofChange relocBackSpec)

/-- ITS FALSE NEIGHBOUR: 'it returns false'. Refute it at one input. -/
def relocBackWrong : ChangeSpec := { name := "relocBack", fn := fun _ => fun
  | [d1, d2, d3, d4] => { results := [.lit (.bool false)], args := [d1, d2, d3, d4] }
  | _ => none }
def RelocBackWrongFalsely : Prop := relocBackRow.holds Try.pinned (OpenSpec.ofChange relocBackWrong)

/- THE SECOND FORM. 'bulk': how many values and letters a reading holds, each counted each time it is reached (what is shared counts as often as it is met; a slice's spare places count too). A statement '..UptoSaid' is the law's where the arguments, and the package variables that the reading takes, are together of bulk at most 1048576: NARROWER than '..Said'. Prove '..Said' where nothing that the law and all that it calls make is longer than what came in: it says more and counts as full. Else prove '..UptoSaid'. A law counts once. -/
mutual
def uptoBulk {H : Type} : DataW H → Nat
  | .lit (.string bytes) => bytes.length + 1
  | .lit _ => 1
  | .nil => 1
  | .ptr d => uptoBulk d + 1
  | .slice elems spare => uptoBulkAll elems + uptoBulkAll spare + 1
  | .agg parts => uptoBulkAll parts + 1
  | .iface _ d => uptoBulk d + 1
  | .map entries => uptoBulkEntries entries + 1
  | .held _ => 1
def uptoBulkAll {H : Type} : List (DataW H) → Nat
  | [] => 0
  | d :: r => uptoBulk d + uptoBulkAll r
def uptoBulkEntries {H : Type} : List (Lit × DataW H) → Nat
  | [] => 0
  | x :: r => uptoBulkEntry x + uptoBulkEntries r
def uptoBulkEntry {H : Type} : Lit × DataW H → Nat
  | (.string bytes, d) => bytes.length + uptoBulk d + 1
  | (_, d) => uptoBulk d + 1
 end
def uptoSmall : (H : Type) → List (DataW H) → Bool := fun _ ds => decide (uptoBulkAll ds ≤ 1048576)
def OpenSpec.upto (s : _root_.Go.ChangeSpec) : _root_.Go.OpenSpec := { _root_.Go.OpenSpec.ofChange s with cond := some uptoSmall }

/-- 'gangwaylaw21.TlsCodes', WHERE WHAT IT READS IS OF BULK AT MOST 1048576: true; the input reads as it did. -/
def tlsCodesUptoRow : OpenClaim := { program := "ytnndiicpiolddaa", sum := "1b152c1904e5f4957f60a0eb63cb9a1d3b13f3b635ced300ef20bba3b2803265", func := "gangway/gangwaylaw21.TlsCodes", spec := "tlsCodes", unfollowed := true, recurses := true, apart := false, narrowed := true }
def TlsCodesUptoSaid : Prop := tlsCodesUptoRow.holds Try.pinned (OpenSpec.upto tlsCodesSpec)

/-- 'gangwaylaw21.TlsLength', WHERE WHAT IT READS IS OF BULK AT MOST 1048576: true; the input reads as it did. -/
def tlsLengthUptoRow : OpenClaim := { program := "ytnndiicpiolddaa", sum := "1b152c1904e5f4957f60a0eb63cb9a1d3b13f3b635ced300ef20bba3b2803265", func := "gangway/gangwaylaw21.TlsLength", spec := "tlsLength", unfollowed := true, recurses := true, apart := false, narrowed := true }
def TlsLengthUptoSaid : Prop := tlsLengthUptoRow.holds Try.pinned (OpenSpec.upto tlsLengthSpec)

/-- 'gangwaylaw21.TlsFinds', WHERE WHAT IT READS IS OF BULK AT MOST 1048576: true; the input reads as it did. -/
def tlsFindsUptoRow : OpenClaim := { program := "ytnndiicpiolddaa", sum := "1b152c1904e5f4957f60a0eb63cb9a1d3b13f3b635ced300ef20bba3b2803265", func := "gangway/gangwaylaw21.TlsFinds", spec := "tlsFinds", unfollowed := true, recurses := true, apart := false, narrowed := true }
def TlsFindsUptoSaid : Prop := tlsFindsUptoRow.holds Try.pinned (OpenSpec.upto tlsFindsSpec)

/-- 'gangwaylaw21.TlsBlocks', WHERE WHAT IT READS IS OF BULK AT MOST 1048576: true; the input reads as it did. -/
def tlsBlocksUptoRow : OpenClaim := { program := "ytnndiicpiolddaa", sum := "1b152c1904e5f4957f60a0eb63cb9a1d3b13f3b635ced300ef20bba3b2803265", func := "gangway/gangwaylaw21.TlsBlocks", spec := "tlsBlocks", unfollowed := true, recurses := true, apart := false, narrowed := true }
def TlsBlocksUptoSaid : Prop := tlsBlocksUptoRow.holds Try.pinned (OpenSpec.upto tlsBlocksSpec)

/-- 'gangwaylaw20.RelocMoved', WHERE WHAT IT READS IS OF BULK AT MOST 1048576: true; the input reads as it did. -/
def relocMovedUptoRow : OpenClaim := { program := "ytnndiicpiolddaa", sum := "1b152c1904e5f4957f60a0eb63cb9a1d3b13f3b635ced300ef20bba3b2803265", func := "gangway/gangwaylaw20.RelocMoved", spec := "relocMoved", inPlace := ["internal/bytealg.IndexByteString", "internal/bytealg.IndexString"], unfollowed := true, recurses := true, named := ["internal/bytealg.MaxLen"], apart := false, narrowed := true }
def RelocMovedUptoSaid : Prop := relocMovedUptoRow.holds Try.pinned (OpenSpec.upto relocMovedSpec)

/-- 'gangwaylaw20.RelocApplies', WHERE WHAT IT READS IS OF BULK AT MOST 1048576: true; the input reads as it did. -/
def relocAppliesUptoRow : OpenClaim := { program := "ytnndiicpiolddaa", sum := "1b152c1904e5f4957f60a0eb63cb9a1d3b13f3b635ced300ef20bba3b2803265", func := "gangway/gangwaylaw20.RelocApplies", spec := "relocApplies", inPlace := ["internal/bytealg.IndexByteString", "internal/bytealg.IndexString"], unfollowed := true, recurses := true, named := ["internal/bytealg.MaxLen"], apart := false, narrowed := true }
def RelocAppliesUptoSaid : Prop := relocAppliesUptoRow.holds Try.pinned (OpenSpec.upto relocAppliesSpec)

/-- 'gangwaylaw20.RelocValues', WHERE WHAT IT READS IS OF BULK AT MOST 1048576: true; the input reads as it did. -/
def relocValuesUptoRow : OpenClaim := { program := "ytnndiicpiolddaa", sum := "1b152c1904e5f4957f60a0eb63cb9a1d3b13f3b635ced300ef20bba3b2803265", func := "gangway/gangwaylaw20.RelocValues", spec := "relocValues", inPlace := ["internal/bytealg.IndexByteString", "internal/bytealg.IndexString"], unfollowed := true, recurses := true, named := ["internal/bytealg.MaxLen"], apart := false, narrowed := true }
def RelocValuesUptoSaid : Prop := relocValuesUptoRow.holds Try.pinned (OpenSpec.upto relocValuesSpec)

/-- 'gangwaylaw20.RelocBack', WHERE WHAT IT READS IS OF BULK AT MOST 1048576: true; the input reads as it did. -/
def relocBackUptoRow : OpenClaim := { program := "ytnndiicpiolddaa", sum := "1b152c1904e5f4957f60a0eb63cb9a1d3b13f3b635ced300ef20bba3b2803265", func := "gangway/gangwaylaw20.RelocBack", spec := "relocBack", inPlace := ["internal/bytealg.IndexByteString", "internal/bytealg.IndexString"], unfollowed := true, recurses := true, named := ["internal/bytealg.MaxLen"], apart := false, narrowed := true }
def RelocBackUptoSaid : Prop := relocBackUptoRow.holds Try.pinned (OpenSpec.upto relocBackSpec)

end Rows
end Go.Proofs.Ytnndiicpiolddaa
