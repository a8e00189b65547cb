/-
  No cell of these rows narrows 'for every input' (looked for: loops, veiled, ifaces, maps, wideKeys, modest, calm, conditions, laid).
  DERIVED. THE GIVEN ROWS OF THIS SEAT. 4 by the template 'for every input the law returns true; each argument reads behind the call as it read before'; 0 by the template 'total and deterministic' (their statements: YtfegliplajdgmaaTotals.lean).
  GIVEN WITH THE SEED: the statements are not yours to turn. If you find one false, say at which input.
  Laid BY PROGRAM, IN A SANDBOX (cutbox-rows.mjs): the forced cells as the released guide's own fill.sh prints them over the translation b4553f90466b2faf… (all of the seat's roots in one cut). By AI agents, Wed Nov 11 2026. No macro, syntax, notation, axiom, sorry.
-/
import Derived.Test.YtfegliplajdgmaaChecked
import GoSem.Claim
import GoSem.ClaimJoined
import GoSem.ClaimMapViews
import Derived.JoinedTies
import Derived.KernelRfl
namespace Go.Proofs.Ytfegliplajdgmaa
/- THE CELL 'sum', in the pinned program and in every row, IS THE sha256 OF THE DUMP (.gsa) THAT YtfegliplajdgmaaProg.lean LOADS. Nothing in Lean hashes anything: it is a label: what it is worth is what the hold of that sum in a sandbox is worth. -/
noncomputable def Try.pinned : Pinned := { name := "ytfegliplajdgmaa", sum := "b4553f90466b2faf7884c3bcaa7ffe975e0cb6efc5dd5a67d9b060c206d7707a", checked := Try.checked }
namespace Rows
def none {H : Type} : Left H := { results := [], args := [] }

/-- 'hurdlelaw37.DirsPlays': WHATEVER THE INPUT: true; the input reads as it did. -/
def dirsPlaysSpec : ChangeSpec := { name := "dirsPlays", fn := fun _ => fun
  | [d] => { results := [.lit (.bool true)], args := [d] }
  | _ => none }
def dirsPlaysRow : OpenClaim := { program := "ytfegliplajdgmaa", sum := "b4553f90466b2faf7884c3bcaa7ffe975e0cb6efc5dd5a67d9b060c206d7707a", func := "hurdle/hurdlelaw37.DirsPlays", spec := "dirsPlays", inPlace := ["internal/bytealg.IndexByteString", "slices.overlaps[hurdle/dirs.entry]"], unfollowed := true, recurses := true, apart := false }
def DirsPlaysSaid : Prop := dirsPlaysRow.holds Try.pinned (OpenSpec.ofChange dirsPlaysSpec)

/-- ITS FALSE NEIGHBOUR: 'it returns false'. Refute it at one input. -/
def dirsPlaysWrong : ChangeSpec := { name := "dirsPlays", fn := fun _ => fun
  | [d] => { results := [.lit (.bool false)], args := [d] }
  | _ => none }
def DirsPlaysWrongFalsely : Prop := dirsPlaysRow.holds Try.pinned (OpenSpec.ofChange dirsPlaysWrong)

/-- 'hurdlelaw37.DirsReads': WHATEVER THE INPUT: true; the input reads as it did. -/
def dirsReadsSpec : ChangeSpec := { name := "dirsReads", fn := fun _ => fun
  | [d] => { results := [.lit (.bool true)], args := [d] }
  | _ => none }
def dirsReadsRow : OpenClaim := { program := "ytfegliplajdgmaa", sum := "b4553f90466b2faf7884c3bcaa7ffe975e0cb6efc5dd5a67d9b060c206d7707a", func := "hurdle/hurdlelaw37.DirsReads", spec := "dirsReads", inPlace := ["internal/bytealg.IndexByteString", "slices.overlaps[hurdle/dirs.entry]"], unfollowed := true, recurses := true, apart := false }
def DirsReadsSaid : Prop := dirsReadsRow.holds Try.pinned (OpenSpec.ofChange dirsReadsSpec)

/-- ITS FALSE NEIGHBOUR: 'it returns false'. Refute it at one input. -/
def dirsReadsWrong : ChangeSpec := { name := "dirsReads", fn := fun _ => fun
  | [d] => { results := [.lit (.bool false)], args := [d] }
  | _ => none }
def DirsReadsWrongFalsely : Prop := dirsReadsRow.holds Try.pinned (OpenSpec.ofChange dirsReadsWrong)

/-- 'hurdlelaw37.DirsBack': WHATEVER THE INPUT: true; the input reads as it did. -/
def dirsBackSpec : ChangeSpec := { name := "dirsBack", fn := fun _ => fun
  | [d] => { results := [.lit (.bool true)], args := [d] }
  | _ => none }
def dirsBackRow : OpenClaim := { program := "ytfegliplajdgmaa", sum := "b4553f90466b2faf7884c3bcaa7ffe975e0cb6efc5dd5a67d9b060c206d7707a", func := "hurdle/hurdlelaw37.DirsBack", spec := "dirsBack", inPlace := ["internal/bytealg.IndexByteString", "slices.overlaps[hurdle/dirs.entry]"], unfollowed := true, recurses := true, apart := false }
def DirsBackSaid : Prop := dirsBackRow.holds Try.pinned (OpenSpec.ofChange dirsBackSpec)

/-- ITS FALSE NEIGHBOUR: 'it returns false'. Refute it at one input. -/
def dirsBackWrong : ChangeSpec := { name := "dirsBack", fn := fun _ => fun
  | [d] => { results := [.lit (.bool false)], args := [d] }
  | _ => none }
def DirsBackWrongFalsely : Prop := dirsBackRow.holds Try.pinned (OpenSpec.ofChange dirsBackWrong)

/-- 'hurdlelaw37.DirsNone': WHATEVER THE INPUT: true; the input reads as it did. -/
def dirsNoneSpec : ChangeSpec := { name := "dirsNone", fn := fun _ => fun
  | [d] => { results := [.lit (.bool true)], args := [d] }
  | _ => none }
def dirsNoneRow : OpenClaim := { program := "ytfegliplajdgmaa", sum := "b4553f90466b2faf7884c3bcaa7ffe975e0cb6efc5dd5a67d9b060c206d7707a", func := "hurdle/hurdlelaw37.DirsNone", spec := "dirsNone", inPlace := ["internal/bytealg.IndexByteString", "slices.overlaps[hurdle/dirs.entry]"], unfollowed := true, recurses := true, apart := false }
def DirsNoneSaid : Prop := dirsNoneRow.holds Try.pinned (OpenSpec.ofChange dirsNoneSpec)

/-- ITS FALSE NEIGHBOUR: 'it returns false'. Refute it at one input. -/
def dirsNoneWrong : ChangeSpec := { name := "dirsNone", fn := fun _ => fun
  | [d] => { results := [.lit (.bool false)], args := [d] }
  | _ => none }
def DirsNoneWrongFalsely : Prop := dirsNoneRow.holds Try.pinned (OpenSpec.ofChange dirsNoneWrong)

/- THE SECOND FORM. 'bulk': how many values and letters a reading holds, each counted each time it is reached (what is shared counts as often as it is met; a slice's spare places count too). A statement '..UptoSaid' is the law's where the arguments, and the package variables that the reading takes, are together of bulk at most 1048576: NARROWER than '..Said'. Prove '..Said' where nothing that the law and all that it calls make is longer than what came in: it says more and counts as full. Else prove '..UptoSaid'. A law counts once. -/
mutual
def uptoBulk {H : Type} : DataW H → Nat
  | .lit (.string bytes) => bytes.length + 1
  | .lit _ => 1
  | .nil => 1
  | .ptr d => uptoBulk d + 1
  | .slice elems spare => uptoBulkAll elems + uptoBulkAll spare + 1
  | .agg parts => uptoBulkAll parts + 1
  | .iface _ d => uptoBulk d + 1
  | .map entries => uptoBulkEntries entries + 1
  | .held _ => 1
def uptoBulkAll {H : Type} : List (DataW H) → Nat
  | [] => 0
  | d :: r => uptoBulk d + uptoBulkAll r
def uptoBulkEntries {H : Type} : List (Lit × DataW H) → Nat
  | [] => 0
  | x :: r => uptoBulkEntry x + uptoBulkEntries r
def uptoBulkEntry {H : Type} : Lit × DataW H → Nat
  | (.string bytes, d) => bytes.length + uptoBulk d + 1
  | (_, d) => uptoBulk d + 1
 end
def uptoSmall : (H : Type) → List (DataW H) → Bool := fun _ ds => decide (uptoBulkAll ds ≤ 1048576)
def OpenSpec.upto (s : _root_.Go.ChangeSpec) : _root_.Go.OpenSpec := { _root_.Go.OpenSpec.ofChange s with cond := some uptoSmall }

/-- 'hurdlelaw37.DirsPlays', WHERE WHAT IT READS IS OF BULK AT MOST 1048576: true; the input reads as it did. -/
def dirsPlaysUptoRow : OpenClaim := { program := "ytfegliplajdgmaa", sum := "b4553f90466b2faf7884c3bcaa7ffe975e0cb6efc5dd5a67d9b060c206d7707a", func := "hurdle/hurdlelaw37.DirsPlays", spec := "dirsPlays", inPlace := ["internal/bytealg.IndexByteString", "slices.overlaps[hurdle/dirs.entry]"], unfollowed := true, recurses := true, apart := false, narrowed := true }
def DirsPlaysUptoSaid : Prop := dirsPlaysUptoRow.holds Try.pinned (OpenSpec.upto dirsPlaysSpec)

/-- 'hurdlelaw37.DirsReads', WHERE WHAT IT READS IS OF BULK AT MOST 1048576: true; the input reads as it did. -/
def dirsReadsUptoRow : OpenClaim := { program := "ytfegliplajdgmaa", sum := "b4553f90466b2faf7884c3bcaa7ffe975e0cb6efc5dd5a67d9b060c206d7707a", func := "hurdle/hurdlelaw37.DirsReads", spec := "dirsReads", inPlace := ["internal/bytealg.IndexByteString", "slices.overlaps[hurdle/dirs.entry]"], unfollowed := true, recurses := true, apart := false, narrowed := true }
def DirsReadsUptoSaid : Prop := dirsReadsUptoRow.holds Try.pinned (OpenSpec.upto dirsReadsSpec)

/-- 'hurdlelaw37.DirsBack', WHERE WHAT IT READS IS OF BULK AT MOST 1048576: true; the input reads as it did. -/
def dirsBackUptoRow : OpenClaim := { program := "ytfegliplajdgmaa", sum := "b4553f90466b2faf7884c3bcaa7ffe975e0cb6efc5dd5a67d9b060c206d7707a", func := "hurdle/hurdlelaw37.DirsBack", spec := "dirsBack", inPlace := ["internal/bytealg.IndexByteString", "slices.overlaps[hurdle/dirs.entry]"], unfollowed := true, recurses := true, apart := false, narrowed := true }
def DirsBackUptoSaid : Prop := dirsBackUptoRow.holds Try.pinned (OpenSpec.upto dirsBackSpec)

/-- 'hurdlelaw37.DirsNone', WHERE WHAT IT READS IS OF BULK AT MOST 1048576: true; the input reads as it did. -/
def dirsNoneUptoRow : OpenClaim := { program := "ytfegliplajdgmaa", sum := "b4553f90466b2faf7884c3bcaa7ffe975e0cb6efc5dd5a67d9b060c206d7707a", func := "hurdle/hurdlelaw37.DirsNone", spec := "dirsNone", inPlace := ["internal/bytealg.IndexByteString", "slices.overlaps[hurdle/dirs.entry]"], unfollowed := true, recurses := true, apart := false, narrowed := true }
def DirsNoneUptoSaid : Prop := dirsNoneUptoRow.holds Try.pinned (OpenSpec.upto dirsNoneSpec)

end Rows
end Go.Proofs.Ytfegliplajdgmaa
