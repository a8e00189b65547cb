/-
  No cell of these rows narrows 'for every input' (looked for: loops, veiled, ifaces, maps, wideKeys, modest, calm, conditions, laid).
  DERIVED. THE GIVEN ROWS OF THIS SEAT. 3 by the template 'for every input the law returns true; each argument reads behind the call as it read before'; 0 by the template 'total and deterministic' (their statements: YtpklgklmjhblpaaTotals.lean).
  GIVEN WITH THE SEED: the statements are not yours to turn. If you find one false, say at which input.
  Laid BY PROGRAM, IN A SANDBOX (cutbox-rows.mjs): the forced cells as the released guide's own fill.sh prints them over the translation c8056d6284c17b8b… (all of the seat's roots in one cut). By AI agents, Wed Nov 11 2026. No macro, syntax, notation, axiom, sorry.
-/
import Derived.Test.YtpklgklmjhblpaaChecked
import GoSem.Claim
import GoSem.ClaimJoined
import GoSem.ClaimMapViews
import Derived.JoinedTies
import Derived.KernelRfl
namespace Go.Proofs.Ytpklgklmjhblpaa
/- THE CELL 'sum', in the pinned program and in every row, IS THE sha256 OF THE DUMP (.gsa) THAT YtpklgklmjhblpaaProg.lean LOADS. Nothing in Lean hashes anything: it is a label: what it is worth is what the hold of that sum in a sandbox is worth. -/
noncomputable def Try.pinned : Pinned := { name := "ytpklgklmjhblpaa", sum := "c8056d6284c17b8b565cc163b28e592540d9b39635677b1295d96fef4efa9b3d", checked := Try.checked }
namespace Rows
def none {H : Type} : Left H := { results := [], args := [] }

/-- 'hurdlelaw20.LearnerStays': WHATEVER THE INPUT: true; the input reads as it did. -/
def learnerStaysSpec : ChangeSpec := { name := "learnerStays", fn := fun _ => fun
  | [d1, d2] => { results := [.lit (.bool true)], args := [d1, d2] }
  | _ => none }
def learnerStaysRow : OpenClaim := { program := "ytpklgklmjhblpaa", sum := "c8056d6284c17b8b565cc163b28e592540d9b39635677b1295d96fef4efa9b3d", func := "hurdle/hurdlelaw20.LearnerStays", spec := "learnerStays", plainKeys := false, apart := false }
def LearnerStaysSaid : Prop := learnerStaysRow.holds Try.pinned (OpenSpec.ofChange learnerStaysSpec)

/-- ITS FALSE NEIGHBOUR: 'it returns false'. Refute it at one input. -/
def learnerStaysWrong : ChangeSpec := { name := "learnerStays", fn := fun _ => fun
  | [d1, d2] => { results := [.lit (.bool false)], args := [d1, d2] }
  | _ => none }
def LearnerStaysWrongFalsely : Prop := learnerStaysRow.holds Try.pinned (OpenSpec.ofChange learnerStaysWrong)

/-- 'hurdlelaw20.LearnerQuorum': WHATEVER THE INPUT: true; the input reads as it did. -/
def learnerQuorumSpec : ChangeSpec := { name := "learnerQuorum", fn := fun _ => fun
  | [d1, d2] => { results := [.lit (.bool true)], args := [d1, d2] }
  | _ => none }
def learnerQuorumRow : OpenClaim := { program := "ytpklgklmjhblpaa", sum := "c8056d6284c17b8b565cc163b28e592540d9b39635677b1295d96fef4efa9b3d", func := "hurdle/hurdlelaw20.LearnerQuorum", spec := "learnerQuorum", plainKeys := false, apart := false }
def LearnerQuorumSaid : Prop := learnerQuorumRow.holds Try.pinned (OpenSpec.ofChange learnerQuorumSpec)

/-- ITS FALSE NEIGHBOUR: 'it returns false'. Refute it at one input. -/
def learnerQuorumWrong : ChangeSpec := { name := "learnerQuorum", fn := fun _ => fun
  | [d1, d2] => { results := [.lit (.bool false)], args := [d1, d2] }
  | _ => none }
def LearnerQuorumWrongFalsely : Prop := learnerQuorumRow.holds Try.pinned (OpenSpec.ofChange learnerQuorumWrong)

/-- 'hurdlelaw20.LearnerNone': WHATEVER THE INPUT: true; the input reads as it did. -/
def learnerNoneSpec : ChangeSpec := { name := "learnerNone", fn := fun _ => fun
  | [d] => { results := [.lit (.bool true)], args := [d] }
  | _ => none }
def learnerNoneRow : OpenClaim := { program := "ytpklgklmjhblpaa", sum := "c8056d6284c17b8b565cc163b28e592540d9b39635677b1295d96fef4efa9b3d", func := "hurdle/hurdlelaw20.LearnerNone", spec := "learnerNone", plainKeys := false, apart := false }
def LearnerNoneSaid : Prop := learnerNoneRow.holds Try.pinned (OpenSpec.ofChange learnerNoneSpec)

/-- ITS FALSE NEIGHBOUR: 'it returns false'. Refute it at one input. -/
def learnerNoneWrong : ChangeSpec := { name := "learnerNone", fn := fun _ => fun
  | [d] => { results := [.lit (.bool false)], args := [d] }
  | _ => none }
def LearnerNoneWrongFalsely : Prop := learnerNoneRow.holds Try.pinned (OpenSpec.ofChange learnerNoneWrong)

/- THE SECOND FORM. 'bulk': how many values and letters a reading holds, each counted each time it is reached (what is shared counts as often as it is met; a slice's spare places count too). A statement '..UptoSaid' is the law's where the arguments, and the package variables that the reading takes, are together of bulk at most 1048576: NARROWER than '..Said'. Prove '..Said' where nothing that the law and all that it calls make is longer than what came in: it says more and counts as full. Else prove '..UptoSaid'. A law counts once. -/
mutual
def uptoBulk {H : Type} : DataW H → Nat
  | .lit (.string bytes) => bytes.length + 1
  | .lit _ => 1
  | .nil => 1
  | .ptr d => uptoBulk d + 1
  | .slice elems spare => uptoBulkAll elems + uptoBulkAll spare + 1
  | .agg parts => uptoBulkAll parts + 1
  | .iface _ d => uptoBulk d + 1
  | .map entries => uptoBulkEntries entries + 1
  | .held _ => 1
def uptoBulkAll {H : Type} : List (DataW H) → Nat
  | [] => 0
  | d :: r => uptoBulk d + uptoBulkAll r
def uptoBulkEntries {H : Type} : List (Lit × DataW H) → Nat
  | [] => 0
  | x :: r => uptoBulkEntry x + uptoBulkEntries r
def uptoBulkEntry {H : Type} : Lit × DataW H → Nat
  | (.string bytes, d) => bytes.length + uptoBulk d + 1
  | (_, d) => uptoBulk d + 1
 end
def uptoSmall : (H : Type) → List (DataW H) → Bool := fun _ ds => decide (uptoBulkAll ds ≤ 1048576)
def OpenSpec.upto (s : _root_.Go.ChangeSpec) : _root_.Go.OpenSpec := { _root_.Go.OpenSpec.ofChange s with cond := some uptoSmall }

/-- 'hurdlelaw20.LearnerStays', WHERE WHAT IT READS IS OF BULK AT MOST 1048576: true; the input reads as it did. -/
def learnerStaysUptoRow : OpenClaim := { program := "ytpklgklmjhblpaa", sum := "c8056d6284c17b8b565cc163b28e592540d9b39635677b1295d96fef4efa9b3d", func := "hurdle/hurdlelaw20.LearnerStays", spec := "learnerStays", plainKeys := false, apart := false, narrowed := true }
def LearnerStaysUptoSaid : Prop := learnerStaysUptoRow.holds Try.pinned (OpenSpec.upto learnerStaysSpec)

/-- 'hurdlelaw20.LearnerQuorum', WHERE WHAT IT READS IS OF BULK AT MOST 1048576: true; the input reads as it did. -/
def learnerQuorumUptoRow : OpenClaim := { program := "ytpklgklmjhblpaa", sum := "c8056d6284c17b8b565cc163b28e592540d9b39635677b1295d96fef4efa9b3d", func := "hurdle/hurdlelaw20.LearnerQuorum", spec := "learnerQuorum", plainKeys := false, apart := false, narrowed := true }
def LearnerQuorumUptoSaid : Prop := learnerQuorumUptoRow.holds Try.pinned (OpenSpec.upto learnerQuorumSpec)

/-- 'hurdlelaw20.LearnerNone', WHERE WHAT IT READS IS OF BULK AT MOST 1048576: true; the input reads as it did. -/
def learnerNoneUptoRow : OpenClaim := { program := "ytpklgklmjhblpaa", sum := "c8056d6284c17b8b565cc163b28e592540d9b39635677b1295d96fef4efa9b3d", func := "hurdle/hurdlelaw20.LearnerNone", spec := "learnerNone", plainKeys := false, apart := false, narrowed := true }
def LearnerNoneUptoSaid : Prop := learnerNoneUptoRow.holds Try.pinned (OpenSpec.upto learnerNoneSpec)

end Rows
end Go.Proofs.Ytpklgklmjhblpaa
