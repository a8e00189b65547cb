/-
  No cell of these rows narrows 'for every input' (looked for: loops, veiled, ifaces, maps, wideKeys, modest, calm, conditions, laid).
  DERIVED. THE GIVEN ROWS OF THIS SEAT. 3 by the template 'for every input the law returns true; each argument reads behind the call as it read before'; 0 by the template 'total and deterministic' (their statements: YtfmjbmddghjjmaaTotals.lean).
  GIVEN WITH THE SEED: the statements are not yours to turn. If you find one false, say at which input.
  Laid BY PROGRAM, IN A SANDBOX (cutbox-rows.mjs): the forced cells as the released guide's own fill.sh prints them over the translation 03793ea4ed8fcc6b… (all of the seat's roots in one cut). By AI agents, Wed Nov 11 2026. No macro, syntax, notation, axiom, sorry.
-/
import Derived.Test.YtfmjbmddghjjmaaChecked
import GoSem.Claim
import GoSem.ClaimJoined
import GoSem.ClaimMapViews
import Derived.JoinedTies
import Derived.KernelRfl
namespace Go.Proofs.Ytfmjbmddghjjmaa
/- THE CELL 'sum', in the pinned program and in every row, IS THE sha256 OF THE DUMP (.gsa) THAT YtfmjbmddghjjmaaProg.lean LOADS. Nothing in Lean hashes anything: it is a label: what it is worth is what the hold of that sum in a sandbox is worth. -/
noncomputable def Try.pinned : Pinned := { name := "ytfmjbmddghjjmaa", sum := "03793ea4ed8fcc6b51682f6e1ced9ddde34741c8822316a462ac17170f122703", checked := Try.checked }
namespace Rows
def none {H : Type} : Left H := { results := [], args := [] }

/-- 'hurdlelaw21.ReplicaKeeps': WHATEVER THE INPUT: true; the input reads as it did. -/
def replicaKeepsSpec : ChangeSpec := { name := "replicaKeeps", fn := fun _ => fun
  | [d1, d2, d3] => { results := [.lit (.bool true)], args := [d1, d2, d3] }
  | _ => none }
def replicaKeepsRow : OpenClaim := { program := "ytfmjbmddghjjmaa", sum := "03793ea4ed8fcc6b51682f6e1ced9ddde34741c8822316a462ac17170f122703", func := "hurdle/hurdlelaw21.ReplicaKeeps", spec := "replicaKeeps", inPlace := ["slices.overlaps[hurdle/api.Vote]"], unfollowed := true, recurses := true, plainKeys := false, apart := false }
def ReplicaKeepsSaid : Prop := replicaKeepsRow.holds Try.pinned (OpenSpec.ofChange replicaKeepsSpec)

/-- ITS FALSE NEIGHBOUR: 'it returns false'. Refute it at one input. -/
def replicaKeepsWrong : ChangeSpec := { name := "replicaKeeps", fn := fun _ => fun
  | [d1, d2, d3] => { results := [.lit (.bool false)], args := [d1, d2, d3] }
  | _ => none }
def ReplicaKeepsWrongFalsely : Prop := replicaKeepsRow.holds Try.pinned (OpenSpec.ofChange replicaKeepsWrong)

/-- 'hurdlelaw21.ReplicaOwn': WHATEVER THE INPUT: true; the input reads as it did. -/
def replicaOwnSpec : ChangeSpec := { name := "replicaOwn", fn := fun _ => fun
  | [d1, d2, d3] => { results := [.lit (.bool true)], args := [d1, d2, d3] }
  | _ => none }
def replicaOwnRow : OpenClaim := { program := "ytfmjbmddghjjmaa", sum := "03793ea4ed8fcc6b51682f6e1ced9ddde34741c8822316a462ac17170f122703", func := "hurdle/hurdlelaw21.ReplicaOwn", spec := "replicaOwn", inPlace := ["slices.overlaps[hurdle/api.Vote]"], unfollowed := true, recurses := true, plainKeys := false, apart := false }
def ReplicaOwnSaid : Prop := replicaOwnRow.holds Try.pinned (OpenSpec.ofChange replicaOwnSpec)

/-- ITS FALSE NEIGHBOUR: 'it returns false'. Refute it at one input. -/
def replicaOwnWrong : ChangeSpec := { name := "replicaOwn", fn := fun _ => fun
  | [d1, d2, d3] => { results := [.lit (.bool false)], args := [d1, d2, d3] }
  | _ => none }
def ReplicaOwnWrongFalsely : Prop := replicaOwnRow.holds Try.pinned (OpenSpec.ofChange replicaOwnWrong)

/-- 'hurdlelaw21.ReplicaNone': WHATEVER THE INPUT: true; the input reads as it did. -/
def replicaNoneSpec : ChangeSpec := { name := "replicaNone", fn := fun _ => fun
  | [d] => { results := [.lit (.bool true)], args := [d] }
  | _ => none }
def replicaNoneRow : OpenClaim := { program := "ytfmjbmddghjjmaa", sum := "03793ea4ed8fcc6b51682f6e1ced9ddde34741c8822316a462ac17170f122703", func := "hurdle/hurdlelaw21.ReplicaNone", spec := "replicaNone", inPlace := ["slices.overlaps[hurdle/api.Vote]"], unfollowed := true, recurses := true, plainKeys := false, apart := false }
def ReplicaNoneSaid : Prop := replicaNoneRow.holds Try.pinned (OpenSpec.ofChange replicaNoneSpec)

/-- ITS FALSE NEIGHBOUR: 'it returns false'. Refute it at one input. -/
def replicaNoneWrong : ChangeSpec := { name := "replicaNone", fn := fun _ => fun
  | [d] => { results := [.lit (.bool false)], args := [d] }
  | _ => none }
def ReplicaNoneWrongFalsely : Prop := replicaNoneRow.holds Try.pinned (OpenSpec.ofChange replicaNoneWrong)

/- THE SECOND FORM. 'bulk': how many values and letters a reading holds, each counted each time it is reached (what is shared counts as often as it is met; a slice's spare places count too). A statement '..UptoSaid' is the law's where the arguments, and the package variables that the reading takes, are together of bulk at most 1048576: NARROWER than '..Said'. Prove '..Said' where nothing that the law and all that it calls make is longer than what came in: it says more and counts as full. Else prove '..UptoSaid'. A law counts once. -/
mutual
def uptoBulk {H : Type} : DataW H → Nat
  | .lit (.string bytes) => bytes.length + 1
  | .lit _ => 1
  | .nil => 1
  | .ptr d => uptoBulk d + 1
  | .slice elems spare => uptoBulkAll elems + uptoBulkAll spare + 1
  | .agg parts => uptoBulkAll parts + 1
  | .iface _ d => uptoBulk d + 1
  | .map entries => uptoBulkEntries entries + 1
  | .held _ => 1
def uptoBulkAll {H : Type} : List (DataW H) → Nat
  | [] => 0
  | d :: r => uptoBulk d + uptoBulkAll r
def uptoBulkEntries {H : Type} : List (Lit × DataW H) → Nat
  | [] => 0
  | x :: r => uptoBulkEntry x + uptoBulkEntries r
def uptoBulkEntry {H : Type} : Lit × DataW H → Nat
  | (.string bytes, d) => bytes.length + uptoBulk d + 1
  | (_, d) => uptoBulk d + 1
 end
def uptoSmall : (H : Type) → List (DataW H) → Bool := fun _ ds => decide (uptoBulkAll ds ≤ 1048576)
def OpenSpec.upto (s : _root_.Go.ChangeSpec) : _root_.Go.OpenSpec := { _root_.Go.OpenSpec.ofChange s with cond := some uptoSmall }

/-- 'hurdlelaw21.ReplicaKeeps', WHERE WHAT IT READS IS OF BULK AT MOST 1048576: true; the input reads as it did. -/
def replicaKeepsUptoRow : OpenClaim := { program := "ytfmjbmddghjjmaa", sum := "03793ea4ed8fcc6b51682f6e1ced9ddde34741c8822316a462ac17170f122703", func := "hurdle/hurdlelaw21.ReplicaKeeps", spec := "replicaKeeps", inPlace := ["slices.overlaps[hurdle/api.Vote]"], unfollowed := true, recurses := true, plainKeys := false, apart := false, narrowed := true }
def ReplicaKeepsUptoSaid : Prop := replicaKeepsUptoRow.holds Try.pinned (OpenSpec.upto replicaKeepsSpec)

/-- 'hurdlelaw21.ReplicaOwn', WHERE WHAT IT READS IS OF BULK AT MOST 1048576: true; the input reads as it did. -/
def replicaOwnUptoRow : OpenClaim := { program := "ytfmjbmddghjjmaa", sum := "03793ea4ed8fcc6b51682f6e1ced9ddde34741c8822316a462ac17170f122703", func := "hurdle/hurdlelaw21.ReplicaOwn", spec := "replicaOwn", inPlace := ["slices.overlaps[hurdle/api.Vote]"], unfollowed := true, recurses := true, plainKeys := false, apart := false, narrowed := true }
def ReplicaOwnUptoSaid : Prop := replicaOwnUptoRow.holds Try.pinned (OpenSpec.upto replicaOwnSpec)

/-- 'hurdlelaw21.ReplicaNone', WHERE WHAT IT READS IS OF BULK AT MOST 1048576: true; the input reads as it did. -/
def replicaNoneUptoRow : OpenClaim := { program := "ytfmjbmddghjjmaa", sum := "03793ea4ed8fcc6b51682f6e1ced9ddde34741c8822316a462ac17170f122703", func := "hurdle/hurdlelaw21.ReplicaNone", spec := "replicaNone", inPlace := ["slices.overlaps[hurdle/api.Vote]"], unfollowed := true, recurses := true, plainKeys := false, apart := false, narrowed := true }
def ReplicaNoneUptoSaid : Prop := replicaNoneUptoRow.holds Try.pinned (OpenSpec.upto replicaNoneSpec)

end Rows
end Go.Proofs.Ytfmjbmddghjjmaa
