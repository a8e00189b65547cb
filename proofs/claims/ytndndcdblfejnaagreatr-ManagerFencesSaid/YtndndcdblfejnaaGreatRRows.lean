/-
  No cell of these rows narrows 'for every input' (looked for: loops, veiled, ifaces, maps, wideKeys, modest, calm, conditions, laid).
  DERIVED. THE GIVEN ROWS OF THIS SEAT. 4 by the template 'for every input the law returns true; each argument reads behind the call as it read before'; 0 by the template 'total and deterministic' (their statements: YtndndcdblfejnaaGreatRTotals.lean).
  GIVEN WITH THE SEED: the statements are not yours to turn. If you find one false, say at which input.
  Laid BY PROGRAM, IN A SANDBOX (cutbox-rows.mjs): the forced cells as the released guide's own fill.sh prints them over the translation d35054a19a43c63e… (all of the seat's roots in one cut). By AI agents, Wed Nov 11 2026. No macro, syntax, notation, axiom, sorry.
-/
import Derived.Test.YtndndcdblfejnaaGreatRChecked
import GoSem.Claim
import GoSem.ClaimJoined
import GoSem.ClaimMapViews
import Derived.JoinedTies
import Derived.KernelRfl
namespace Go.Proofs.YtndndcdblfejnaaGreatR
/- THE CELL 'sum', in the pinned program and in every row, IS THE sha256 OF THE DUMP (.gsa) THAT YtndndcdblfejnaaGreatRProg.lean LOADS. Nothing in Lean hashes anything: it is a label: what it is worth is what the hold of that sum in a sandbox is worth. -/
noncomputable def Tryz.pinned : Pinned := { name := "ytndndcdblfejnaagreatr", sum := "d35054a19a43c63e76cc8b6779c964530692ce0e39e807e7d8e0d822d2571d70", checked := Tryz.checked }
namespace Rows
def none {H : Type} : Left H := { results := [], args := [] }

/-- 'hurdlelaw28.ManagerBytes': WHATEVER THE INPUT: true; the input reads as it did. -/
def managerBytesSpec : ChangeSpec := { name := "managerBytes", fn := fun _ => fun
  | [d1, d2] => { results := [.lit (.bool true)], args := [d1, d2] }
  | _ => none }
def managerBytesRow : OpenClaim := { program := "ytndndcdblfejnaagreatr", sum := "d35054a19a43c63e76cc8b6779c964530692ce0e39e807e7d8e0d822d2571d70", func := "hurdle/hurdlelaw28.ManagerBytes", spec := "managerBytes", inPlace := ["slices.overlaps[hurdle/replies.entry]", "slices.overlaps[hurdle/api.Use]", "internal/reflectlite.TypeOf"], unfollowed := true, recurses := true, apart := false }
def ManagerBytesSaid : Prop := managerBytesRow.holds Tryz.pinned (OpenSpec.ofChange managerBytesSpec)

/-- ITS FALSE NEIGHBOUR: 'it returns false'. Refute it at one input. -/
def managerBytesWrong : ChangeSpec := { name := "managerBytes", fn := fun _ => fun
  | [d1, d2] => { results := [.lit (.bool false)], args := [d1, d2] }
  | _ => none }
def ManagerBytesWrongFalsely : Prop := managerBytesRow.holds Tryz.pinned (OpenSpec.ofChange managerBytesWrong)

/-- 'hurdlelaw28.ManagerAlike': WHATEVER THE INPUT: true; the input reads as it did. -/
def managerAlikeSpec : ChangeSpec := { name := "managerAlike", fn := fun _ => fun
  | [d1, d2, d3] => { results := [.lit (.bool true)], args := [d1, d2, d3] }
  | _ => none }
def managerAlikeRow : OpenClaim := { program := "ytndndcdblfejnaagreatr", sum := "d35054a19a43c63e76cc8b6779c964530692ce0e39e807e7d8e0d822d2571d70", func := "hurdle/hurdlelaw28.ManagerAlike", spec := "managerAlike", inPlace := ["slices.overlaps[hurdle/replies.entry]", "slices.overlaps[hurdle/api.Use]", "internal/reflectlite.TypeOf"], unfollowed := true, recurses := true, apart := false }
def ManagerAlikeSaid : Prop := managerAlikeRow.holds Tryz.pinned (OpenSpec.ofChange managerAlikeSpec)

/-- ITS FALSE NEIGHBOUR: 'it returns false'. Refute it at one input. -/
def managerAlikeWrong : ChangeSpec := { name := "managerAlike", fn := fun _ => fun
  | [d1, d2, d3] => { results := [.lit (.bool false)], args := [d1, d2, d3] }
  | _ => none }
def ManagerAlikeWrongFalsely : Prop := managerAlikeRow.holds Tryz.pinned (OpenSpec.ofChange managerAlikeWrong)

/-- 'hurdlelaw28.ManagerFences': WHATEVER THE INPUT: true; the input reads as it did. -/
def managerFencesSpec : ChangeSpec := { name := "managerFences", fn := fun _ => fun
  | [d1, d2] => { results := [.lit (.bool true)], args := [d1, d2] }
  | _ => none }
def managerFencesRow : OpenClaim := { program := "ytndndcdblfejnaagreatr", sum := "d35054a19a43c63e76cc8b6779c964530692ce0e39e807e7d8e0d822d2571d70", func := "hurdle/hurdlelaw28.ManagerFences", spec := "managerFences", inPlace := ["slices.overlaps[hurdle/replies.entry]", "slices.overlaps[hurdle/api.Use]", "internal/reflectlite.TypeOf"], unfollowed := true, recurses := true, apart := false }
def ManagerFencesSaid : Prop := managerFencesRow.holds Tryz.pinned (OpenSpec.ofChange managerFencesSpec)

/-- ITS FALSE NEIGHBOUR: 'it returns false'. Refute it at one input. -/
def managerFencesWrong : ChangeSpec := { name := "managerFences", fn := fun _ => fun
  | [d1, d2] => { results := [.lit (.bool false)], args := [d1, d2] }
  | _ => none }
def ManagerFencesWrongFalsely : Prop := managerFencesRow.holds Tryz.pinned (OpenSpec.ofChange managerFencesWrong)

/-- 'hurdlelaw28.ManagerNone': WHATEVER THE INPUT: true; the input reads as it did. -/
def managerNoneSpec : ChangeSpec := { name := "managerNone", fn := fun _ => fun
  | [d1, d2] => { results := [.lit (.bool true)], args := [d1, d2] }
  | _ => none }
def managerNoneRow : OpenClaim := { program := "ytndndcdblfejnaagreatr", sum := "d35054a19a43c63e76cc8b6779c964530692ce0e39e807e7d8e0d822d2571d70", func := "hurdle/hurdlelaw28.ManagerNone", spec := "managerNone", inPlace := ["slices.overlaps[hurdle/replies.entry]", "slices.overlaps[hurdle/api.Use]", "internal/reflectlite.TypeOf"], unfollowed := true, recurses := true, apart := false }
def ManagerNoneSaid : Prop := managerNoneRow.holds Tryz.pinned (OpenSpec.ofChange managerNoneSpec)

/-- ITS FALSE NEIGHBOUR: 'it returns false'. Refute it at one input. -/
def managerNoneWrong : ChangeSpec := { name := "managerNone", fn := fun _ => fun
  | [d1, d2] => { results := [.lit (.bool false)], args := [d1, d2] }
  | _ => none }
def ManagerNoneWrongFalsely : Prop := managerNoneRow.holds Tryz.pinned (OpenSpec.ofChange managerNoneWrong)

/- THE SECOND FORM. 'bulk': how many values and letters a reading holds, each counted each time it is reached (what is shared counts as often as it is met; a slice's spare places count too). A statement '..UptoSaid' is the law's where the arguments, and the package variables that the reading takes, are together of bulk at most 1048576: NARROWER than '..Said'. Prove '..Said' where nothing that the law and all that it calls make is longer than what came in: it says more and counts as full. Else prove '..UptoSaid'. A law counts once. -/
mutual
def uptoBulk {H : Type} : DataW H → Nat
  | .lit (.string bytes) => bytes.length + 1
  | .lit _ => 1
  | .nil => 1
  | .ptr d => uptoBulk d + 1
  | .slice elems spare => uptoBulkAll elems + uptoBulkAll spare + 1
  | .agg parts => uptoBulkAll parts + 1
  | .iface _ d => uptoBulk d + 1
  | .map entries => uptoBulkEntries entries + 1
  | .held _ => 1
def uptoBulkAll {H : Type} : List (DataW H) → Nat
  | [] => 0
  | d :: r => uptoBulk d + uptoBulkAll r
def uptoBulkEntries {H : Type} : List (Lit × DataW H) → Nat
  | [] => 0
  | x :: r => uptoBulkEntry x + uptoBulkEntries r
def uptoBulkEntry {H : Type} : Lit × DataW H → Nat
  | (.string bytes, d) => bytes.length + uptoBulk d + 1
  | (_, d) => uptoBulk d + 1
 end
def uptoSmall : (H : Type) → List (DataW H) → Bool := fun _ ds => decide (uptoBulkAll ds ≤ 1048576)
def OpenSpec.upto (s : _root_.Go.ChangeSpec) : _root_.Go.OpenSpec := { _root_.Go.OpenSpec.ofChange s with cond := some uptoSmall }

/-- 'hurdlelaw28.ManagerBytes', WHERE WHAT IT READS IS OF BULK AT MOST 1048576: true; the input reads as it did. -/
def managerBytesUptoRow : OpenClaim := { program := "ytndndcdblfejnaagreatr", sum := "d35054a19a43c63e76cc8b6779c964530692ce0e39e807e7d8e0d822d2571d70", func := "hurdle/hurdlelaw28.ManagerBytes", spec := "managerBytes", inPlace := ["slices.overlaps[hurdle/replies.entry]", "slices.overlaps[hurdle/api.Use]", "internal/reflectlite.TypeOf"], unfollowed := true, recurses := true, apart := false, narrowed := true }
def ManagerBytesUptoSaid : Prop := managerBytesUptoRow.holds Tryz.pinned (OpenSpec.upto managerBytesSpec)

/-- 'hurdlelaw28.ManagerAlike', WHERE WHAT IT READS IS OF BULK AT MOST 1048576: true; the input reads as it did. -/
def managerAlikeUptoRow : OpenClaim := { program := "ytndndcdblfejnaagreatr", sum := "d35054a19a43c63e76cc8b6779c964530692ce0e39e807e7d8e0d822d2571d70", func := "hurdle/hurdlelaw28.ManagerAlike", spec := "managerAlike", inPlace := ["slices.overlaps[hurdle/replies.entry]", "slices.overlaps[hurdle/api.Use]", "internal/reflectlite.TypeOf"], unfollowed := true, recurses := true, apart := false, narrowed := true }
def ManagerAlikeUptoSaid : Prop := managerAlikeUptoRow.holds Tryz.pinned (OpenSpec.upto managerAlikeSpec)

/-- 'hurdlelaw28.ManagerFences', WHERE WHAT IT READS IS OF BULK AT MOST 1048576: true; the input reads as it did. -/
def managerFencesUptoRow : OpenClaim := { program := "ytndndcdblfejnaagreatr", sum := "d35054a19a43c63e76cc8b6779c964530692ce0e39e807e7d8e0d822d2571d70", func := "hurdle/hurdlelaw28.ManagerFences", spec := "managerFences", inPlace := ["slices.overlaps[hurdle/replies.entry]", "slices.overlaps[hurdle/api.Use]", "internal/reflectlite.TypeOf"], unfollowed := true, recurses := true, apart := false, narrowed := true }
def ManagerFencesUptoSaid : Prop := managerFencesUptoRow.holds Tryz.pinned (OpenSpec.upto managerFencesSpec)

/-- 'hurdlelaw28.ManagerNone', WHERE WHAT IT READS IS OF BULK AT MOST 1048576: true; the input reads as it did. -/
def managerNoneUptoRow : OpenClaim := { program := "ytndndcdblfejnaagreatr", sum := "d35054a19a43c63e76cc8b6779c964530692ce0e39e807e7d8e0d822d2571d70", func := "hurdle/hurdlelaw28.ManagerNone", spec := "managerNone", inPlace := ["slices.overlaps[hurdle/replies.entry]", "slices.overlaps[hurdle/api.Use]", "internal/reflectlite.TypeOf"], unfollowed := true, recurses := true, apart := false, narrowed := true }
def ManagerNoneUptoSaid : Prop := managerNoneUptoRow.holds Tryz.pinned (OpenSpec.upto managerNoneSpec)

end Rows
end Go.Proofs.YtndndcdblfejnaaGreatR
