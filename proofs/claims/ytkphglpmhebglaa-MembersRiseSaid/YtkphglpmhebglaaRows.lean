/-
  No cell of these rows narrows 'for every input' (looked for: loops, veiled, ifaces, maps, wideKeys, modest, calm, conditions, laid).
  DERIVED. THE GIVEN ROWS OF THIS SEAT. 5 by the template 'for every input the law returns true; each argument reads behind the call as it read before'; 0 by the template 'total and deterministic' (their statements: YtkphglpmhebglaaTotals.lean).
  GIVEN WITH THE SEED: the statements are not yours to turn. If you find one false, say at which input.
  Laid BY PROGRAM, IN A SANDBOX (cutbox-rows.mjs): the forced cells as the released guide's own fill.sh prints them over the translation 89f32ed2c00f7835… (all of the seat's roots in one cut). By AI agents, Wed Nov 11 2026. No macro, syntax, notation, axiom, sorry.
-/
import Derived.Test.YtkphglpmhebglaaChecked
import GoSem.Claim
import GoSem.ClaimJoined
import GoSem.ClaimMapViews
import Derived.JoinedTies
import Derived.KernelRfl
namespace Go.Proofs.Ytkphglpmhebglaa
/- THE CELL 'sum', in the pinned program and in every row, IS THE sha256 OF THE DUMP (.gsa) THAT YtkphglpmhebglaaProg.lean LOADS. Nothing in Lean hashes anything: it is a label: what it is worth is what the hold of that sum in a sandbox is worth. -/
noncomputable def Try.pinned : Pinned := { name := "ytkphglpmhebglaa", sum := "89f32ed2c00f7835ef764337989260c639e0e044d915c843a540a4bbd5867491", checked := Try.checked }
namespace Rows
def none {H : Type} : Left H := { results := [], args := [] }

/-- 'hurdlelaw23.MembersPlays': WHATEVER THE INPUT: true; the input reads as it did. -/
def membersPlaysSpec : ChangeSpec := { name := "membersPlays", fn := fun _ => fun
  | [d1, d2] => { results := [.lit (.bool true)], args := [d1, d2] }
  | _ => none }
def membersPlaysRow : OpenClaim := { program := "ytkphglpmhebglaa", sum := "89f32ed2c00f7835ef764337989260c639e0e044d915c843a540a4bbd5867491", func := "hurdle/hurdlelaw23.MembersPlays", spec := "membersPlays", unfollowed := true, recurses := true, apart := false }
def MembersPlaysSaid : Prop := membersPlaysRow.holds Try.pinned (OpenSpec.ofChange membersPlaysSpec)

/-- ITS FALSE NEIGHBOUR: 'it returns false'. Refute it at one input. -/
def membersPlaysWrong : ChangeSpec := { name := "membersPlays", fn := fun _ => fun
  | [d1, d2] => { results := [.lit (.bool false)], args := [d1, d2] }
  | _ => none }
def MembersPlaysWrongFalsely : Prop := membersPlaysRow.holds Try.pinned (OpenSpec.ofChange membersPlaysWrong)

/-- 'hurdlelaw23.MembersRise': WHATEVER THE INPUT: true; the input reads as it did. -/
def membersRiseSpec : ChangeSpec := { name := "membersRise", fn := fun _ => fun
  | [d1, d2] => { results := [.lit (.bool true)], args := [d1, d2] }
  | _ => none }
def membersRiseRow : OpenClaim := { program := "ytkphglpmhebglaa", sum := "89f32ed2c00f7835ef764337989260c639e0e044d915c843a540a4bbd5867491", func := "hurdle/hurdlelaw23.MembersRise", spec := "membersRise", unfollowed := true, recurses := true, apart := false }
def MembersRiseSaid : Prop := membersRiseRow.holds Try.pinned (OpenSpec.ofChange membersRiseSpec)

/-- ITS FALSE NEIGHBOUR: 'it returns false'. Refute it at one input. -/
def membersRiseWrong : ChangeSpec := { name := "membersRise", fn := fun _ => fun
  | [d1, d2] => { results := [.lit (.bool false)], args := [d1, d2] }
  | _ => none }
def MembersRiseWrongFalsely : Prop := membersRiseRow.holds Try.pinned (OpenSpec.ofChange membersRiseWrong)

/-- 'hurdlelaw23.MembersBack': WHATEVER THE INPUT: true; the input reads as it did. -/
def membersBackSpec : ChangeSpec := { name := "membersBack", fn := fun _ => fun
  | [d1, d2, d3] => { results := [.lit (.bool true)], args := [d1, d2, d3] }
  | _ => none }
def membersBackRow : OpenClaim := { program := "ytkphglpmhebglaa", sum := "89f32ed2c00f7835ef764337989260c639e0e044d915c843a540a4bbd5867491", func := "hurdle/hurdlelaw23.MembersBack", spec := "membersBack", unfollowed := true, recurses := true, apart := false }
def MembersBackSaid : Prop := membersBackRow.holds Try.pinned (OpenSpec.ofChange membersBackSpec)

/-- ITS FALSE NEIGHBOUR: 'it returns false'. Refute it at one input. -/
def membersBackWrong : ChangeSpec := { name := "membersBack", fn := fun _ => fun
  | [d1, d2, d3] => { results := [.lit (.bool false)], args := [d1, d2, d3] }
  | _ => none }
def MembersBackWrongFalsely : Prop := membersBackRow.holds Try.pinned (OpenSpec.ofChange membersBackWrong)

/-- 'hurdlelaw23.MembersOne': WHATEVER THE INPUT: true; the input reads as it did. -/
def membersOneSpec : ChangeSpec := { name := "membersOne", fn := fun _ => fun
  | [d1, d2, d3] => { results := [.lit (.bool true)], args := [d1, d2, d3] }
  | _ => none }
def membersOneRow : OpenClaim := { program := "ytkphglpmhebglaa", sum := "89f32ed2c00f7835ef764337989260c639e0e044d915c843a540a4bbd5867491", func := "hurdle/hurdlelaw23.MembersOne", spec := "membersOne", unfollowed := true, recurses := true, apart := false }
def MembersOneSaid : Prop := membersOneRow.holds Try.pinned (OpenSpec.ofChange membersOneSpec)

/-- ITS FALSE NEIGHBOUR: 'it returns false'. Refute it at one input. -/
def membersOneWrong : ChangeSpec := { name := "membersOne", fn := fun _ => fun
  | [d1, d2, d3] => { results := [.lit (.bool false)], args := [d1, d2, d3] }
  | _ => none }
def MembersOneWrongFalsely : Prop := membersOneRow.holds Try.pinned (OpenSpec.ofChange membersOneWrong)

/-- 'hurdlelaw23.MembersNone': WHATEVER THE INPUT: true; the input reads as it did. -/
def membersNoneSpec : ChangeSpec := { name := "membersNone", fn := fun _ => fun
  | [d] => { results := [.lit (.bool true)], args := [d] }
  | _ => none }
def membersNoneRow : OpenClaim := { program := "ytkphglpmhebglaa", sum := "89f32ed2c00f7835ef764337989260c639e0e044d915c843a540a4bbd5867491", func := "hurdle/hurdlelaw23.MembersNone", spec := "membersNone", unfollowed := true, recurses := true, apart := false }
def MembersNoneSaid : Prop := membersNoneRow.holds Try.pinned (OpenSpec.ofChange membersNoneSpec)

/-- ITS FALSE NEIGHBOUR: 'it returns false'. Refute it at one input. -/
def membersNoneWrong : ChangeSpec := { name := "membersNone", fn := fun _ => fun
  | [d] => { results := [.lit (.bool false)], args := [d] }
  | _ => none }
def MembersNoneWrongFalsely : Prop := membersNoneRow.holds Try.pinned (OpenSpec.ofChange membersNoneWrong)

/- THE SECOND FORM. 'bulk': how many values and letters a reading holds, each counted each time it is reached (what is shared counts as often as it is met; a slice's spare places count too). A statement '..UptoSaid' is the law's where the arguments, and the package variables that the reading takes, are together of bulk at most 1048576: NARROWER than '..Said'. Prove '..Said' where nothing that the law and all that it calls make is longer than what came in: it says more and counts as full. Else prove '..UptoSaid'. A law counts once. -/
mutual
def uptoBulk {H : Type} : DataW H → Nat
  | .lit (.string bytes) => bytes.length + 1
  | .lit _ => 1
  | .nil => 1
  | .ptr d => uptoBulk d + 1
  | .slice elems spare => uptoBulkAll elems + uptoBulkAll spare + 1
  | .agg parts => uptoBulkAll parts + 1
  | .iface _ d => uptoBulk d + 1
  | .map entries => uptoBulkEntries entries + 1
  | .held _ => 1
def uptoBulkAll {H : Type} : List (DataW H) → Nat
  | [] => 0
  | d :: r => uptoBulk d + uptoBulkAll r
def uptoBulkEntries {H : Type} : List (Lit × DataW H) → Nat
  | [] => 0
  | x :: r => uptoBulkEntry x + uptoBulkEntries r
def uptoBulkEntry {H : Type} : Lit × DataW H → Nat
  | (.string bytes, d) => bytes.length + uptoBulk d + 1
  | (_, d) => uptoBulk d + 1
 end
def uptoSmall : (H : Type) → List (DataW H) → Bool := fun _ ds => decide (uptoBulkAll ds ≤ 1048576)
def OpenSpec.upto (s : _root_.Go.ChangeSpec) : _root_.Go.OpenSpec := { _root_.Go.OpenSpec.ofChange s with cond := some uptoSmall }

/-- 'hurdlelaw23.MembersPlays', WHERE WHAT IT READS IS OF BULK AT MOST 1048576: true; the input reads as it did. -/
def membersPlaysUptoRow : OpenClaim := { program := "ytkphglpmhebglaa", sum := "89f32ed2c00f7835ef764337989260c639e0e044d915c843a540a4bbd5867491", func := "hurdle/hurdlelaw23.MembersPlays", spec := "membersPlays", unfollowed := true, recurses := true, apart := false, narrowed := true }
def MembersPlaysUptoSaid : Prop := membersPlaysUptoRow.holds Try.pinned (OpenSpec.upto membersPlaysSpec)

/-- 'hurdlelaw23.MembersRise', WHERE WHAT IT READS IS OF BULK AT MOST 1048576: true; the input reads as it did. -/
def membersRiseUptoRow : OpenClaim := { program := "ytkphglpmhebglaa", sum := "89f32ed2c00f7835ef764337989260c639e0e044d915c843a540a4bbd5867491", func := "hurdle/hurdlelaw23.MembersRise", spec := "membersRise", unfollowed := true, recurses := true, apart := false, narrowed := true }
def MembersRiseUptoSaid : Prop := membersRiseUptoRow.holds Try.pinned (OpenSpec.upto membersRiseSpec)

/-- 'hurdlelaw23.MembersBack', WHERE WHAT IT READS IS OF BULK AT MOST 1048576: true; the input reads as it did. -/
def membersBackUptoRow : OpenClaim := { program := "ytkphglpmhebglaa", sum := "89f32ed2c00f7835ef764337989260c639e0e044d915c843a540a4bbd5867491", func := "hurdle/hurdlelaw23.MembersBack", spec := "membersBack", unfollowed := true, recurses := true, apart := false, narrowed := true }
def MembersBackUptoSaid : Prop := membersBackUptoRow.holds Try.pinned (OpenSpec.upto membersBackSpec)

/-- 'hurdlelaw23.MembersOne', WHERE WHAT IT READS IS OF BULK AT MOST 1048576: true; the input reads as it did. -/
def membersOneUptoRow : OpenClaim := { program := "ytkphglpmhebglaa", sum := "89f32ed2c00f7835ef764337989260c639e0e044d915c843a540a4bbd5867491", func := "hurdle/hurdlelaw23.MembersOne", spec := "membersOne", unfollowed := true, recurses := true, apart := false, narrowed := true }
def MembersOneUptoSaid : Prop := membersOneUptoRow.holds Try.pinned (OpenSpec.upto membersOneSpec)

/-- 'hurdlelaw23.MembersNone', WHERE WHAT IT READS IS OF BULK AT MOST 1048576: true; the input reads as it did. -/
def membersNoneUptoRow : OpenClaim := { program := "ytkphglpmhebglaa", sum := "89f32ed2c00f7835ef764337989260c639e0e044d915c843a540a4bbd5867491", func := "hurdle/hurdlelaw23.MembersNone", spec := "membersNone", unfollowed := true, recurses := true, apart := false, narrowed := true }
def MembersNoneUptoSaid : Prop := membersNoneUptoRow.holds Try.pinned (OpenSpec.upto membersNoneSpec)

end Rows
end Go.Proofs.Ytkphglpmhebglaa
