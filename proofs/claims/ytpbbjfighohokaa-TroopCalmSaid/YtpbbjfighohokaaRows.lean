/-
  No cell of these rows narrows 'for every input' (looked for: loops, veiled, ifaces, maps, wideKeys, modest, calm, conditions, laid).
  DERIVED. THE GIVEN ROWS OF THIS SEAT. 4 by the template 'for every input the law returns true; each argument reads behind the call as it read before'; 0 by the template 'total and deterministic' (their statements: YtpbbjfighohokaaTotals.lean).
  GIVEN WITH THE SEED: the statements are not yours to turn. If you find one false, say at which input.
  Laid BY PROGRAM, IN A SANDBOX (cutbox-rows.mjs): the forced cells as the released guide's own fill.sh prints them over the translation 1a2b4d92e85ce33c… (all of the seat's roots in one cut). By AI agents, Wed Nov 11 2026. No macro, syntax, notation, axiom, sorry.
-/
import Derived.Test.YtpbbjfighohokaaChecked
import GoSem.Claim
import GoSem.ClaimJoined
import GoSem.ClaimMapViews
import Derived.JoinedTies
import Derived.KernelRfl
namespace Go.Proofs.Ytpbbjfighohokaa
/- THE CELL 'sum', in the pinned program and in every row, IS THE sha256 OF THE DUMP (.gsa) THAT YtpbbjfighohokaaProg.lean LOADS. Nothing in Lean hashes anything: it is a label: what it is worth is what the hold of that sum in a sandbox is worth. -/
noncomputable def Try.pinned : Pinned := { name := "ytpbbjfighohokaa", sum := "1a2b4d92e85ce33cdf11f884f72d3a90d837579685c3d5319b1e29649ca6f3b4", checked := Try.checked }
namespace Rows
def none {H : Type} : Left H := { results := [], args := [] }

/-- 'hurdlelaw22.TroopCalm': WHATEVER THE INPUT: true; the input reads as it did. -/
def troopCalmSpec : ChangeSpec := { name := "troopCalm", fn := fun _ => fun
  | [d1, d2, d3] => { results := [.lit (.bool true)], args := [d1, d2, d3] }
  | _ => none }
def troopCalmRow : OpenClaim := { program := "ytpbbjfighohokaa", sum := "1a2b4d92e85ce33cdf11f884f72d3a90d837579685c3d5319b1e29649ca6f3b4", func := "hurdle/hurdlelaw22.TroopCalm", spec := "troopCalm", inPlace := ["slices.overlaps[hurdle/api.Vote]"], unfollowed := true, recurses := true, plainKeys := false, apart := false }
def TroopCalmSaid : Prop := troopCalmRow.holds Try.pinned (OpenSpec.ofChange troopCalmSpec)

/-- ITS FALSE NEIGHBOUR: 'it returns false'. Refute it at one input. -/
def troopCalmWrong : ChangeSpec := { name := "troopCalm", fn := fun _ => fun
  | [d1, d2, d3] => { results := [.lit (.bool false)], args := [d1, d2, d3] }
  | _ => none }
def TroopCalmWrongFalsely : Prop := troopCalmRow.holds Try.pinned (OpenSpec.ofChange troopCalmWrong)

/-- 'hurdlelaw22.TroopAgrees': WHATEVER THE INPUT: true; the input reads as it did. -/
def troopAgreesSpec : ChangeSpec := { name := "troopAgrees", fn := fun _ => fun
  | [d1, d2] => { results := [.lit (.bool true)], args := [d1, d2] }
  | _ => none }
def troopAgreesRow : OpenClaim := { program := "ytpbbjfighohokaa", sum := "1a2b4d92e85ce33cdf11f884f72d3a90d837579685c3d5319b1e29649ca6f3b4", func := "hurdle/hurdlelaw22.TroopAgrees", spec := "troopAgrees", inPlace := ["slices.overlaps[hurdle/api.Vote]"], unfollowed := true, recurses := true, plainKeys := false, apart := false }
def TroopAgreesSaid : Prop := troopAgreesRow.holds Try.pinned (OpenSpec.ofChange troopAgreesSpec)

/-- ITS FALSE NEIGHBOUR: 'it returns false'. Refute it at one input. -/
def troopAgreesWrong : ChangeSpec := { name := "troopAgrees", fn := fun _ => fun
  | [d1, d2] => { results := [.lit (.bool false)], args := [d1, d2] }
  | _ => none }
def TroopAgreesWrongFalsely : Prop := troopAgreesRow.holds Try.pinned (OpenSpec.ofChange troopAgreesWrong)

/-- 'hurdlelaw22.TroopValid': WHATEVER THE INPUT: true; the input reads as it did. -/
def troopValidSpec : ChangeSpec := { name := "troopValid", fn := fun _ => fun
  | [d1, d2] => { results := [.lit (.bool true)], args := [d1, d2] }
  | _ => none }
def troopValidRow : OpenClaim := { program := "ytpbbjfighohokaa", sum := "1a2b4d92e85ce33cdf11f884f72d3a90d837579685c3d5319b1e29649ca6f3b4", func := "hurdle/hurdlelaw22.TroopValid", spec := "troopValid", inPlace := ["slices.overlaps[hurdle/api.Vote]"], unfollowed := true, recurses := true, plainKeys := false, apart := false }
def TroopValidSaid : Prop := troopValidRow.holds Try.pinned (OpenSpec.ofChange troopValidSpec)

/-- ITS FALSE NEIGHBOUR: 'it returns false'. Refute it at one input. -/
def troopValidWrong : ChangeSpec := { name := "troopValid", fn := fun _ => fun
  | [d1, d2] => { results := [.lit (.bool false)], args := [d1, d2] }
  | _ => none }
def TroopValidWrongFalsely : Prop := troopValidRow.holds Try.pinned (OpenSpec.ofChange troopValidWrong)

/-- 'hurdlelaw22.TroopNone': WHATEVER THE INPUT: true; the input reads as it did. -/
def troopNoneSpec : ChangeSpec := { name := "troopNone", fn := fun _ => fun
  | [d] => { results := [.lit (.bool true)], args := [d] }
  | _ => none }
def troopNoneRow : OpenClaim := { program := "ytpbbjfighohokaa", sum := "1a2b4d92e85ce33cdf11f884f72d3a90d837579685c3d5319b1e29649ca6f3b4", func := "hurdle/hurdlelaw22.TroopNone", spec := "troopNone", inPlace := ["slices.overlaps[hurdle/api.Vote]"], unfollowed := true, recurses := true, plainKeys := false, apart := false }
def TroopNoneSaid : Prop := troopNoneRow.holds Try.pinned (OpenSpec.ofChange troopNoneSpec)

/-- ITS FALSE NEIGHBOUR: 'it returns false'. Refute it at one input. -/
def troopNoneWrong : ChangeSpec := { name := "troopNone", fn := fun _ => fun
  | [d] => { results := [.lit (.bool false)], args := [d] }
  | _ => none }
def TroopNoneWrongFalsely : Prop := troopNoneRow.holds Try.pinned (OpenSpec.ofChange troopNoneWrong)

/- THE SECOND FORM. 'bulk': how many values and letters a reading holds, each counted each time it is reached (what is shared counts as often as it is met; a slice's spare places count too). A statement '..UptoSaid' is the law's where the arguments, and the package variables that the reading takes, are together of bulk at most 1048576: NARROWER than '..Said'. Prove '..Said' where nothing that the law and all that it calls make is longer than what came in: it says more and counts as full. Else prove '..UptoSaid'. A law counts once. -/
mutual
def uptoBulk {H : Type} : DataW H → Nat
  | .lit (.string bytes) => bytes.length + 1
  | .lit _ => 1
  | .nil => 1
  | .ptr d => uptoBulk d + 1
  | .slice elems spare => uptoBulkAll elems + uptoBulkAll spare + 1
  | .agg parts => uptoBulkAll parts + 1
  | .iface _ d => uptoBulk d + 1
  | .map entries => uptoBulkEntries entries + 1
  | .held _ => 1
def uptoBulkAll {H : Type} : List (DataW H) → Nat
  | [] => 0
  | d :: r => uptoBulk d + uptoBulkAll r
def uptoBulkEntries {H : Type} : List (Lit × DataW H) → Nat
  | [] => 0
  | x :: r => uptoBulkEntry x + uptoBulkEntries r
def uptoBulkEntry {H : Type} : Lit × DataW H → Nat
  | (.string bytes, d) => bytes.length + uptoBulk d + 1
  | (_, d) => uptoBulk d + 1
 end
def uptoSmall : (H : Type) → List (DataW H) → Bool := fun _ ds => decide (uptoBulkAll ds ≤ 1048576)
def OpenSpec.upto (s : _root_.Go.ChangeSpec) : _root_.Go.OpenSpec := { _root_.Go.OpenSpec.ofChange s with cond := some uptoSmall }

/-- 'hurdlelaw22.TroopCalm', WHERE WHAT IT READS IS OF BULK AT MOST 1048576: true; the input reads as it did. -/
def troopCalmUptoRow : OpenClaim := { program := "ytpbbjfighohokaa", sum := "1a2b4d92e85ce33cdf11f884f72d3a90d837579685c3d5319b1e29649ca6f3b4", func := "hurdle/hurdlelaw22.TroopCalm", spec := "troopCalm", inPlace := ["slices.overlaps[hurdle/api.Vote]"], unfollowed := true, recurses := true, plainKeys := false, apart := false, narrowed := true }
def TroopCalmUptoSaid : Prop := troopCalmUptoRow.holds Try.pinned (OpenSpec.upto troopCalmSpec)

/-- 'hurdlelaw22.TroopAgrees', WHERE WHAT IT READS IS OF BULK AT MOST 1048576: true; the input reads as it did. -/
def troopAgreesUptoRow : OpenClaim := { program := "ytpbbjfighohokaa", sum := "1a2b4d92e85ce33cdf11f884f72d3a90d837579685c3d5319b1e29649ca6f3b4", func := "hurdle/hurdlelaw22.TroopAgrees", spec := "troopAgrees", inPlace := ["slices.overlaps[hurdle/api.Vote]"], unfollowed := true, recurses := true, plainKeys := false, apart := false, narrowed := true }
def TroopAgreesUptoSaid : Prop := troopAgreesUptoRow.holds Try.pinned (OpenSpec.upto troopAgreesSpec)

/-- 'hurdlelaw22.TroopValid', WHERE WHAT IT READS IS OF BULK AT MOST 1048576: true; the input reads as it did. -/
def troopValidUptoRow : OpenClaim := { program := "ytpbbjfighohokaa", sum := "1a2b4d92e85ce33cdf11f884f72d3a90d837579685c3d5319b1e29649ca6f3b4", func := "hurdle/hurdlelaw22.TroopValid", spec := "troopValid", inPlace := ["slices.overlaps[hurdle/api.Vote]"], unfollowed := true, recurses := true, plainKeys := false, apart := false, narrowed := true }
def TroopValidUptoSaid : Prop := troopValidUptoRow.holds Try.pinned (OpenSpec.upto troopValidSpec)

/-- 'hurdlelaw22.TroopNone', WHERE WHAT IT READS IS OF BULK AT MOST 1048576: true; the input reads as it did. -/
def troopNoneUptoRow : OpenClaim := { program := "ytpbbjfighohokaa", sum := "1a2b4d92e85ce33cdf11f884f72d3a90d837579685c3d5319b1e29649ca6f3b4", func := "hurdle/hurdlelaw22.TroopNone", spec := "troopNone", inPlace := ["slices.overlaps[hurdle/api.Vote]"], unfollowed := true, recurses := true, plainKeys := false, apart := false, narrowed := true }
def TroopNoneUptoSaid : Prop := troopNoneUptoRow.holds Try.pinned (OpenSpec.upto troopNoneSpec)

end Rows
end Go.Proofs.Ytpbbjfighohokaa
