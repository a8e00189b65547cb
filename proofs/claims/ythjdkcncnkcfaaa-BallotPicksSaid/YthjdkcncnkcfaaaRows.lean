/-
  No cell of these rows narrows 'for every input' (looked for: loops, veiled, ifaces, maps, wideKeys, modest, calm, conditions, laid).
  DERIVED. THE GIVEN ROWS OF THIS SEAT. 5 by the template 'for every input the law returns true; each argument reads behind the call as it read before'; 0 by the template 'total and deterministic' (their statements: YthjdkcncnkcfaaaTotals.lean).
  GIVEN WITH THE SEED: the statements are not yours to turn. If you find one false, say at which input.
  Laid BY PROGRAM, IN A SANDBOX (cutbox-rows.mjs): the forced cells as the released guide's own fill.sh prints them over the translation f831fb9744fba96c… (all of the seat's roots in one cut). By AI agents, Wed Nov 11 2026. No macro, syntax, notation, axiom, sorry.
-/
import Derived.Test.YthjdkcncnkcfaaaChecked
import GoSem.Claim
import GoSem.ClaimJoined
import GoSem.ClaimMapViews
import Derived.JoinedTies
import Derived.KernelRfl
namespace Go.Proofs.Ythjdkcncnkcfaaa
/- THE CELL 'sum', in the pinned program and in every row, IS THE sha256 OF THE DUMP (.gsa) THAT YthjdkcncnkcfaaaProg.lean LOADS. Nothing in Lean hashes anything: it is a label: what it is worth is what the hold of that sum in a sandbox is worth. -/
noncomputable def Try.pinned : Pinned := { name := "ythjdkcncnkcfaaa", sum := "f831fb9744fba96cbe712a18da6c80cc79cfe53320d069d60147126d3db5308f", checked := Try.checked }
namespace Rows
def none {H : Type} : Left H := { results := [], args := [] }

/-- 'hurdlelaw16.BallotCmps': WHATEVER THE INPUT: true; the input reads as it did. -/
def ballotCmpsSpec : ChangeSpec := { name := "ballotCmps", fn := fun _ => fun
  | [d1, d2, d3] => { results := [.lit (.bool true)], args := [d1, d2, d3] }
  | _ => none }
def ballotCmpsRow : OpenClaim := { program := "ythjdkcncnkcfaaa", sum := "f831fb9744fba96cbe712a18da6c80cc79cfe53320d069d60147126d3db5308f", func := "hurdle/hurdlelaw16.BallotCmps", spec := "ballotCmps", unfollowed := true, recurses := true, apart := false }
def BallotCmpsSaid : Prop := ballotCmpsRow.holds Try.pinned (OpenSpec.ofChange ballotCmpsSpec)

/-- ITS FALSE NEIGHBOUR: 'it returns false'. Refute it at one input. -/
def ballotCmpsWrong : ChangeSpec := { name := "ballotCmps", fn := fun _ => fun
  | [d1, d2, d3] => { results := [.lit (.bool false)], args := [d1, d2, d3] }
  | _ => none }
def BallotCmpsWrongFalsely : Prop := ballotCmpsRow.holds Try.pinned (OpenSpec.ofChange ballotCmpsWrong)

/-- 'hurdlelaw16.BallotPicks': WHATEVER THE INPUT: true; the input reads as it did. -/
def ballotPicksSpec : ChangeSpec := { name := "ballotPicks", fn := fun _ => fun
  | [d1, d2] => { results := [.lit (.bool true)], args := [d1, d2] }
  | _ => none }
def ballotPicksRow : OpenClaim := { program := "ythjdkcncnkcfaaa", sum := "f831fb9744fba96cbe712a18da6c80cc79cfe53320d069d60147126d3db5308f", func := "hurdle/hurdlelaw16.BallotPicks", spec := "ballotPicks", unfollowed := true, recurses := true, apart := false }
def BallotPicksSaid : Prop := ballotPicksRow.holds Try.pinned (OpenSpec.ofChange ballotPicksSpec)

/-- ITS FALSE NEIGHBOUR: 'it returns false'. Refute it at one input. -/
def ballotPicksWrong : ChangeSpec := { name := "ballotPicks", fn := fun _ => fun
  | [d1, d2] => { results := [.lit (.bool false)], args := [d1, d2] }
  | _ => none }
def BallotPicksWrongFalsely : Prop := ballotPicksRow.holds Try.pinned (OpenSpec.ofChange ballotPicksWrong)

/-- 'hurdlelaw16.BallotOrder': WHATEVER THE INPUT: true; the input reads as it did. -/
def ballotOrderSpec : ChangeSpec := { name := "ballotOrder", fn := fun _ => fun
  | [d1, d2, d3] => { results := [.lit (.bool true)], args := [d1, d2, d3] }
  | _ => none }
def ballotOrderRow : OpenClaim := { program := "ythjdkcncnkcfaaa", sum := "f831fb9744fba96cbe712a18da6c80cc79cfe53320d069d60147126d3db5308f", func := "hurdle/hurdlelaw16.BallotOrder", spec := "ballotOrder", unfollowed := true, recurses := true, apart := false }
def BallotOrderSaid : Prop := ballotOrderRow.holds Try.pinned (OpenSpec.ofChange ballotOrderSpec)

/-- ITS FALSE NEIGHBOUR: 'it returns false'. Refute it at one input. -/
def ballotOrderWrong : ChangeSpec := { name := "ballotOrder", fn := fun _ => fun
  | [d1, d2, d3] => { results := [.lit (.bool false)], args := [d1, d2, d3] }
  | _ => none }
def BallotOrderWrongFalsely : Prop := ballotOrderRow.holds Try.pinned (OpenSpec.ofChange ballotOrderWrong)

/-- 'hurdlelaw16.BallotNext': WHATEVER THE INPUT: true; the input reads as it did. -/
def ballotNextSpec : ChangeSpec := { name := "ballotNext", fn := fun _ => fun
  | [d1, d2] => { results := [.lit (.bool true)], args := [d1, d2] }
  | _ => none }
def ballotNextRow : OpenClaim := { program := "ythjdkcncnkcfaaa", sum := "f831fb9744fba96cbe712a18da6c80cc79cfe53320d069d60147126d3db5308f", func := "hurdle/hurdlelaw16.BallotNext", spec := "ballotNext", unfollowed := true, recurses := true, apart := false }
def BallotNextSaid : Prop := ballotNextRow.holds Try.pinned (OpenSpec.ofChange ballotNextSpec)

/-- ITS FALSE NEIGHBOUR: 'it returns false'. Refute it at one input. -/
def ballotNextWrong : ChangeSpec := { name := "ballotNext", fn := fun _ => fun
  | [d1, d2] => { results := [.lit (.bool false)], args := [d1, d2] }
  | _ => none }
def BallotNextWrongFalsely : Prop := ballotNextRow.holds Try.pinned (OpenSpec.ofChange ballotNextWrong)

/-- 'hurdlelaw16.BallotQuorums': WHATEVER THE INPUT: true; the input reads as it did. -/
def ballotQuorumsSpec : ChangeSpec := { name := "ballotQuorums", fn := fun _ => fun
  | [d] => { results := [.lit (.bool true)], args := [d] }
  | _ => none }
def ballotQuorumsRow : OpenClaim := { program := "ythjdkcncnkcfaaa", sum := "f831fb9744fba96cbe712a18da6c80cc79cfe53320d069d60147126d3db5308f", func := "hurdle/hurdlelaw16.BallotQuorums", spec := "ballotQuorums", unfollowed := true, recurses := true, apart := false }
def BallotQuorumsSaid : Prop := ballotQuorumsRow.holds Try.pinned (OpenSpec.ofChange ballotQuorumsSpec)

/-- ITS FALSE NEIGHBOUR: 'it returns false'. Refute it at one input. -/
def ballotQuorumsWrong : ChangeSpec := { name := "ballotQuorums", fn := fun _ => fun
  | [d] => { results := [.lit (.bool false)], args := [d] }
  | _ => none }
def BallotQuorumsWrongFalsely : Prop := ballotQuorumsRow.holds Try.pinned (OpenSpec.ofChange ballotQuorumsWrong)

/- THE SECOND FORM. 'bulk': how many values and letters a reading holds, each counted each time it is reached (what is shared counts as often as it is met; a slice's spare places count too). A statement '..UptoSaid' is the law's where the arguments, and the package variables that the reading takes, are together of bulk at most 1048576: NARROWER than '..Said'. Prove '..Said' where nothing that the law and all that it calls make is longer than what came in: it says more and counts as full. Else prove '..UptoSaid'. A law counts once. -/
mutual
def uptoBulk {H : Type} : DataW H → Nat
  | .lit (.string bytes) => bytes.length + 1
  | .lit _ => 1
  | .nil => 1
  | .ptr d => uptoBulk d + 1
  | .slice elems spare => uptoBulkAll elems + uptoBulkAll spare + 1
  | .agg parts => uptoBulkAll parts + 1
  | .iface _ d => uptoBulk d + 1
  | .map entries => uptoBulkEntries entries + 1
  | .held _ => 1
def uptoBulkAll {H : Type} : List (DataW H) → Nat
  | [] => 0
  | d :: r => uptoBulk d + uptoBulkAll r
def uptoBulkEntries {H : Type} : List (Lit × DataW H) → Nat
  | [] => 0
  | x :: r => uptoBulkEntry x + uptoBulkEntries r
def uptoBulkEntry {H : Type} : Lit × DataW H → Nat
  | (.string bytes, d) => bytes.length + uptoBulk d + 1
  | (_, d) => uptoBulk d + 1
 end
def uptoSmall : (H : Type) → List (DataW H) → Bool := fun _ ds => decide (uptoBulkAll ds ≤ 1048576)
def OpenSpec.upto (s : _root_.Go.ChangeSpec) : _root_.Go.OpenSpec := { _root_.Go.OpenSpec.ofChange s with cond := some uptoSmall }

/-- 'hurdlelaw16.BallotCmps', WHERE WHAT IT READS IS OF BULK AT MOST 1048576: true; the input reads as it did. -/
def ballotCmpsUptoRow : OpenClaim := { program := "ythjdkcncnkcfaaa", sum := "f831fb9744fba96cbe712a18da6c80cc79cfe53320d069d60147126d3db5308f", func := "hurdle/hurdlelaw16.BallotCmps", spec := "ballotCmps", unfollowed := true, recurses := true, apart := false, narrowed := true }
def BallotCmpsUptoSaid : Prop := ballotCmpsUptoRow.holds Try.pinned (OpenSpec.upto ballotCmpsSpec)

/-- 'hurdlelaw16.BallotPicks', WHERE WHAT IT READS IS OF BULK AT MOST 1048576: true; the input reads as it did. -/
def ballotPicksUptoRow : OpenClaim := { program := "ythjdkcncnkcfaaa", sum := "f831fb9744fba96cbe712a18da6c80cc79cfe53320d069d60147126d3db5308f", func := "hurdle/hurdlelaw16.BallotPicks", spec := "ballotPicks", unfollowed := true, recurses := true, apart := false, narrowed := true }
def BallotPicksUptoSaid : Prop := ballotPicksUptoRow.holds Try.pinned (OpenSpec.upto ballotPicksSpec)

/-- 'hurdlelaw16.BallotOrder', WHERE WHAT IT READS IS OF BULK AT MOST 1048576: true; the input reads as it did. -/
def ballotOrderUptoRow : OpenClaim := { program := "ythjdkcncnkcfaaa", sum := "f831fb9744fba96cbe712a18da6c80cc79cfe53320d069d60147126d3db5308f", func := "hurdle/hurdlelaw16.BallotOrder", spec := "ballotOrder", unfollowed := true, recurses := true, apart := false, narrowed := true }
def BallotOrderUptoSaid : Prop := ballotOrderUptoRow.holds Try.pinned (OpenSpec.upto ballotOrderSpec)

/-- 'hurdlelaw16.BallotNext', WHERE WHAT IT READS IS OF BULK AT MOST 1048576: true; the input reads as it did. -/
def ballotNextUptoRow : OpenClaim := { program := "ythjdkcncnkcfaaa", sum := "f831fb9744fba96cbe712a18da6c80cc79cfe53320d069d60147126d3db5308f", func := "hurdle/hurdlelaw16.BallotNext", spec := "ballotNext", unfollowed := true, recurses := true, apart := false, narrowed := true }
def BallotNextUptoSaid : Prop := ballotNextUptoRow.holds Try.pinned (OpenSpec.upto ballotNextSpec)

/-- 'hurdlelaw16.BallotQuorums', WHERE WHAT IT READS IS OF BULK AT MOST 1048576: true; the input reads as it did. -/
def ballotQuorumsUptoRow : OpenClaim := { program := "ythjdkcncnkcfaaa", sum := "f831fb9744fba96cbe712a18da6c80cc79cfe53320d069d60147126d3db5308f", func := "hurdle/hurdlelaw16.BallotQuorums", spec := "ballotQuorums", unfollowed := true, recurses := true, apart := false, narrowed := true }
def BallotQuorumsUptoSaid : Prop := ballotQuorumsUptoRow.holds Try.pinned (OpenSpec.upto ballotQuorumsSpec)

end Rows
end Go.Proofs.Ythjdkcncnkcfaaa
