/-
  No cell of these rows narrows 'for every input' (looked for: loops, veiled, ifaces, maps, wideKeys, modest, calm, conditions, laid).
  DERIVED. THE GIVEN ROWS OF THIS SEAT. 5 by the template 'for every input the law returns true; each argument reads behind the call as it read before'; 0 by the template 'total and deterministic' (their statements: YtdfjicnjcibdaaaTotals.lean).
  GIVEN WITH THE SEED: the statements are not yours to turn. If you find one false, say at which input.
  Laid BY PROGRAM, IN A SANDBOX (cutbox-rows.mjs): the forced cells as the released guide's own fill.sh prints them over the translation 2fe586d58306489e… (all of the seat's roots in one cut). By AI agents, Wed Nov 11 2026. No macro, syntax, notation, axiom, sorry.
-/
import Derived.Test.YtdfjicnjcibdaaaChecked
import GoSem.Claim
import GoSem.ClaimJoined
import GoSem.ClaimMapViews
import Derived.JoinedTies
import Derived.KernelRfl
namespace Go.Proofs.Ytdfjicnjcibdaaa
/- THE CELL 'sum', in the pinned program and in every row, IS THE sha256 OF THE DUMP (.gsa) THAT YtdfjicnjcibdaaaProg.lean LOADS. Nothing in Lean hashes anything: it is a label: what it is worth is what the hold of that sum in a sandbox is worth. -/
noncomputable def Try.pinned : Pinned := { name := "ytdfjicnjcibdaaa", sum := "2fe586d58306489e8bf664923355ee3743921e4597bd7f5cb965049091094696", checked := Try.checked }
namespace Rows
def none {H : Type} : Left H := { results := [], args := [] }

/-- 'hurdlelaw26.UsagePlays': WHATEVER THE INPUT: true; the input reads as it did. -/
def usagePlaysSpec : ChangeSpec := { name := "usagePlays", fn := fun _ => fun
  | [d1, d2] => { results := [.lit (.bool true)], args := [d1, d2] }
  | _ => none }
def usagePlaysRow : OpenClaim := { program := "ytdfjicnjcibdaaa", sum := "2fe586d58306489e8bf664923355ee3743921e4597bd7f5cb965049091094696", func := "hurdle/hurdlelaw26.UsagePlays", spec := "usagePlays", inPlace := ["slices.overlaps[hurdle/api.Use]", "internal/reflectlite.TypeOf"], unfollowed := true, recurses := true, apart := false }
def UsagePlaysSaid : Prop := usagePlaysRow.holds Try.pinned (OpenSpec.ofChange usagePlaysSpec)

/-- ITS FALSE NEIGHBOUR: 'it returns false'. Refute it at one input. -/
def usagePlaysWrong : ChangeSpec := { name := "usagePlays", fn := fun _ => fun
  | [d1, d2] => { results := [.lit (.bool false)], args := [d1, d2] }
  | _ => none }
def UsagePlaysWrongFalsely : Prop := usagePlaysRow.holds Try.pinned (OpenSpec.ofChange usagePlaysWrong)

/-- 'hurdlelaw26.UsageScores': WHATEVER THE INPUT: true; the input reads as it did. -/
def usageScoresSpec : ChangeSpec := { name := "usageScores", fn := fun _ => fun
  | [d1, d2] => { results := [.lit (.bool true)], args := [d1, d2] }
  | _ => none }
def usageScoresRow : OpenClaim := { program := "ytdfjicnjcibdaaa", sum := "2fe586d58306489e8bf664923355ee3743921e4597bd7f5cb965049091094696", func := "hurdle/hurdlelaw26.UsageScores", spec := "usageScores", inPlace := ["slices.overlaps[hurdle/api.Use]", "internal/reflectlite.TypeOf"], unfollowed := true, recurses := true, apart := false }
def UsageScoresSaid : Prop := usageScoresRow.holds Try.pinned (OpenSpec.ofChange usageScoresSpec)

/-- ITS FALSE NEIGHBOUR: 'it returns false'. Refute it at one input. -/
def usageScoresWrong : ChangeSpec := { name := "usageScores", fn := fun _ => fun
  | [d1, d2] => { results := [.lit (.bool false)], args := [d1, d2] }
  | _ => none }
def UsageScoresWrongFalsely : Prop := usageScoresRow.holds Try.pinned (OpenSpec.ofChange usageScoresWrong)

/-- 'hurdlelaw26.UsageBest': WHATEVER THE INPUT: true; the input reads as it did. -/
def usageBestSpec : ChangeSpec := { name := "usageBest", fn := fun _ => fun
  | [d1, d2] => { results := [.lit (.bool true)], args := [d1, d2] }
  | _ => none }
def usageBestRow : OpenClaim := { program := "ytdfjicnjcibdaaa", sum := "2fe586d58306489e8bf664923355ee3743921e4597bd7f5cb965049091094696", func := "hurdle/hurdlelaw26.UsageBest", spec := "usageBest", inPlace := ["slices.overlaps[hurdle/api.Use]", "internal/reflectlite.TypeOf"], unfollowed := true, recurses := true, apart := false }
def UsageBestSaid : Prop := usageBestRow.holds Try.pinned (OpenSpec.ofChange usageBestSpec)

/-- ITS FALSE NEIGHBOUR: 'it returns false'. Refute it at one input. -/
def usageBestWrong : ChangeSpec := { name := "usageBest", fn := fun _ => fun
  | [d1, d2] => { results := [.lit (.bool false)], args := [d1, d2] }
  | _ => none }
def UsageBestWrongFalsely : Prop := usageBestRow.holds Try.pinned (OpenSpec.ofChange usageBestWrong)

/-- 'hurdlelaw26.UsageEmptier': WHATEVER THE INPUT: true; the input reads as it did. -/
def usageEmptierSpec : ChangeSpec := { name := "usageEmptier", fn := fun _ => fun
  | [d1, d2, d3] => { results := [.lit (.bool true)], args := [d1, d2, d3] }
  | _ => none }
def usageEmptierRow : OpenClaim := { program := "ytdfjicnjcibdaaa", sum := "2fe586d58306489e8bf664923355ee3743921e4597bd7f5cb965049091094696", func := "hurdle/hurdlelaw26.UsageEmptier", spec := "usageEmptier", inPlace := ["slices.overlaps[hurdle/api.Use]", "internal/reflectlite.TypeOf"], unfollowed := true, recurses := true, apart := false }
def UsageEmptierSaid : Prop := usageEmptierRow.holds Try.pinned (OpenSpec.ofChange usageEmptierSpec)

/-- ITS FALSE NEIGHBOUR: 'it returns false'. Refute it at one input. -/
def usageEmptierWrong : ChangeSpec := { name := "usageEmptier", fn := fun _ => fun
  | [d1, d2, d3] => { results := [.lit (.bool false)], args := [d1, d2, d3] }
  | _ => none }
def UsageEmptierWrongFalsely : Prop := usageEmptierRow.holds Try.pinned (OpenSpec.ofChange usageEmptierWrong)

/-- 'hurdlelaw26.UsageNone': WHATEVER THE INPUT: true; the input reads as it did. -/
def usageNoneSpec : ChangeSpec := { name := "usageNone", fn := fun _ => fun
  | [d1, d2] => { results := [.lit (.bool true)], args := [d1, d2] }
  | _ => none }
def usageNoneRow : OpenClaim := { program := "ytdfjicnjcibdaaa", sum := "2fe586d58306489e8bf664923355ee3743921e4597bd7f5cb965049091094696", func := "hurdle/hurdlelaw26.UsageNone", spec := "usageNone", inPlace := ["slices.overlaps[hurdle/api.Use]", "internal/reflectlite.TypeOf"], unfollowed := true, recurses := true, apart := false }
def UsageNoneSaid : Prop := usageNoneRow.holds Try.pinned (OpenSpec.ofChange usageNoneSpec)

/-- ITS FALSE NEIGHBOUR: 'it returns false'. Refute it at one input. -/
def usageNoneWrong : ChangeSpec := { name := "usageNone", fn := fun _ => fun
  | [d1, d2] => { results := [.lit (.bool false)], args := [d1, d2] }
  | _ => none }
def UsageNoneWrongFalsely : Prop := usageNoneRow.holds Try.pinned (OpenSpec.ofChange usageNoneWrong)

/- THE SECOND FORM. 'bulk': how many values and letters a reading holds, each counted each time it is reached (what is shared counts as often as it is met; a slice's spare places count too). A statement '..UptoSaid' is the law's where the arguments, and the package variables that the reading takes, are together of bulk at most 1048576: NARROWER than '..Said'. Prove '..Said' where nothing that the law and all that it calls make is longer than what came in: it says more and counts as full. Else prove '..UptoSaid'. A law counts once. -/
mutual
def uptoBulk {H : Type} : DataW H → Nat
  | .lit (.string bytes) => bytes.length + 1
  | .lit _ => 1
  | .nil => 1
  | .ptr d => uptoBulk d + 1
  | .slice elems spare => uptoBulkAll elems + uptoBulkAll spare + 1
  | .agg parts => uptoBulkAll parts + 1
  | .iface _ d => uptoBulk d + 1
  | .map entries => uptoBulkEntries entries + 1
  | .held _ => 1
def uptoBulkAll {H : Type} : List (DataW H) → Nat
  | [] => 0
  | d :: r => uptoBulk d + uptoBulkAll r
def uptoBulkEntries {H : Type} : List (Lit × DataW H) → Nat
  | [] => 0
  | x :: r => uptoBulkEntry x + uptoBulkEntries r
def uptoBulkEntry {H : Type} : Lit × DataW H → Nat
  | (.string bytes, d) => bytes.length + uptoBulk d + 1
  | (_, d) => uptoBulk d + 1
 end
def uptoSmall : (H : Type) → List (DataW H) → Bool := fun _ ds => decide (uptoBulkAll ds ≤ 1048576)
def OpenSpec.upto (s : _root_.Go.ChangeSpec) : _root_.Go.OpenSpec := { _root_.Go.OpenSpec.ofChange s with cond := some uptoSmall }

/-- 'hurdlelaw26.UsagePlays', WHERE WHAT IT READS IS OF BULK AT MOST 1048576: true; the input reads as it did. -/
def usagePlaysUptoRow : OpenClaim := { program := "ytdfjicnjcibdaaa", sum := "2fe586d58306489e8bf664923355ee3743921e4597bd7f5cb965049091094696", func := "hurdle/hurdlelaw26.UsagePlays", spec := "usagePlays", inPlace := ["slices.overlaps[hurdle/api.Use]", "internal/reflectlite.TypeOf"], unfollowed := true, recurses := true, apart := false, narrowed := true }
def UsagePlaysUptoSaid : Prop := usagePlaysUptoRow.holds Try.pinned (OpenSpec.upto usagePlaysSpec)

/-- 'hurdlelaw26.UsageScores', WHERE WHAT IT READS IS OF BULK AT MOST 1048576: true; the input reads as it did. -/
def usageScoresUptoRow : OpenClaim := { program := "ytdfjicnjcibdaaa", sum := "2fe586d58306489e8bf664923355ee3743921e4597bd7f5cb965049091094696", func := "hurdle/hurdlelaw26.UsageScores", spec := "usageScores", inPlace := ["slices.overlaps[hurdle/api.Use]", "internal/reflectlite.TypeOf"], unfollowed := true, recurses := true, apart := false, narrowed := true }
def UsageScoresUptoSaid : Prop := usageScoresUptoRow.holds Try.pinned (OpenSpec.upto usageScoresSpec)

/-- 'hurdlelaw26.UsageBest', WHERE WHAT IT READS IS OF BULK AT MOST 1048576: true; the input reads as it did. -/
def usageBestUptoRow : OpenClaim := { program := "ytdfjicnjcibdaaa", sum := "2fe586d58306489e8bf664923355ee3743921e4597bd7f5cb965049091094696", func := "hurdle/hurdlelaw26.UsageBest", spec := "usageBest", inPlace := ["slices.overlaps[hurdle/api.Use]", "internal/reflectlite.TypeOf"], unfollowed := true, recurses := true, apart := false, narrowed := true }
def UsageBestUptoSaid : Prop := usageBestUptoRow.holds Try.pinned (OpenSpec.upto usageBestSpec)

/-- 'hurdlelaw26.UsageEmptier', WHERE WHAT IT READS IS OF BULK AT MOST 1048576: true; the input reads as it did. -/
def usageEmptierUptoRow : OpenClaim := { program := "ytdfjicnjcibdaaa", sum := "2fe586d58306489e8bf664923355ee3743921e4597bd7f5cb965049091094696", func := "hurdle/hurdlelaw26.UsageEmptier", spec := "usageEmptier", inPlace := ["slices.overlaps[hurdle/api.Use]", "internal/reflectlite.TypeOf"], unfollowed := true, recurses := true, apart := false, narrowed := true }
def UsageEmptierUptoSaid : Prop := usageEmptierUptoRow.holds Try.pinned (OpenSpec.upto usageEmptierSpec)

/-- 'hurdlelaw26.UsageNone', WHERE WHAT IT READS IS OF BULK AT MOST 1048576: true; the input reads as it did. -/
def usageNoneUptoRow : OpenClaim := { program := "ytdfjicnjcibdaaa", sum := "2fe586d58306489e8bf664923355ee3743921e4597bd7f5cb965049091094696", func := "hurdle/hurdlelaw26.UsageNone", spec := "usageNone", inPlace := ["slices.overlaps[hurdle/api.Use]", "internal/reflectlite.TypeOf"], unfollowed := true, recurses := true, apart := false, narrowed := true }
def UsageNoneUptoSaid : Prop := usageNoneUptoRow.holds Try.pinned (OpenSpec.upto usageNoneSpec)

end Rows
end Go.Proofs.Ytdfjicnjcibdaaa
