/-
  No cell of these rows narrows 'for every input' (looked for: loops, veiled, ifaces, maps, wideKeys, modest, calm, conditions, laid).
  DERIVED. THE GIVEN ROWS OF THIS SEAT. 5 by the template 'for every input the law returns true; each argument reads behind the call as it read before'; 0 by the template 'total and deterministic' (their statements: YtmdkkhnenciknaaTotals.lean).
  GIVEN WITH THE SEED: the statements are not yours to turn. If you find one false, say at which input.
  Laid BY PROGRAM, IN A SANDBOX (cutbox-rows.mjs): the forced cells as the released guide's own fill.sh prints them over the translation daad4c990b561c45… (all of the seat's roots in one cut). By AI agents, Wed Nov 11 2026. No macro, syntax, notation, axiom, sorry.
-/
import Derived.Test.YtmdkkhnenciknaaChecked
import GoSem.Claim
import GoSem.ClaimJoined
import GoSem.ClaimMapViews
import Derived.JoinedTies
import Derived.KernelRfl
namespace Go.Proofs.Ytmdkkhnenciknaa
/- THE CELL 'sum', in the pinned program and in every row, IS THE sha256 OF THE DUMP (.gsa) THAT YtmdkkhnenciknaaProg.lean LOADS. Nothing in Lean hashes anything: it is a label: what it is worth is what the hold of that sum in a sandbox is worth. -/
noncomputable def Try.pinned : Pinned := { name := "ytmdkkhnenciknaa", sum := "daad4c990b561c4527afaa2c4d0cb8ef4ad0d791dc1de29aff9f08f3baf796d9", checked := Try.checked }
namespace Rows
def none {H : Type} : Left H := { results := [], args := [] }

/-- 'hurdlelaw24.SmapPlays': WHATEVER THE INPUT: true; the input reads as it did. -/
def smapPlaysSpec : ChangeSpec := { name := "smapPlays", fn := fun _ => fun
  | [d] => { results := [.lit (.bool true)], args := [d] }
  | _ => none }
def smapPlaysRow : OpenClaim := { program := "ytmdkkhnenciknaa", sum := "daad4c990b561c4527afaa2c4d0cb8ef4ad0d791dc1de29aff9f08f3baf796d9", func := "hurdle/hurdlelaw24.SmapPlays", spec := "smapPlays", unfollowed := true, recurses := true, apart := false }
def SmapPlaysSaid : Prop := smapPlaysRow.holds Try.pinned (OpenSpec.ofChange smapPlaysSpec)

/-- ITS FALSE NEIGHBOUR: 'it returns false'. Refute it at one input. -/
def smapPlaysWrong : ChangeSpec := { name := "smapPlays", fn := fun _ => fun
  | [d] => { results := [.lit (.bool false)], args := [d] }
  | _ => none }
def SmapPlaysWrongFalsely : Prop := smapPlaysRow.holds Try.pinned (OpenSpec.ofChange smapPlaysWrong)

/-- 'hurdlelaw24.SmapOrder': WHATEVER THE INPUT: true; the input reads as it did. -/
def smapOrderSpec : ChangeSpec := { name := "smapOrder", fn := fun _ => fun
  | [d] => { results := [.lit (.bool true)], args := [d] }
  | _ => none }
def smapOrderRow : OpenClaim := { program := "ytmdkkhnenciknaa", sum := "daad4c990b561c4527afaa2c4d0cb8ef4ad0d791dc1de29aff9f08f3baf796d9", func := "hurdle/hurdlelaw24.SmapOrder", spec := "smapOrder", unfollowed := true, recurses := true, apart := false }
def SmapOrderSaid : Prop := smapOrderRow.holds Try.pinned (OpenSpec.ofChange smapOrderSpec)

/-- ITS FALSE NEIGHBOUR: 'it returns false'. Refute it at one input. -/
def smapOrderWrong : ChangeSpec := { name := "smapOrder", fn := fun _ => fun
  | [d] => { results := [.lit (.bool false)], args := [d] }
  | _ => none }
def SmapOrderWrongFalsely : Prop := smapOrderRow.holds Try.pinned (OpenSpec.ofChange smapOrderWrong)

/-- 'hurdlelaw24.SmapBack': WHATEVER THE INPUT: true; the input reads as it did. -/
def smapBackSpec : ChangeSpec := { name := "smapBack", fn := fun _ => fun
  | [d1, d2] => { results := [.lit (.bool true)], args := [d1, d2] }
  | _ => none }
def smapBackRow : OpenClaim := { program := "ytmdkkhnenciknaa", sum := "daad4c990b561c4527afaa2c4d0cb8ef4ad0d791dc1de29aff9f08f3baf796d9", func := "hurdle/hurdlelaw24.SmapBack", spec := "smapBack", unfollowed := true, recurses := true, apart := false }
def SmapBackSaid : Prop := smapBackRow.holds Try.pinned (OpenSpec.ofChange smapBackSpec)

/-- ITS FALSE NEIGHBOUR: 'it returns false'. Refute it at one input. -/
def smapBackWrong : ChangeSpec := { name := "smapBack", fn := fun _ => fun
  | [d1, d2] => { results := [.lit (.bool false)], args := [d1, d2] }
  | _ => none }
def SmapBackWrongFalsely : Prop := smapBackRow.holds Try.pinned (OpenSpec.ofChange smapBackWrong)

/-- 'hurdlelaw24.SmapDrop': WHATEVER THE INPUT: true; the input reads as it did. -/
def smapDropSpec : ChangeSpec := { name := "smapDrop", fn := fun _ => fun
  | [d1, d2] => { results := [.lit (.bool true)], args := [d1, d2] }
  | _ => none }
def smapDropRow : OpenClaim := { program := "ytmdkkhnenciknaa", sum := "daad4c990b561c4527afaa2c4d0cb8ef4ad0d791dc1de29aff9f08f3baf796d9", func := "hurdle/hurdlelaw24.SmapDrop", spec := "smapDrop", unfollowed := true, recurses := true, apart := false }
def SmapDropSaid : Prop := smapDropRow.holds Try.pinned (OpenSpec.ofChange smapDropSpec)

/-- ITS FALSE NEIGHBOUR: 'it returns false'. Refute it at one input. -/
def smapDropWrong : ChangeSpec := { name := "smapDrop", fn := fun _ => fun
  | [d1, d2] => { results := [.lit (.bool false)], args := [d1, d2] }
  | _ => none }
def SmapDropWrongFalsely : Prop := smapDropRow.holds Try.pinned (OpenSpec.ofChange smapDropWrong)

/-- 'hurdlelaw24.SmapNone': WHATEVER THE INPUT: true; the input reads as it did. -/
def smapNoneSpec : ChangeSpec := { name := "smapNone", fn := fun _ => fun
  | [d] => { results := [.lit (.bool true)], args := [d] }
  | _ => none }
def smapNoneRow : OpenClaim := { program := "ytmdkkhnenciknaa", sum := "daad4c990b561c4527afaa2c4d0cb8ef4ad0d791dc1de29aff9f08f3baf796d9", func := "hurdle/hurdlelaw24.SmapNone", spec := "smapNone", unfollowed := true, recurses := true, apart := false }
def SmapNoneSaid : Prop := smapNoneRow.holds Try.pinned (OpenSpec.ofChange smapNoneSpec)

/-- ITS FALSE NEIGHBOUR: 'it returns false'. Refute it at one input. -/
def smapNoneWrong : ChangeSpec := { name := "smapNone", fn := fun _ => fun
  | [d] => { results := [.lit (.bool false)], args := [d] }
  | _ => none }
def SmapNoneWrongFalsely : Prop := smapNoneRow.holds Try.pinned (OpenSpec.ofChange smapNoneWrong)

/- THE SECOND FORM. 'bulk': how many values and letters a reading holds, each counted each time it is reached (what is shared counts as often as it is met; a slice's spare places count too). A statement '..UptoSaid' is the law's where the arguments, and the package variables that the reading takes, are together of bulk at most 1048576: NARROWER than '..Said'. Prove '..Said' where nothing that the law and all that it calls make is longer than what came in: it says more and counts as full. Else prove '..UptoSaid'. A law counts once. -/
mutual
def uptoBulk {H : Type} : DataW H → Nat
  | .lit (.string bytes) => bytes.length + 1
  | .lit _ => 1
  | .nil => 1
  | .ptr d => uptoBulk d + 1
  | .slice elems spare => uptoBulkAll elems + uptoBulkAll spare + 1
  | .agg parts => uptoBulkAll parts + 1
  | .iface _ d => uptoBulk d + 1
  | .map entries => uptoBulkEntries entries + 1
  | .held _ => 1
def uptoBulkAll {H : Type} : List (DataW H) → Nat
  | [] => 0
  | d :: r => uptoBulk d + uptoBulkAll r
def uptoBulkEntries {H : Type} : List (Lit × DataW H) → Nat
  | [] => 0
  | x :: r => uptoBulkEntry x + uptoBulkEntries r
def uptoBulkEntry {H : Type} : Lit × DataW H → Nat
  | (.string bytes, d) => bytes.length + uptoBulk d + 1
  | (_, d) => uptoBulk d + 1
 end
def uptoSmall : (H : Type) → List (DataW H) → Bool := fun _ ds => decide (uptoBulkAll ds ≤ 1048576)
def OpenSpec.upto (s : _root_.Go.ChangeSpec) : _root_.Go.OpenSpec := { _root_.Go.OpenSpec.ofChange s with cond := some uptoSmall }

/-- 'hurdlelaw24.SmapPlays', WHERE WHAT IT READS IS OF BULK AT MOST 1048576: true; the input reads as it did. -/
def smapPlaysUptoRow : OpenClaim := { program := "ytmdkkhnenciknaa", sum := "daad4c990b561c4527afaa2c4d0cb8ef4ad0d791dc1de29aff9f08f3baf796d9", func := "hurdle/hurdlelaw24.SmapPlays", spec := "smapPlays", unfollowed := true, recurses := true, apart := false, narrowed := true }
def SmapPlaysUptoSaid : Prop := smapPlaysUptoRow.holds Try.pinned (OpenSpec.upto smapPlaysSpec)

/-- 'hurdlelaw24.SmapOrder', WHERE WHAT IT READS IS OF BULK AT MOST 1048576: true; the input reads as it did. -/
def smapOrderUptoRow : OpenClaim := { program := "ytmdkkhnenciknaa", sum := "daad4c990b561c4527afaa2c4d0cb8ef4ad0d791dc1de29aff9f08f3baf796d9", func := "hurdle/hurdlelaw24.SmapOrder", spec := "smapOrder", unfollowed := true, recurses := true, apart := false, narrowed := true }
def SmapOrderUptoSaid : Prop := smapOrderUptoRow.holds Try.pinned (OpenSpec.upto smapOrderSpec)

/-- 'hurdlelaw24.SmapBack', WHERE WHAT IT READS IS OF BULK AT MOST 1048576: true; the input reads as it did. -/
def smapBackUptoRow : OpenClaim := { program := "ytmdkkhnenciknaa", sum := "daad4c990b561c4527afaa2c4d0cb8ef4ad0d791dc1de29aff9f08f3baf796d9", func := "hurdle/hurdlelaw24.SmapBack", spec := "smapBack", unfollowed := true, recurses := true, apart := false, narrowed := true }
def SmapBackUptoSaid : Prop := smapBackUptoRow.holds Try.pinned (OpenSpec.upto smapBackSpec)

/-- 'hurdlelaw24.SmapDrop', WHERE WHAT IT READS IS OF BULK AT MOST 1048576: true; the input reads as it did. -/
def smapDropUptoRow : OpenClaim := { program := "ytmdkkhnenciknaa", sum := "daad4c990b561c4527afaa2c4d0cb8ef4ad0d791dc1de29aff9f08f3baf796d9", func := "hurdle/hurdlelaw24.SmapDrop", spec := "smapDrop", unfollowed := true, recurses := true, apart := false, narrowed := true }
def SmapDropUptoSaid : Prop := smapDropUptoRow.holds Try.pinned (OpenSpec.upto smapDropSpec)

/-- 'hurdlelaw24.SmapNone', WHERE WHAT IT READS IS OF BULK AT MOST 1048576: true; the input reads as it did. -/
def smapNoneUptoRow : OpenClaim := { program := "ytmdkkhnenciknaa", sum := "daad4c990b561c4527afaa2c4d0cb8ef4ad0d791dc1de29aff9f08f3baf796d9", func := "hurdle/hurdlelaw24.SmapNone", spec := "smapNone", unfollowed := true, recurses := true, apart := false, narrowed := true }
def SmapNoneUptoSaid : Prop := smapNoneUptoRow.holds Try.pinned (OpenSpec.upto smapNoneSpec)

end Rows
end Go.Proofs.Ytmdkkhnenciknaa
