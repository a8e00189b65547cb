/- TopReplay: whatever the log of operations and the place, the call returns true and its arguments read as they did; the card: with the listed tables tied to the program's text. -/
import Derived.Test.YtofpmkhcbijilaaGreatDoorRows
import Derived.Test.YtofpmkhcbijilaaGreatDoorCards
import Derived.Test.YtofpmkhcbijilaaGreatDoorTie
import Derived.Test.YtofpmkhcbijilaaGreatDoorSeat47
import Derived.Test.YtofpmkhcbijilaaGreatDoorDecode47
import Derived.Test.YtofpmkhcbijilaaGreatDoorLawLaid
import Derived.Test.YtofpmkhcbijilaaGreatDoorFacts47
import Derived.ProofKit
import Derived.OpenShut
import Derived.LaidMore
import Derived.Lay
import Derived.SevenTiedAt
import Derived.Stop.Joined
namespace Go.Proofs.YtofpmkhcbijilaaGreatDoor.topReplay
set_option linter.unusedSimpArgs false
set_option linter.unusedVariables false
open Go Go.ChangeShapes Go.WideShapes Go.ChangeAt Go.RowKit
open Go.Proofs.YtofpmkhcbijilaaGreatDoorI
set_option maxRecDepth 100000 in
theorem qie (H:aa)(vs:List Value)(Hl:List (List D))(wf: ∀b,H.next≤b→H.get b=none)(h:nP H [(false,[.sl 72 6 [.i .i64,.i .i64,.i .i64,.s,.s,.s]]),(false,[.i .i64])] vs Hl):af.C 3 vs H (fun r _=>r = .bool true):=by
 obtain⟨v0,_,d0,_,rfl,rfl,a0,o0,h⟩:=h.cons_inv
 obtain⟨v1,_,d1,_,rfl,rfl,a1,o1,h⟩:=h.cons_inv
 obtain rfl:=h.QN
 obtain⟨l,s1,hf⟩:=qc9 wf a0 o0
 obtain⟨n,rfl,_⟩:=qia a1 o1
 exact Va s1 hf fun _=>rfl
theorem own:ownKnob Tryz.prog.godebug=none:=by kernel_rfl
theorem laidOut:laidOutB Tryz.prog=true:=by kernel_rfl
set_option maxRecDepth 100000 in
theorem lifted (os:Os)(started:os.Started)(H:Type)(enc:TypeId×Value→H):
 ReturnsInHanded {} Tryz.checked os 3 .any (fun w args=>(Rows.topReplaySpec.pre enc Tryz.prog Tryz.f3 Rows.topReplayRow.domain false w args∧laidMetH Tryz.prog Rows.topReplayRow.laid w)∧sizedMet enc Tryz.prog Tryz.f3 (OpenSpec.ofChange Rows.topReplaySpec) false w args)
  (Rows.topReplaySpec.post enc Tryz.prog Tryz.f3 false true false false):=
 qbI (C:=Tryz.checked) (f:=3) (fn:=Tryz.f3) (s:=Rows.topReplaySpec) (X:=fun w _=>laidMetH Tryz.prog Rows.topReplayRow.laid w) (fun _ _ _ hh h=>h.of_heap hh) own (by kernel_rfl) Tryz.func3 laidOut (by kernel_rfl) (Pw:=_) (by kernel_rfl) (by kernel_rfl) (by kernel_rfl) Tryz.underlying4 rfl
  (fun Hd ds hl=>by
    have hl':ds.length=2:=hl
    match ds,hl' with
    |[d0,d1],_=>rfl)
  qda (fun H vs Hl _ wf h=>qie H vs Hl wf h) started
  (ChangeSpec.witness_shaped (enc:=enc) (C:=Tryz.checked) (os:=os) (X:=fun w _=>laidMetH Tryz.prog Rows.topReplayRow.laid w) false (World.laidAll Tryz.prog os Rows.topReplayRow.laid) #[.slice none 0 0,.int .i64 0] 8 (World.laidAll_os _ _ _)
    (World.shaped_of_ZipB (by kernel_rfl) (by kernel_rfl)) (by kernel_rfl) (by kernel_rfl) (by kernel_rfl)
    (by rw[MakeChecks.laidMetH_plain _ _ _ (by kernel_rfl)];exact laidMet_laidAll _ (by kernel_rfl) (by kernel_rfl)))
theorem over:Rows.topReplayRow.holds Tryz.pinned (OpenSpec.ofChange Rows.topReplaySpec):=
 OpenClaim.holds_of_wide 3 Tryz.f3 rfl rfl rfl rfl rfl rfl rfl ⟨rfl,rfl,rfl,rfl,rfl⟩ rfl rfl rfl rfl rfl fnm Tryz.func3 closed inst qid
  (fun os started H enc _=>lifted os started H enc)
theorem proved:Rows.TopReplayCardSaid:=
 Claim7.holds_tied_plain_at .later [] [.data,.pinned] true (true, "45433aaa8a994055c8fac777a98f91f0ff249f48b22b2b1f15c25bfd013d0959") true over (fun _ h=>by cases h) qeT (fun _ h=>by cases h) topReplay_row_tie rfl ⟨rfl,rfl⟩ main rfl
  (fun f fn hf hfn=>by
    obtain rfl:f=3:=(Option.some.inj (fnm.symm.trans hf)).symm
    obtain rfl:fn=Tryz.f3:=(Option.some.inj (Tryz.func3.symm.trans hfn)).symm
    exact⟨looks,fun j t ht=>by
     rw[Tryz.params3]at ht
     have hm:t ∈ [22,3]:=by simpa using Array.mem_of_getElem? ht
     exact(show Tryz.prog.wantsStandIn t=false by simpa using List.all_eq_true.1 wants t hm)⟩)
  goes
end Go.Proofs.YtofpmkhcbijilaaGreatDoor.topReplay
namespace Go.Proofs.YtofpmkhcbijilaaGreatDoor
theorem topReplay_holds:Rows.TopReplayCardSaid:=topReplay.proved
end Go.Proofs.YtofpmkhcbijilaaGreatDoor
