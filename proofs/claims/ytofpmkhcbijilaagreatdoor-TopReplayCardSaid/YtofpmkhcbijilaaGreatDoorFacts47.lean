/- The closed facts of TopReplay's row and card, each by the kernel and by itself: all in one is too much for its memory. -/
import Derived.Test.YtofpmkhcbijilaaGreatDoorRows
import Derived.Test.YtofpmkhcbijilaaGreatDoorCards
import Derived.ProofKit
import Derived.SevenTiedAt
import Derived.Stop.Joined
namespace Go.Proofs.YtofpmkhcbijilaaGreatDoor.topReplay
set_option linter.unusedSimpArgs false
set_option linter.unusedVariables false
open Go Go.ChangeShapes Go.WideShapes Go.ChangeAt Go.RowKit
set_option maxRecDepth 100000
theorem k1:(Rows.topReplayRow.wf (OpenSpec.ofChange Rows.topReplaySpec))=true:=by kernel_rfl
theorem k2:(laidOutB Tryz.prog)=true:=by kernel_rfl
theorem k3:(mapsRowed Tryz.prog)=true:=by kernel_rfl
theorem k4:(Tryz.f3.params.all (Tryz.prog.readableRec ·))=true:=by kernel_rfl
theorem k5:(namedTie Tryz.prog Rows.topReplayRow.named Rows.topReplaySpec.vars)=true:=by kernel_rfl
theorem k6:(Rows.topReplayRow.stops == [])=true:=by kernel_rfl
theorem k7:(Tryz.prog.stops == [])=true:=by kernel_rfl
theorem k8:(Rows.topReplayRow.knobs == [])=true:=by kernel_rfl
theorem k9:(Tryz.prog.stopKnobs == [])=true:=by kernel_rfl
theorem k10:(Rows.topReplayRow.inPlace == Tryz.prog.inPlace 3)=true:=by kernel_rfl
theorem k11:(Rows.topReplayRow.unfollowed == Tryz.prog.unfollowed 3)=true:=by kernel_rfl
theorem k12:(Rows.topReplayRow.recurses == Tryz.prog.recurses 3)=true:=by kernel_rfl
theorem k13:(Rows.topReplayRow.named == Tryz.prog.varsNamed 3)=true:=by kernel_rfl
theorem k14:(Rows.topReplayRow.maps == (Tryz.f3.params.toList++Rows.topReplaySpec.plain.varTypes Tryz.prog).any (Tryz.prog.mapsRec ·))=true:=by kernel_rfl
theorem k15:(Rows.topReplayRow.ifaces == (Tryz.f3.params.toList++Rows.topReplaySpec.plain.varTypes Tryz.prog).any (Tryz.prog.ifacesRec ·))=true:=by kernel_rfl
theorem k16:(Rows.topReplayRow.mapsOut == Tryz.prog.mapsAmong Tryz.f3.resultTypes.toList)=true:=by kernel_rfl
theorem k17:(Rows.topReplayRow.loops == (Tryz.f3.params.toList++Rows.topReplaySpec.plain.varTypes Tryz.prog).any (Tryz.prog.loopsFrom ·))=true:=by kernel_rfl
theorem k17b:(Rows.topReplayRow.wideKeys == (Tryz.f3.params.toList++Rows.topReplaySpec.plain.varTypes Tryz.prog++Tryz.f3.resultTypes.toList).any (Tryz.prog.wideKeysFrom ·))=true:=by kernel_rfl
theorem k18:(Rows.topReplaySpec.vars.all (Tryz.prog.varReadable ·))=true:=by kernel_rfl
theorem k19:(Tryz.f3.resultTypes.all (fun t=>Tryz.prog.readableRec t&&decide (t<Tryz.prog.types.size)))=true:=by kernel_rfl
theorem k20:(Rows.topReplayRow.ifacesOut == Tryz.f3.resultTypes.toList.any (Tryz.prog.ifacesRec ·))=true:=by kernel_rfl
theorem k21:(Rows.topReplayRow.loopsOut == Tryz.f3.resultTypes.toList.any (Tryz.prog.loopsFrom ·))=true:=by kernel_rfl
theorem k22:(Rows.topReplayRow.plainKeys == Tryz.prog.plainKeys)=true:=by kernel_rfl
theorem k23:(Rows.topReplayRow.shortTexts.isNone)=true:=by kernel_rfl
theorem k23b:(Tryz.prog.stopsHeard)=true:=by kernel_rfl
theorem k24:(Tryz.prog.mayEnter)=true:=by kernel_rfl
theorem k24b:(Rows.topReplayRow.lifted == Tryz.prog.liftsFinal)=true:=by kernel_rfl
theorem k24c:(Tryz.prog.make == some Rows.topReplayRow.make)=true:=by kernel_rfl
theorem k25:(Rows.topReplayRow.kinds == (if Rows.topReplayRow.domain.isEmpty then []else Tryz.f3.params.toList.map fun t=>match Tryz.prog.underlying t with|some (.int k)=>some k|_=>none))=true:=by kernel_rfl
theorem k26:(Rows.topReplayRow.pinned == Rows.topReplayRow.pinnedBy)=true:=by kernel_rfl
theorem k27:(Rows.topReplayRow.veiled == (Tryz.f3.params.toList++Rows.topReplaySpec.plain.varTypes Tryz.prog++Tryz.f3.resultTypes.toList).any (Tryz.prog.veiledRec ·))=true:=by kernel_rfl
theorem k28:(Rows.topReplayRow.veiledFits Tryz.prog Tryz.f3.params.toList (Tryz.f3.params.toList++Rows.topReplaySpec.plain.varTypes Tryz.prog++Tryz.f3.resultTypes.toList))=true:=by kernel_rfl
theorem fnm:Tryz.prog.funcNamed "hurdle/hurdletop.TopReplay" =some 3:=by kernel_rfl
theorem inst:Tryz.f3.isInstance Tryz.prog Rows.topReplayRow.origin Rows.topReplayRow.targs:=of_decide_eq_true (by kernel_rfl)
theorem qid:Tryz.f3.isWrapper Tryz.prog Rows.topReplayRow.wrapper Rows.topReplayRow.mainSum:=by unfold Func.isWrapper;first|(rw[if_pos (by decide +kernel)];kernel_rfl)|(rw[if_neg (by decide +kernel)];exact⟨rfl,rfl⟩)
theorem main:Tryz.prog.mainIs=some (true, "45433aaa8a994055c8fac777a98f91f0ff249f48b22b2b1f15c25bfd013d0959".toList):=by kernel_rfl
theorem looks:true=Tryz.prog.looks []:=by kernel_rfl
theorem wants:([22,3].all fun u=> !Tryz.prog.wantsStandIn u)=true:=by kernel_rfl
theorem qeT:Rows.topReplayRow.wfByText (OpenSpec.ofChange Rows.topReplaySpec)=true:=by kernel_rfl
theorem goes:false=Rows.topReplayRow.goesBy Tryz.prog:=by kernel_rfl
theorem iw {a b:Bool}(h:a=true)(k:b=true):(a&&b)=true:=by rw[h,k];rfl
theorem closed:joinedFacts Tryz.prog 3 Tryz.f3 Rows.topReplaySpec Rows.topReplayRow=true:=by
 unfold joinedFacts
 exact iw (iw (iw (iw (iw (iw (iw (iw (iw (iw (iw (iw (iw (iw (iw (iw (iw (iw (iw (iw (iw (iw (iw (iw (iw (iw (iw (iw (iw (iw (iw k1 k2) k3) k4) k5) k6) k7) k8) k9) k10) k11) k12) k13) k14) k15) k16) k17) k17b) k18) k19) k20) k21) k22) k23) k23b) k24) k24b) k24c) k25) k26) k27) k28
end Go.Proofs.YtofpmkhcbijilaaGreatDoor.topReplay
