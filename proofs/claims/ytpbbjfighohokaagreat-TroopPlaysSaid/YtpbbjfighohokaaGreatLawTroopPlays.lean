/-  -/
import Derived.Test.YtpbbjfighohokaaGreatRows
import Derived.Test.YtpbbjfighohokaaGreatSeat22Z
import Derived.Test.YtpbbjfighohokaaGreatBalA
import Derived.WalkKit
import Derived.ProofKit
import Derived.OpenShut
import Derived.ShutString
import Derived.ChangeOld
import Derived.Below
import Derived.SizedLaws
namespace Go.Proofs.YtpbbjfighohokaaGreat.Mh
set_option linter.unusedSimpArgs false
set_option linter.unusedVariables false
open Go.ChangeShapes Go.WideShapes Go.ChangeAt Go.RowKit
open Go.Proofs.YtpbbjfighohokaaGreatI
theorem MO (H:aa)(vs:List Value)(Iq:List (List D))(wf: ∀b,H.next≤b→H.get b=none)(h:pR H [(false,[.i .i64]),(false,[.sl 40 4 [.i .i64,.i .i64,.i .i64,.s]])] vs Iq):af.C 3 vs H (fun r _=>r = .bool true):=by
 obtain⟨v0,_,d0,_,rfl,rfl,a0,o0,h⟩:=h.cons_inv
 obtain⟨v1,_,d1,_,rfl,rfl,a1,o1,h⟩:=h.cons_inv
 obtain rfl:=h.Om
 obtain⟨n0,rfl,w0⟩:=qbk a0 o0
 obtain⟨l,s1⟩:=Si wf a1 o1
 exact Tc af F7 qad F9 MN Rn IG Pp Pq Pt Pv Pw Px F8 qa3 s1 fun _=>rfl
theorem own:ownKnob Tryz.prog.godebug=none:=by kernel_rfl
theorem laidOut:laidOutB Tryz.prog=true:=by kernel_rfl
set_option maxRecDepth 100000 in
theorem lifted (os:Os)(started:os.Started)(H:Type)(enc:TypeId×Value→H):
 ReturnsInHanded {} Tryz.checked os 3 .any (Rows.troopPlaysSpec.pre6 enc Tryz.prog Tryz.f3 Rows.troopPlaysRow.domain false) (Rows.troopPlaysSpec.post enc Tryz.prog Tryz.f3 false true false false):=
 Sb (C:=Tryz.checked) (f:=3) (fn:=Tryz.f3) (s:=Rows.troopPlaysSpec) own (by kernel_rfl) Tryz.func3 laidOut (by kernel_rfl) (Og:=_) (by kernel_rfl) (by kernel_rfl) (by kernel_rfl) Tryz.underlying4 rfl
  (fun Hd ds hl=>by
    have hl':ds.length=2:=hl
    match ds,hl' with
    |[d0,d1],_=>rfl)
  ZK (fun H vs Iq _ wf h=>MO H vs Iq wf h) started
  (ChangeSpec.witness6 (enc:=enc) (C:=Tryz.checked) false ⟨#[],#[.int .i64 0,.slice none 0 0],[]⟩ 8 (by kernel_rfl) (by kernel_rfl) (by kernel_rfl) (by kernel_rfl))
theorem over:Rows.troopPlaysRow.holds Tryz.pinned (OpenSpec.ofChange Rows.troopPlaysSpec):=
 OpenClaim.holds_of_wide 3 Tryz.f3 rfl rfl rfl rfl rfl rfl rfl ⟨rfl,rfl,rfl,rfl,rfl⟩ rfl rfl rfl rfl rfl (by kernel_rfl) Tryz.func3 (by kernel_rfl)
  (of_decide_eq_true (by kernel_rfl)) (by unfold Func.isWrapper;first|(rw[if_pos (by decide +kernel)];kernel_rfl)|(rw[if_neg (by decide +kernel)];exact⟨rfl,rfl⟩))
  (fun os started H enc _=>lifted os started H enc)
theorem proved:Rows.TroopPlaysSaid:=over
end Go.Proofs.YtpbbjfighohokaaGreat.Mh
namespace Go.Proofs.YtpbbjfighohokaaGreat
theorem troopPlays_holds:Rows.TroopPlaysSaid:=Mh.proved
end Go.Proofs.YtpbbjfighohokaaGreat
