/- PRINTED by gen.py: the seat's own numbers; the context; that it has the functions. -/
import Derived.Test.YtafnkmiggmfbdaaRows
import Derived.KernelRfl
import Derived.Test.YtafnkmiggmfbdaaProK
import Derived.Test.YtafnkmiggmfbdaaDecode19
namespace Go.Proofs.YtafnkmiggmfbdaaI
set_option linter.unusedSimpArgs false
set_option linter.unusedVariables false
open Go

def seatF : Nat → FuncId := fun i => [0, 28, 26, 25, 23, 18, 20, 17, 24, 19, 0, 0, 0, 27, 13, 10, 0, 0, 5, 0, 0, 0, 0, 0, 0, 0, 0, 0, 0, 0, 0, 0, 0, 0, 0, 0, 0, 0, 0, 0, 0, 0, 0, 0, 0, 0, 0, 0, 0, 0, 0, 0, 0, 0, 0, 0, 0, 0, 0, 0, 0, 0, 0, 0, 0, 0, 0, 0, 0, 0, 0, 0, 0, 0, 0, 0, 0, 0, 0, 0, 0, 0, 0, 0, 0, 0, 0, 0, 0, 0, 0, 0, 0, 0, 0, 0, 0, 0, 0, 0, 0, 0, 0, 0, 0, 0, 0, 0, 0, 0, 0, 0, 0, 0, 0, 0, 0, 0, 0, 0, 0, 0, 0, 0, 0, 0, 0, 0, 0, 0, 0, 0, 0, 0, 0, 0, 0, 0, 0, 0, 0, 0, 0, 0, 0, 0, 0, 0, 0, 0, 0, 0, 0, 0, 0, 0, 0, 0, 0, 0, 0, 0, 0, 0, 0, 0, 0, 0, 0, 0, 0, 0, 0, 0, 0, 0, 0, 0, 0, 0, 0, 0, 0, 0, 0, 0, 0, 0, 0, 0, 0, 0, 0, 0, 0, 0, 0, 0, 0, 0, 0, 0, 0, 0, 0, 0, 0, 0, 0, 0, 0, 0, 0, 0, 0, 0, 0, 0, 0, 0, 0, 0, 0, 0, 0, 0, 0, 0, 0, 0, 0, 0, 0, 0, 0, 0, 0, 0, 0, 0, 0, 0, 0, 0, 0, 0, 0, 0, 0, 0, 0, 0, 0, 0, 0, 0, 0, 0, 0, 0, 0, 0, 0, 0, 0, 0, 0, 0, 0, 0, 0, 0, 0, 0, 0, 7, 8, 21, 9, 11, 22, 12, 14, 15, 16, 3, 4, 6].getD i 0
def seatTy : Nat → TypeId := fun i => [0, 9, 3, 0, 0, 0, 0].getD i 0
noncomputable def seatC : Ctx := ⟨Try.prog, compFunc2 Try.prog, noX, seatF, seatTy, noX_mono⟩
theorem has_cmp_isNaN_int : seatC.IP (seatC.F 1) = some (c_cmp_isNaN_int seatC.F seatC.Ty) := by kernel_rfl
theorem has_cmp_Compare_int : seatC.IP (seatC.F 2) = some (c_cmp_Compare_int seatC.F seatC.Ty) := by kernel_rfl
theorem has_cmp_Or_int : seatC.IP (seatC.F 3) = some (c_cmp_Or_int seatC.F seatC.Ty) := by kernel_rfl
theorem has_ballot_Cmp : seatC.IP (seatC.F 4) = some (c_ballot_Cmp seatC.F seatC.Ty) := by kernel_rfl
theorem has_ballot_Valid : seatC.IP (seatC.F 5) = some (c_ballot_Valid seatC.F seatC.Ty) := by kernel_rfl
theorem seatHasBalA : HasBalA seatC := ⟨has_cmp_isNaN_int, has_cmp_Compare_int, has_cmp_Or_int, has_ballot_Cmp, has_ballot_Valid⟩
theorem has_ballot_Quorum : seatC.IP (seatC.F 7) = some (c_ballot_Quorum seatC.F seatC.Ty) := by kernel_rfl
theorem has_hurdleref16_Quorum : seatC.IP (seatC.F 18) = some (c_hurdleref16_Quorum seatC.F seatC.Ty) := by kernel_rfl
theorem seatHasBalB : HasBalB seatC := ⟨has_ballot_Quorum, has_hurdleref16_Quorum⟩
theorem has_hurdleref16_Cmp : seatC.IP (seatC.F 14) = some (c_hurdleref16_Cmp seatC.F seatC.Ty) := by kernel_rfl
theorem has_hurdleref16_Valid : seatC.IP (seatC.F 15) = some (c_hurdleref16_Valid seatC.F seatC.Ty) := by kernel_rfl
theorem seatHasBalC : HasBalC seatC := ⟨has_hurdleref16_Cmp, has_hurdleref16_Valid⟩
theorem has_ballot_Next : seatC.IP (seatC.F 6) = some (c_ballot_Next seatC.F seatC.Ty) := by kernel_rfl
theorem has_ballot_Max : seatC.IP (seatC.F 9) = some (c_ballot_Max seatC.F seatC.Ty) := by kernel_rfl
theorem has_ballot_greatest : seatC.IP (seatC.F 8) = some (c_ballot_greatest seatC.F seatC.Ty) := by kernel_rfl
theorem has_slices_MaxFunc_api_Ballot_api_Ballot : seatC.IP (seatC.F 13) = some (c_slices_MaxFunc_api_Ballot_api_Ballot seatC.F seatC.Ty) := by kernel_rfl
theorem seatHasBalD : HasBalD seatC := ⟨has_ballot_Next, has_ballot_Max, has_ballot_greatest, has_slices_MaxFunc_api_Ballot_api_Ballot⟩
theorem has_proposer_New : seatC.IP (seatC.F 275) = some (c_proposer_New seatC.F seatC.Ty) := by kernel_rfl
theorem has_proposer_Proposer_Lead : seatC.IP (seatC.F 276) = some (c_proposer_Proposer_Lead seatC.F seatC.Ty) := by kernel_rfl
theorem has_proposer_Proposer_count : seatC.IP (seatC.F 277) = some (c_proposer_Proposer_count seatC.F seatC.Ty) := by kernel_rfl
theorem has_proposer_Proposer_Promise : seatC.IP (seatC.F 278) = some (c_proposer_Proposer_Promise seatC.F seatC.Ty) := by kernel_rfl
theorem has_proposer_Proposer_Leads : seatC.IP (seatC.F 279) = some (c_proposer_Proposer_Leads seatC.F seatC.Ty) := by kernel_rfl
theorem has_proposer_Proposer_vote : seatC.IP (seatC.F 280) = some (c_proposer_Proposer_vote seatC.F seatC.Ty) := by kernel_rfl
theorem has_proposer_Proposer_Fill : seatC.IP (seatC.F 281) = some (c_proposer_Proposer_Fill seatC.F seatC.Ty) := by kernel_rfl
theorem has_proposer_Proposer_Propose : seatC.IP (seatC.F 282) = some (c_proposer_Proposer_Propose seatC.F seatC.Ty) := by kernel_rfl
theorem has_proposer_Proposer_Step : seatC.IP (seatC.F 283) = some (c_proposer_Proposer_Step seatC.F seatC.Ty) := by kernel_rfl
theorem has_proposer_Proposer_Next : seatC.IP (seatC.F 284) = some (c_proposer_Proposer_Next seatC.F seatC.Ty) := by kernel_rfl
theorem seatHasProp : HasProp seatC := ⟨has_proposer_New, has_proposer_Proposer_Lead, has_proposer_Proposer_count, has_proposer_Proposer_Promise, has_proposer_Proposer_Leads, has_proposer_Proposer_vote, has_proposer_Proposer_Fill, has_proposer_Proposer_Propose, has_proposer_Proposer_Step, has_proposer_Proposer_Next⟩
theorem has_hurdlelaw19_ProposerSafe : seatC.IP (seatC.F 285) = some (c_hurdlelaw19_ProposerSafe seatC.F seatC.Ty) := by kernel_rfl
theorem has_hurdlelaw19_ProposerNone : seatC.IP (seatC.F 286) = some (c_hurdlelaw19_ProposerNone seatC.F seatC.Ty) := by kernel_rfl
theorem has_hurdlelaw19_awake : seatC.IP (seatC.F 287) = some (c_hurdlelaw19_awake seatC.F seatC.Ty) := by kernel_rfl
theorem seatHasLaw19 : HasLaw19 seatC := ⟨has_hurdlelaw19_ProposerSafe, has_hurdlelaw19_ProposerNone, has_hurdlelaw19_awake⟩
theorem seatMixed : Try.prog.follows .mixedOrders = true := by kernel_rfl
theorem seatSim : CSim Try.prog seatC.C := sim_call2 seatMixed (fun _ _ h => h) noX_sim noX_mono
theorem seatProT : ProT seatC := ⟨by kernel_rfl⟩
theorem seatAw (H : IHeap) (K : Value → IHeap → Prop) (h : ∀ H', K (.bool true) H') : seatC.C (seatC.F n_hurdlelaw19_awake) [] H K := awake19 seatC seatHasBalA seatHasBalB seatHasBalD seatHasProp seatProT seatHasLaw19 h

end Go.Proofs.YtafnkmiggmfbdaaI
