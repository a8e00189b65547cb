/- PRINTED by gen.py: the seat's own numbers; the context; that it has the functions. -/
import Derived.Test.YthjdkcncnkcfaaaRows
import Derived.KernelRfl
import Derived.Test.YthjdkcncnkcfaaaBallotL
import Derived.Test.YthjdkcncnkcfaaaDecode
namespace Go.Proofs.YthjdkcncnkcfaaaI
set_option linter.unusedSimpArgs false
set_option linter.unusedVariables false
open Go

def seatF : Nat → FuncId := fun i => [0, 26, 22, 21, 8, 10, 12, 14, 25, 19, 17, 24, 23, 27, 9, 11, 13, 20, 15, 18, 16, 3, 4, 5, 6, 7].getD i 0
def seatTy : Nat → TypeId := fun i => [0, 9].getD i 0
noncomputable def seatC : Ctx := ⟨Try.prog, compFunc2 Try.prog, closedX 16 (.bool true), seatF, seatTy, closedX_mono _ _⟩
theorem has_cmp_isNaN_int : seatC.IP (seatC.F 1) = some (c_cmp_isNaN_int seatC.F seatC.Ty) := by kernel_rfl
theorem has_cmp_Compare_int : seatC.IP (seatC.F 2) = some (c_cmp_Compare_int seatC.F seatC.Ty) := by kernel_rfl
theorem has_cmp_Or_int : seatC.IP (seatC.F 3) = some (c_cmp_Or_int seatC.F seatC.Ty) := by kernel_rfl
theorem has_ballot_Cmp : seatC.IP (seatC.F 4) = some (c_ballot_Cmp seatC.F seatC.Ty) := by kernel_rfl
theorem has_ballot_Valid : seatC.IP (seatC.F 5) = some (c_ballot_Valid seatC.F seatC.Ty) := by kernel_rfl
theorem has_ballot_Next : seatC.IP (seatC.F 6) = some (c_ballot_Next seatC.F seatC.Ty) := by kernel_rfl
theorem has_ballot_Quorum : seatC.IP (seatC.F 7) = some (c_ballot_Quorum seatC.F seatC.Ty) := by kernel_rfl
theorem has_ballot_greatest : seatC.IP (seatC.F 8) = some (c_ballot_greatest seatC.F seatC.Ty) := by kernel_rfl
theorem has_ballot_Max : seatC.IP (seatC.F 9) = some (c_ballot_Max seatC.F seatC.Ty) := by kernel_rfl
theorem has_ballot_Pick : seatC.IP (seatC.F 10) = some (c_ballot_Pick seatC.F seatC.Ty) := by kernel_rfl
theorem has_ballot_Pick_F1 : seatC.IP (seatC.F 11) = some (c_ballot_Pick_F1 seatC.F seatC.Ty) := by kernel_rfl
theorem has_slices_MaxFunc_api_Vote_api_Vote : seatC.IP (seatC.F 12) = some (c_slices_MaxFunc_api_Vote_api_Vote seatC.F seatC.Ty) := by kernel_rfl
theorem has_slices_MaxFunc_api_Ballot_api_Ballot : seatC.IP (seatC.F 13) = some (c_slices_MaxFunc_api_Ballot_api_Ballot seatC.F seatC.Ty) := by kernel_rfl
theorem has_hurdleref16_Cmp : seatC.IP (seatC.F 14) = some (c_hurdleref16_Cmp seatC.F seatC.Ty) := by kernel_rfl
theorem has_hurdleref16_Valid : seatC.IP (seatC.F 15) = some (c_hurdleref16_Valid seatC.F seatC.Ty) := by kernel_rfl
theorem has_hurdleref16_Next : seatC.IP (seatC.F 16) = some (c_hurdleref16_Next seatC.F seatC.Ty) := by kernel_rfl
theorem has_hurdleref16_Max : seatC.IP (seatC.F 17) = some (c_hurdleref16_Max seatC.F seatC.Ty) := by kernel_rfl
theorem has_hurdleref16_Quorum : seatC.IP (seatC.F 18) = some (c_hurdleref16_Quorum seatC.F seatC.Ty) := by kernel_rfl
theorem has_hurdleref16_Pick : seatC.IP (seatC.F 19) = some (c_hurdleref16_Pick seatC.F seatC.Ty) := by kernel_rfl
theorem has_hurdlelaw16_awake : seatC.IP (seatC.F 20) = some (c_hurdlelaw16_awake seatC.F seatC.Ty) := by kernel_rfl
theorem has_hurdlelaw16_BallotCmps : seatC.IP (seatC.F 21) = some (c_hurdlelaw16_BallotCmps seatC.F seatC.Ty) := by kernel_rfl
theorem has_hurdlelaw16_BallotPicks : seatC.IP (seatC.F 22) = some (c_hurdlelaw16_BallotPicks seatC.F seatC.Ty) := by kernel_rfl
theorem has_hurdlelaw16_BallotOrder : seatC.IP (seatC.F 23) = some (c_hurdlelaw16_BallotOrder seatC.F seatC.Ty) := by kernel_rfl
theorem has_hurdlelaw16_BallotNext : seatC.IP (seatC.F 24) = some (c_hurdlelaw16_BallotNext seatC.F seatC.Ty) := by kernel_rfl
theorem has_hurdlelaw16_BallotQuorums : seatC.IP (seatC.F 25) = some (c_hurdlelaw16_BallotQuorums seatC.F seatC.Ty) := by kernel_rfl
theorem seatHasBallot : HasBallot seatC := ⟨has_cmp_isNaN_int, has_cmp_Compare_int, has_cmp_Or_int, has_ballot_Cmp, has_ballot_Valid, has_ballot_Next, has_ballot_Quorum, has_ballot_greatest, has_ballot_Max, has_ballot_Pick, has_ballot_Pick_F1, has_slices_MaxFunc_api_Vote_api_Vote, has_slices_MaxFunc_api_Ballot_api_Ballot, has_hurdleref16_Cmp, has_hurdleref16_Valid, has_hurdleref16_Next, has_hurdleref16_Max, has_hurdleref16_Quorum, has_hurdleref16_Pick, has_hurdlelaw16_awake, has_hurdlelaw16_BallotCmps, has_hurdlelaw16_BallotPicks, has_hurdlelaw16_BallotOrder, has_hurdlelaw16_BallotNext, has_hurdlelaw16_BallotQuorums⟩
theorem seatMixed : Try.prog.follows .mixedOrders = true := by kernel_rfl
theorem seatAwake : closedB Try.prog (compFunc2 Try.prog) 300 16 (.bool true) = true := by kernel_rfl
theorem seatX : CSim Try.prog (closedX 16 (.bool true)) := closedX_sim seatMixed (fun _ _ h => h) rfl seatAwake
theorem seatSim : CSim Try.prog seatC.C := sim_call2 seatMixed (fun _ _ h => h) seatX (closedX_mono _ _)
theorem seatAw (H : IHeap) (K : Value → IHeap → Prop) (h : K (.bool true) H) : seatC.C (seatC.F n_hurdlelaw16_awake) [] H K := ICall.ext ⟨rfl, rfl, h⟩

end Go.Proofs.YthjdkcncnkcfaaaI
