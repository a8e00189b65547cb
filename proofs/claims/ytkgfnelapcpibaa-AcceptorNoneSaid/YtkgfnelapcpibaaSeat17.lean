/- PRINTED by gen.py: the seat's own numbers; the context; that it has the functions. -/
import Derived.Test.YtkgfnelapcpibaaRows
import Derived.KernelRfl
import Derived.Test.YtkgfnelapcpibaaAccP
import Derived.Test.YtkgfnelapcpibaaAccT
import Derived.Test.YtkgfnelapcpibaaInsX
import Derived.Test.YtkgfnelapcpibaaDecode17
namespace Go.Proofs.YtkgfnelapcpibaaI
set_option linter.unusedSimpArgs false
set_option linter.unusedVariables false
open Go

def seatF : Nat → FuncId := fun i => [0, 37, 35, 34, 29, 28, 0, 0, 0, 0, 0, 0, 0, 0, 21, 27, 0, 0, 0, 0, 0, 0, 0, 0, 0, 0, 0, 0, 0, 0, 0, 0, 0, 0, 0, 0, 0, 0, 0, 0, 0, 0, 0, 0, 0, 0, 0, 0, 0, 0, 0, 0, 0, 0, 0, 0, 0, 0, 0, 0, 0, 0, 0, 0, 0, 0, 0, 0, 0, 0, 0, 0, 0, 0, 0, 0, 0, 0, 0, 0, 0, 0, 0, 0, 0, 0, 0, 0, 0, 0, 0, 0, 0, 0, 0, 0, 0, 0, 0, 0, 0, 0, 0, 0, 0, 0, 0, 0, 0, 0, 0, 0, 0, 0, 0, 0, 0, 0, 0, 0, 0, 0, 0, 0, 0, 0, 0, 0, 0, 0, 0, 0, 0, 0, 0, 0, 0, 0, 0, 0, 0, 0, 0, 0, 0, 0, 0, 0, 0, 0, 0, 0, 0, 0, 0, 0, 0, 0, 0, 0, 0, 0, 0, 0, 0, 0, 0, 0, 0, 0, 0, 0, 0, 0, 0, 0, 0, 9, 24, 31, 23, 11, 14, 16, 17, 19, 18, 25, 26, 30, 32, 33, 20, 22, 10, 13, 15, 12, 3, 4, 5, 6, 7, 8].getD i 0
def seatTy : Nat → TypeId := fun i => [0, 0, 0, 0, 0, 0].getD i 0
noncomputable def seatC0 : Ctx := ⟨Try.prog, compFunc2 Try.prog, overX 32, seatF, seatTy, overX_mono _⟩
noncomputable def seatC : Ctx := ⟨Try.prog, compFunc2 Try.prog, orX (overX 32) (wholeX seatC0.C 25 4), seatF, seatTy, orX_mono (overX_mono _) (wholeX_mono seatC0.mono _ _)⟩
theorem has_cmp_isNaN_int : seatC.IP (seatC.F 1) = some (c_cmp_isNaN_int seatC.F seatC.Ty) := by kernel_rfl
theorem has_cmp_Compare_int : seatC.IP (seatC.F 2) = some (c_cmp_Compare_int seatC.F seatC.Ty) := by kernel_rfl
theorem has_cmp_Or_int : seatC.IP (seatC.F 3) = some (c_cmp_Or_int seatC.F seatC.Ty) := by kernel_rfl
theorem has_ballot_Cmp : seatC.IP (seatC.F 4) = some (c_ballot_Cmp seatC.F seatC.Ty) := by kernel_rfl
theorem has_ballot_Valid : seatC.IP (seatC.F 5) = some (c_ballot_Valid seatC.F seatC.Ty) := by kernel_rfl
theorem seatHasBalA : HasBalA seatC := ⟨has_cmp_isNaN_int, has_cmp_Compare_int, has_cmp_Or_int, has_ballot_Cmp, has_ballot_Valid⟩
theorem has_hurdleref16_Cmp : seatC.IP (seatC.F 14) = some (c_hurdleref16_Cmp seatC.F seatC.Ty) := by kernel_rfl
theorem has_hurdleref16_Valid : seatC.IP (seatC.F 15) = some (c_hurdleref16_Valid seatC.F seatC.Ty) := by kernel_rfl
theorem seatHasBalC : HasBalC seatC := ⟨has_hurdleref16_Cmp, has_hurdleref16_Valid⟩
theorem has_acceptor_New : seatC.IP (seatC.F 177) = some (c_acceptor_New seatC.F seatC.Ty) := by kernel_rfl
theorem has_acceptor_Acceptor_find : seatC.IP (seatC.F 178) = some (c_acceptor_Acceptor_find seatC.F seatC.Ty) := by kernel_rfl
theorem has_acceptor_Acceptor_find_F1 : seatC.IP (seatC.F 179) = some (c_acceptor_Acceptor_find_F1 seatC.F seatC.Ty) := by kernel_rfl
theorem has_acceptor_Acceptor_may : seatC.IP (seatC.F 180) = some (c_acceptor_Acceptor_may seatC.F seatC.Ty) := by kernel_rfl
theorem has_acceptor_Acceptor_Promise : seatC.IP (seatC.F 181) = some (c_acceptor_Acceptor_Promise seatC.F seatC.Ty) := by kernel_rfl
theorem has_acceptor_Acceptor_Accept : seatC.IP (seatC.F 182) = some (c_acceptor_Acceptor_Accept seatC.F seatC.Ty) := by kernel_rfl
theorem has_acceptor_Acceptor_Trim : seatC.IP (seatC.F 183) = some (c_acceptor_Acceptor_Trim seatC.F seatC.Ty) := by kernel_rfl
theorem has_acceptor_Acceptor_Promised : seatC.IP (seatC.F 184) = some (c_acceptor_Acceptor_Promised seatC.F seatC.Ty) := by kernel_rfl
theorem has_acceptor_Acceptor_Votes : seatC.IP (seatC.F 185) = some (c_acceptor_Acceptor_Votes seatC.F seatC.Ty) := by kernel_rfl
theorem has_acceptor_Acceptor_Base : seatC.IP (seatC.F 186) = some (c_acceptor_Acceptor_Base seatC.F seatC.Ty) := by kernel_rfl
theorem has_slices_Insert_api_Vote_api_Vote : seatC.IP (seatC.F 187) = some (c_slices_Insert_api_Vote_api_Vote seatC.F seatC.Ty) := by kernel_rfl
theorem has_slices_Clone_api_Vote_api_Vote : seatC.IP (seatC.F 188) = some (c_slices_Clone_api_Vote_api_Vote seatC.F seatC.Ty) := by kernel_rfl
theorem has_slices_BinarySearchFunc_api_Vote_api_Vote_int : seatC.IP (seatC.F 189) = some (c_slices_BinarySearchFunc_api_Vote_api_Vote_int seatC.F seatC.Ty) := by kernel_rfl
theorem seatHasAcc : HasAcc seatC := ⟨has_acceptor_New, has_acceptor_Acceptor_find, has_acceptor_Acceptor_find_F1, has_acceptor_Acceptor_may, has_acceptor_Acceptor_Promise, has_acceptor_Acceptor_Accept, has_acceptor_Acceptor_Trim, has_acceptor_Acceptor_Promised, has_acceptor_Acceptor_Votes, has_acceptor_Acceptor_Base, has_slices_Insert_api_Vote_api_Vote, has_slices_Clone_api_Vote_api_Vote, has_slices_BinarySearchFunc_api_Vote_api_Vote_int⟩
theorem has_hurdleref17_Votes : seatC.IP (seatC.F 192) = some (c_hurdleref17_Votes seatC.F seatC.Ty) := by kernel_rfl
theorem has_hurdleref17_may : seatC.IP (seatC.F 193) = some (c_hurdleref17_may seatC.F seatC.Ty) := by kernel_rfl
theorem has_hurdleref17_Promise : seatC.IP (seatC.F 194) = some (c_hurdleref17_Promise seatC.F seatC.Ty) := by kernel_rfl
theorem has_hurdleref17_Accept : seatC.IP (seatC.F 195) = some (c_hurdleref17_Accept seatC.F seatC.Ty) := by kernel_rfl
theorem has_hurdleref17_Trim : seatC.IP (seatC.F 196) = some (c_hurdleref17_Trim seatC.F seatC.Ty) := by kernel_rfl
theorem has_hurdleref16_Same : seatC.IP (seatC.F 197) = some (c_hurdleref16_Same seatC.F seatC.Ty) := by kernel_rfl
theorem seatHasRef17 : HasRef17 seatC := ⟨has_hurdleref17_Votes, has_hurdleref17_may, has_hurdleref17_Promise, has_hurdleref17_Accept, has_hurdleref17_Trim, has_hurdleref16_Same⟩
theorem has_hurdlelaw17_AcceptorPlays : seatC.IP (seatC.F 198) = some (c_hurdlelaw17_AcceptorPlays seatC.F seatC.Ty) := by kernel_rfl
theorem has_hurdlelaw17_AcceptorRises : seatC.IP (seatC.F 199) = some (c_hurdlelaw17_AcceptorRises seatC.F seatC.Ty) := by kernel_rfl
theorem has_hurdlelaw17_AcceptorTells : seatC.IP (seatC.F 200) = some (c_hurdlelaw17_AcceptorTells seatC.F seatC.Ty) := by kernel_rfl
theorem has_hurdlelaw17_AcceptorNone : seatC.IP (seatC.F 201) = some (c_hurdlelaw17_AcceptorNone seatC.F seatC.Ty) := by kernel_rfl
theorem has_hurdlelaw17_Few : seatC.IP (seatC.F 202) = some (c_hurdlelaw17_Few seatC.F seatC.Ty) := by kernel_rfl
theorem has_hurdlelaw17_awake : seatC.IP (seatC.F 203) = some (c_hurdlelaw17_awake seatC.F seatC.Ty) := by kernel_rfl
theorem seatHasLaw17 : HasLaw17 seatC := ⟨has_hurdlelaw17_AcceptorPlays, has_hurdlelaw17_AcceptorRises, has_hurdlelaw17_AcceptorTells, has_hurdlelaw17_AcceptorNone, has_hurdlelaw17_Few, has_hurdlelaw17_awake⟩
theorem seatMixed : Try.prog.follows .mixedOrders = true := by kernel_rfl
theorem seatHasAcc0 : HasAcc seatC0 := ⟨has_acceptor_New, has_acceptor_Acceptor_find, has_acceptor_Acceptor_find_F1, has_acceptor_Acceptor_may, has_acceptor_Acceptor_Promise, has_acceptor_Acceptor_Accept, has_acceptor_Acceptor_Trim, has_acceptor_Acceptor_Promised, has_acceptor_Acceptor_Votes, has_acceptor_Acceptor_Base, has_slices_Insert_api_Vote_api_Vote, has_slices_Clone_api_Vote_api_Vote, has_slices_BinarySearchFunc_api_Vote_api_Vote_int⟩
theorem seatOver : CSim Try.prog (overX 32) := overX_sim (fn := Try.f32) (tS := 29) (tR := 4) (e := 33) (size := 4) (by kernel_rfl) (by kernel_rfl) (by kernel_rfl) (by kernel_rfl) (by kernel_rfl) (by kernel_rfl) (by kernel_rfl)
theorem seatSim0 : CSim Try.prog seatC0.C := sim_call2 seatMixed (fun _ _ h => h) seatOver (overX_mono _)
theorem seatSim : CSim Try.prog seatC.C := sim_call2 seatMixed (fun _ _ h => h) (orX_sim seatOver (wholeX_sim (code := c_slices_Insert_api_Vote_api_Vote seatF seatTy) seatSim0 has_slices_Insert_api_Vote_api_Vote (by omega))) (orX_mono (overX_mono _) (wholeX_mono seatC0.mono _ _))
theorem seatInsOk : InsOk seatC := fun H K q vb i u rows new h1 h2 h3 h4 h5 h6 h7 h8 h9 h10 hK =>
 Ins_ok seatC seatC0 seatHasAcc0
 (fun H K b1 o1 n1 c1 b2 o2 n2 c2 cs1 cs2 q1 q2 q3 q4 q5 q6 q7 q8 => ICall.ext ⟨rfl, b1, o1, n1, c1, b2, o2, n2, c2, cs1, cs2, rfl, q1, q2, q3, q4, q5, q6, q7, q8⟩)
 (fun s r H K h => ICall.ext (.inr ⟨rfl, s, r, rfl, h⟩)) h1 h2 h3 h4 h5 h6 h7 h8 h9 h10 hK
theorem seatAw (H : IHeap) (K : Value → IHeap → Prop) (h : ∀ H', K (.bool true) H') : seatC.C (seatC.F n_hurdlelaw17_awake) [] H K := awake17 seatC seatHasAcc seatHasBalA seatInsOk seatHasLaw17 h

end Go.Proofs.YtkgfnelapcpibaaI
