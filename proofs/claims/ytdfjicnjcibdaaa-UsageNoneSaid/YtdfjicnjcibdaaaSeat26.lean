/- PRINTED by gen.py: the seat's own numbers; the context; that it has the functions. -/
import Derived.Test.YtdfjicnjcibdaaaRows
import Derived.KernelRfl
import Derived.Test.YtdfjicnjcibdaaaUseN
import Derived.Test.YtdfjicnjcibdaaaIsX
import Derived.Test.YtdfjicnjcibdaaaIsU
import Derived.Test.YtdfjicnjcibdaaaDecode26
namespace Go.Proofs.YtdfjicnjcibdaaaI
set_option linter.unusedSimpArgs false
set_option linter.unusedVariables false
open Go

def seatF : Nat → FuncId := fun i => [0, 0, 0, 0, 0, 0, 0, 0, 0, 0, 0, 0, 0, 0, 0, 0, 0, 0, 0, 0, 0, 0, 0, 0, 0, 0, 0, 0, 0, 0, 0, 0, 0, 0, 0, 0, 0, 0, 0, 0, 0, 0, 0, 0, 0, 0, 0, 0, 0, 0, 0, 0, 0, 0, 0, 0, 0, 0, 0, 0, 0, 0, 0, 0, 0, 0, 0, 0, 0, 22, 0, 0, 0, 0, 0, 0, 0, 0, 0, 0, 0, 0, 0, 0, 0, 0, 0, 0, 0, 0, 0, 0, 0, 0, 0, 0, 0, 0, 0, 0, 0, 0, 0, 0, 0, 0, 0, 0, 0, 0, 0, 0, 0, 0, 0, 0, 0, 0, 0, 0, 0, 0, 0, 0, 0, 0, 0, 0, 0, 0, 0, 0, 0, 0, 0, 0, 0, 0, 0, 0, 0, 0, 0, 0, 0, 0, 0, 0, 0, 0, 0, 0, 0, 0, 0, 0, 0, 0, 0, 0, 0, 0, 0, 0, 0, 0, 0, 0, 0, 0, 0, 0, 0, 0, 0, 0, 0, 0, 0, 0, 0, 0, 0, 0, 0, 0, 0, 0, 0, 0, 0, 0, 0, 0, 0, 0, 0, 0, 0, 0, 0, 0, 0, 0, 0, 0, 0, 0, 0, 0, 0, 0, 0, 0, 0, 0, 0, 0, 0, 0, 0, 0, 0, 0, 0, 0, 0, 0, 0, 0, 0, 0, 0, 0, 0, 0, 0, 9, 32, 39, 35, 29, 30, 11, 31, 13, 15, 25, 16, 23, 21, 18, 37, 33, 34, 38, 36, 42, 43, 27, 28, 10, 12, 14, 26, 17, 24, 19, 20, 3, 4, 5, 6, 7, 8].getD i 0
def seatTy : Nat → TypeId := fun i => [0, 0, 0, 0, 0, 0, 68].getD i 0
noncomputable def seatC0 : Ctx := ⟨Try.prog, compFunc2 Try.prog, overX 42, seatF, seatTy, overX_mono _⟩
noncomputable def seatC : Ctx := ⟨Try.prog, compFunc2 Try.prog, orX (isX 36 68) (wholeX seatC0.C 37 4), seatF, seatTy, orX_mono (isX_mono _ _) (wholeX_mono seatC0.mono _ _)⟩
theorem has_usage_New : seatC.IP (seatC.F 237) = some (c_usage_New seatC.F seatC.Ty) := by kernel_rfl
theorem has_usage_Usage_find : seatC.IP (seatC.F 238) = some (c_usage_Usage_find seatC.F seatC.Ty) := by kernel_rfl
theorem has_usage_Usage_find_F1 : seatC.IP (seatC.F 239) = some (c_usage_Usage_find_F1 seatC.F seatC.Ty) := by kernel_rfl
theorem has_usage_may : seatC.IP (seatC.F 240) = some (c_usage_may seatC.F seatC.Ty) := by kernel_rfl
theorem has_usage_errno : seatC.IP (seatC.F 241) = some (c_usage_errno seatC.F seatC.Ty) := by kernel_rfl
theorem has_usage_Usage_add : seatC.IP (seatC.F 242) = some (c_usage_Usage_add seatC.F seatC.Ty) := by kernel_rfl
theorem has_usage_Usage_Add : seatC.IP (seatC.F 243) = some (c_usage_Usage_Add seatC.F seatC.Ty) := by kernel_rfl
theorem has_usage_Usage_dead : seatC.IP (seatC.F 244) = some (c_usage_Usage_dead seatC.F seatC.Ty) := by kernel_rfl
theorem has_usage_Usage_Dead : seatC.IP (seatC.F 245) = some (c_usage_Usage_Dead seatC.F seatC.Ty) := by kernel_rfl
theorem has_usage_Usage_Drop : seatC.IP (seatC.F 246) = some (c_usage_Usage_Drop seatC.F seatC.Ty) := by kernel_rfl
theorem has_usage_Score : seatC.IP (seatC.F 247) = some (c_usage_Score seatC.F seatC.Ty) := by kernel_rfl
theorem has_usage_Usage_Pick : seatC.IP (seatC.F 248) = some (c_usage_Usage_Pick seatC.F seatC.Ty) := by kernel_rfl
theorem has_usage_Usage_Empty : seatC.IP (seatC.F 249) = some (c_usage_Usage_Empty seatC.F seatC.Ty) := by kernel_rfl
theorem has_usage_Usage_All : seatC.IP (seatC.F 250) = some (c_usage_Usage_All seatC.F seatC.Ty) := by kernel_rfl
theorem has_usage_Usage_Live : seatC.IP (seatC.F 251) = some (c_usage_Usage_Live seatC.F seatC.Ty) := by kernel_rfl
theorem has_slices_Insert_api_Use_api_Use : seatC.IP (seatC.F 252) = some (c_slices_Insert_api_Use_api_Use seatC.F seatC.Ty) := by kernel_rfl
theorem has_slices_Delete_api_Use_api_Use : seatC.IP (seatC.F 253) = some (c_slices_Delete_api_Use_api_Use seatC.F seatC.Ty) := by kernel_rfl
theorem has_slices_Clone_api_Use_api_Use : seatC.IP (seatC.F 254) = some (c_slices_Clone_api_Use_api_Use seatC.F seatC.Ty) := by kernel_rfl
theorem has_slices_BinarySearchFunc_api_Use_api_Use_int : seatC.IP (seatC.F 255) = some (c_slices_BinarySearchFunc_api_Use_api_Use_int seatC.F seatC.Ty) := by kernel_rfl
theorem seatHasUse : HasUse seatC := ⟨has_usage_New, has_usage_Usage_find, has_usage_Usage_find_F1, has_usage_may, has_usage_errno, has_usage_Usage_add, has_usage_Usage_Add, has_usage_Usage_dead, has_usage_Usage_Dead, has_usage_Usage_Drop, has_usage_Score, has_usage_Usage_Pick, has_usage_Usage_Empty, has_usage_Usage_All, has_usage_Usage_Live, has_slices_Insert_api_Use_api_Use, has_slices_Delete_api_Use_api_Use, has_slices_Clone_api_Use_api_Use, has_slices_BinarySearchFunc_api_Use_api_Use_int⟩
theorem has_hurdleref26_may : seatC.IP (seatC.F 259) = some (c_hurdleref26_may seatC.F seatC.Ty) := by kernel_rfl
theorem has_hurdleref26_find : seatC.IP (seatC.F 260) = some (c_hurdleref26_find seatC.F seatC.Ty) := by kernel_rfl
theorem has_hurdleref26_Add : seatC.IP (seatC.F 261) = some (c_hurdleref26_Add seatC.F seatC.Ty) := by kernel_rfl
theorem has_hurdleref26_Dead : seatC.IP (seatC.F 262) = some (c_hurdleref26_Dead seatC.F seatC.Ty) := by kernel_rfl
theorem has_hurdleref26_Drop : seatC.IP (seatC.F 263) = some (c_hurdleref26_Drop seatC.F seatC.Ty) := by kernel_rfl
theorem has_hurdleref26_Score : seatC.IP (seatC.F 264) = some (c_hurdleref26_Score seatC.F seatC.Ty) := by kernel_rfl
theorem has_hurdleref26_Pick : seatC.IP (seatC.F 265) = some (c_hurdleref26_Pick seatC.F seatC.Ty) := by kernel_rfl
theorem has_hurdleref26_Empty : seatC.IP (seatC.F 266) = some (c_hurdleref26_Empty seatC.F seatC.Ty) := by kernel_rfl
theorem has_hurdleref26_Live : seatC.IP (seatC.F 267) = some (c_hurdleref26_Live seatC.F seatC.Ty) := by kernel_rfl
theorem has_hurdleref26_Same : seatC.IP (seatC.F 268) = some (c_hurdleref26_Same seatC.F seatC.Ty) := by kernel_rfl
theorem seatHasRef26 : HasRef26 seatC := ⟨has_hurdleref26_may, has_hurdleref26_find, has_hurdleref26_Add, has_hurdleref26_Dead, has_hurdleref26_Drop, has_hurdleref26_Score, has_hurdleref26_Pick, has_hurdleref26_Empty, has_hurdleref26_Live, has_hurdleref26_Same⟩
theorem has_hurdleref01_Ints : seatC.IP (seatC.F 69) = some (c_hurdleref01_Ints seatC.F seatC.Ty) := by kernel_rfl
theorem seatHasRef01 : HasRef01 seatC := ⟨has_hurdleref01_Ints⟩
theorem has_hurdlelaw26_UsagePlays : seatC.IP (seatC.F 269) = some (c_hurdlelaw26_UsagePlays seatC.F seatC.Ty) := by kernel_rfl
theorem has_hurdlelaw26_UsageScores : seatC.IP (seatC.F 270) = some (c_hurdlelaw26_UsageScores seatC.F seatC.Ty) := by kernel_rfl
theorem has_hurdlelaw26_UsageBest : seatC.IP (seatC.F 271) = some (c_hurdlelaw26_UsageBest seatC.F seatC.Ty) := by kernel_rfl
theorem has_hurdlelaw26_UsageEmptier : seatC.IP (seatC.F 272) = some (c_hurdlelaw26_UsageEmptier seatC.F seatC.Ty) := by kernel_rfl
theorem has_hurdlelaw26_UsageNone : seatC.IP (seatC.F 273) = some (c_hurdlelaw26_UsageNone seatC.F seatC.Ty) := by kernel_rfl
theorem has_hurdlelaw26_awake : seatC.IP (seatC.F 274) = some (c_hurdlelaw26_awake seatC.F seatC.Ty) := by kernel_rfl
theorem seatHasLaw26 : HasLaw26 seatC := ⟨has_hurdlelaw26_UsagePlays, has_hurdlelaw26_UsageScores, has_hurdlelaw26_UsageBest, has_hurdlelaw26_UsageEmptier, has_hurdlelaw26_UsageNone, has_hurdlelaw26_awake⟩
theorem seatMixed : Try.prog.follows .mixedOrders = true := by kernel_rfl
theorem seatHasUse0 : HasUse seatC0 := ⟨has_usage_New, has_usage_Usage_find, has_usage_Usage_find_F1, has_usage_may, has_usage_errno, has_usage_Usage_add, has_usage_Usage_Add, has_usage_Usage_dead, has_usage_Usage_Dead, has_usage_Usage_Drop, has_usage_Score, has_usage_Usage_Pick, has_usage_Usage_Empty, has_usage_Usage_All, has_usage_Usage_Live, has_slices_Insert_api_Use_api_Use, has_slices_Delete_api_Use_api_Use, has_slices_Clone_api_Use_api_Use, has_slices_BinarySearchFunc_api_Use_api_Use_int⟩
theorem seatOver : CSim Try.prog (overX 42) := overX_sim (fn := Try.f42) (tS := 26) (tR := 4) (e := 28) (size := 4) (by kernel_rfl) (by kernel_rfl) (by kernel_rfl) (by kernel_rfl) (by kernel_rfl) (by kernel_rfl) (by kernel_rfl)
theorem seatIs : CSim Try.prog (isX 36 68) := isX_sim Go.Proofs.YtdfjicnjcibdaaaU.is_enter Go.Proofs.YtdfjicnjcibdaaaU.is_nil fun _ he w => Go.Proofs.YtdfjicnjcibdaaaU.is_fault he w
theorem seatSim0 : CSim Try.prog seatC0.C := sim_call2 seatMixed (fun _ _ h => h) seatOver (overX_mono _)
set_option maxRecDepth 100000 in
theorem seatSim : CSim Try.prog seatC.C := sim_call2 seatMixed (fun _ _ h => h) (orX_sim seatIs (wholeX_sim (code := c_slices_Insert_api_Use_api_Use seatF seatTy) seatSim0 has_slices_Insert_api_Use_api_Use (by omega))) (orX_mono (isX_mono _ _) (wholeX_mono seatC0.mono _ _))
theorem seatInsOk : InsOkT seatC := fun H K q vb i u rows new h1 h2 h3 h4 h5 h6 h7 h8 h9 h10 hK =>
 Ins_ok seatC seatC0 seatHasUse0
 (fun H K b1 o1 n1 c1 b2 o2 n2 c2 cs1 cs2 q1 q2 q3 q4 q5 q6 q7 q8 => ICall.ext ⟨rfl, b1, o1, n1, c1, b2, o2, n2, c2, cs1, cs2, rfl, q1, q2, q3, q4, q5, q6, q7, q8⟩)
 (fun s r H K h => ICall.ext (.inr ⟨rfl, s, r, rfl, h⟩)) h1 h2 h3 h4 h5 h6 h7 h8 h9 h10 hK
theorem seatIsErr : IsErr seatC := fun H K => ⟨fun z h => ICall.ext (.inl ⟨rfl, .inl ⟨z, rfl, h⟩⟩), fun e he h => ICall.ext (.inl ⟨rfl, .inr ⟨e, he, rfl, h⟩⟩)⟩
theorem seatAw (H : IHeap) (K : Value → IHeap → Prop) (h : ∀ H', K (.bool true) H') : seatC.C (seatC.F n_hurdlelaw26_awake) [] H K := awake26 seatC seatHasUse seatIsErr seatInsOk seatHasRef01 seatHasLaw26 h

end Go.Proofs.YtdfjicnjcibdaaaI
