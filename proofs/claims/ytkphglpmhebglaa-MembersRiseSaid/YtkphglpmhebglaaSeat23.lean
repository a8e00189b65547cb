/- PRINTED by gen.py: the seat's own numbers; the context; that it has the functions. -/
import Derived.Test.YtkphglpmhebglaaRows
import Derived.KernelRfl
import Derived.Test.YtkphglpmhebglaaMemN
import Derived.Test.YtkphglpmhebglaaDecode23
namespace Go.Proofs.YtkphglpmhebglaaI
set_option linter.unusedSimpArgs false
set_option linter.unusedVariables false
open Go

def seatF : Nat → FuncId := fun i => [0, 0, 0, 0, 0, 0, 0, 0, 0, 0, 0, 0, 0, 0, 0, 0, 0, 0, 0, 0, 0, 0, 0, 0, 0, 0, 44, 47, 0, 45, 48, 35, 38, 0, 36, 39, 0, 46, 0, 63, 62, 60, 61, 55, 59, 57, 0, 0, 56, 37, 0, 0, 58, 0, 0, 0, 53, 0, 0, 0, 41, 0, 40, 51, 0, 52, 0, 50, 64, 15, 0, 0, 0, 0, 0, 0, 0, 0, 0, 0, 0, 0, 0, 0, 0, 0, 0, 0, 0, 0, 0, 0, 0, 0, 0, 0, 0, 10, 13, 14, 16, 17, 18, 20, 21, 22, 23, 25, 28, 29, 42, 43, 49, 11, 19, 24, 26, 27, 30, 31, 32, 33, 34, 54, 3, 4, 5, 6, 7, 8, 9, 12, 0, 0, 0, 0, 0, 0, 0, 0, 0, 0, 0, 0, 0, 0, 0, 0, 0, 0, 0, 0, 0, 0, 0, 0, 0, 0, 0, 0, 0, 0, 0, 0, 0, 0, 0, 0, 0, 0, 0, 0, 0, 0, 0, 0, 0].getD i 0
def seatTy : Nat → TypeId := fun i => [0, 0, 0, 0, 0, 0].getD i 0
noncomputable def seatC : Ctx := ⟨Try.prog, compFunc2 Try.prog, closedX 9 (.bool true), seatF, seatTy, closedX_mono _ _⟩
theorem has_codec_NewReader : seatC.IP (seatC.F 26) = some (c_codec_NewReader seatC.F seatC.Ty) := by kernel_rfl
theorem has_codec_Reader_Ints : seatC.IP (seatC.F 27) = some (c_codec_Reader_Ints seatC.F seatC.Ty) := by kernel_rfl
theorem has_codec_Reader_Int : seatC.IP (seatC.F 29) = some (c_codec_Reader_Int seatC.F seatC.Ty) := by kernel_rfl
theorem has_codec_Reader_Done : seatC.IP (seatC.F 30) = some (c_codec_Reader_Done seatC.F seatC.Ty) := by kernel_rfl
theorem has_codec_NewWriter : seatC.IP (seatC.F 31) = some (c_codec_NewWriter seatC.F seatC.Ty) := by kernel_rfl
theorem has_codec_Writer_Ints : seatC.IP (seatC.F 32) = some (c_codec_Writer_Ints seatC.F seatC.Ty) := by kernel_rfl
theorem has_codec_Writer_Int : seatC.IP (seatC.F 34) = some (c_codec_Writer_Int seatC.F seatC.Ty) := by kernel_rfl
theorem has_codec_Writer_Done : seatC.IP (seatC.F 35) = some (c_codec_Writer_Done seatC.F seatC.Ty) := by kernel_rfl
theorem has_codec_Reader_Byte : seatC.IP (seatC.F 37) = some (c_codec_Reader_Byte seatC.F seatC.Ty) := by kernel_rfl
theorem has_codec_list_int : seatC.IP (seatC.F 39) = some (c_codec_list_int seatC.F seatC.Ty) := by kernel_rfl
theorem has_codec_Reader_take : seatC.IP (seatC.F 40) = some (c_codec_Reader_take seatC.F seatC.Ty) := by kernel_rfl
theorem has_codec_groups : seatC.IP (seatC.F 41) = some (c_codec_groups seatC.F seatC.Ty) := by kernel_rfl
theorem has_codec_Reader_fail : seatC.IP (seatC.F 42) = some (c_codec_Reader_fail seatC.F seatC.Ty) := by kernel_rfl
theorem has_codec_Writer_lay : seatC.IP (seatC.F 43) = some (c_codec_Writer_lay seatC.F seatC.Ty) := by kernel_rfl
theorem has_codec_Writer_Ints_F1 : seatC.IP (seatC.F 44) = some (c_codec_Writer_Ints_F1 seatC.F seatC.Ty) := by kernel_rfl
theorem has_codec_number : seatC.IP (seatC.F 45) = some (c_codec_number seatC.F seatC.Ty) := by kernel_rfl
theorem has_codec_Writer_Int_F1 : seatC.IP (seatC.F 48) = some (c_codec_Writer_Int_F1 seatC.F seatC.Ty) := by kernel_rfl
theorem has_codec_Writer_Byte : seatC.IP (seatC.F 49) = some (c_codec_Writer_Byte seatC.F seatC.Ty) := by kernel_rfl
theorem has_codec_Writer_Byte_F1 : seatC.IP (seatC.F 52) = some (c_codec_Writer_Byte_F1 seatC.F seatC.Ty) := by kernel_rfl
theorem seatHasCodec : HasCodec seatC := ⟨has_codec_NewReader, has_codec_Reader_Ints, has_codec_Reader_Int, has_codec_Reader_Done, has_codec_NewWriter, has_codec_Writer_Ints, has_codec_Writer_Int, has_codec_Writer_Done, has_codec_Reader_Byte, has_codec_list_int, has_codec_Reader_take, has_codec_groups, has_codec_Reader_fail, has_codec_Writer_lay, has_codec_Writer_Ints_F1, has_codec_number, has_codec_Writer_Int_F1, has_codec_Writer_Byte, has_codec_Writer_Byte_F1⟩
theorem has_hurdleref03_End : seatC.IP (seatC.F 56) = some (c_hurdleref03_End seatC.F seatC.Ty) := by kernel_rfl
theorem has_hurdleref03_Ints : seatC.IP (seatC.F 60) = some (c_hurdleref03_Ints seatC.F seatC.Ty) := by kernel_rfl
theorem has_hurdleref03_Int : seatC.IP (seatC.F 62) = some (c_hurdleref03_Int seatC.F seatC.Ty) := by kernel_rfl
theorem has_hurdleref03_TakeByte : seatC.IP (seatC.F 63) = some (c_hurdleref03_TakeByte seatC.F seatC.Ty) := by kernel_rfl
theorem has_hurdleref03_TakeInts : seatC.IP (seatC.F 65) = some (c_hurdleref03_TakeInts seatC.F seatC.Ty) := by kernel_rfl
theorem has_hurdleref03_TakeInt : seatC.IP (seatC.F 67) = some (c_hurdleref03_TakeInt seatC.F seatC.Ty) := by kernel_rfl
theorem has_hurdleref03_bad : seatC.IP (seatC.F 68) = some (c_hurdleref03_bad seatC.F seatC.Ty) := by kernel_rfl
theorem seatHasRef03 : HasRef03 seatC := ⟨has_hurdleref03_End, has_hurdleref03_Ints, has_hurdleref03_Int, has_hurdleref03_TakeByte, has_hurdleref03_TakeInts, has_hurdleref03_TakeInt, has_hurdleref03_bad⟩
theorem has_hurdleref01_Ints : seatC.IP (seatC.F 69) = some (c_hurdleref01_Ints seatC.F seatC.Ty) := by kernel_rfl
theorem seatHasRef01 : HasRef01 seatC := ⟨has_hurdleref01_Ints⟩
theorem has_members_New : seatC.IP (seatC.F 97) = some (c_members_New seatC.F seatC.Ty) := by kernel_rfl
theorem has_members_Members_Epoch : seatC.IP (seatC.F 98) = some (c_members_Members_Epoch seatC.F seatC.Ty) := by kernel_rfl
theorem has_members_Members_Hole : seatC.IP (seatC.F 99) = some (c_members_Members_Hole seatC.F seatC.Ty) := by kernel_rfl
theorem has_members_Members_Servers : seatC.IP (seatC.F 100) = some (c_members_Members_Servers seatC.F seatC.Ty) := by kernel_rfl
theorem has_members_Members_Spares : seatC.IP (seatC.F 101) = some (c_members_Members_Spares seatC.F seatC.Ty) := by kernel_rfl
theorem has_members_Members_Text : seatC.IP (seatC.F 102) = some (c_members_Members_Text seatC.F seatC.Ty) := by kernel_rfl
theorem has_members_Members_Fail : seatC.IP (seatC.F 103) = some (c_members_Members_Fail seatC.F seatC.Ty) := by kernel_rfl
theorem has_members_Members_Swap : seatC.IP (seatC.F 104) = some (c_members_Members_Swap seatC.F seatC.Ty) := by kernel_rfl
theorem has_members_Members_Done : seatC.IP (seatC.F 105) = some (c_members_Members_Done seatC.F seatC.Ty) := by kernel_rfl
theorem has_members_Members_Add : seatC.IP (seatC.F 106) = some (c_members_Members_Add seatC.F seatC.Ty) := by kernel_rfl
theorem has_members_Read : seatC.IP (seatC.F 107) = some (c_members_Read seatC.F seatC.Ty) := by kernel_rfl
theorem has_members_group : seatC.IP (seatC.F 108) = some (c_members_group seatC.F seatC.Ty) := by kernel_rfl
theorem has_members_list : seatC.IP (seatC.F 109) = some (c_members_list seatC.F seatC.Ty) := by kernel_rfl
theorem has_slices_Index_int_int : seatC.IP (seatC.F 110) = some (c_slices_Index_int_int seatC.F seatC.Ty) := by kernel_rfl
theorem has_members_apart : seatC.IP (seatC.F 111) = some (c_members_apart seatC.F seatC.Ty) := by kernel_rfl
theorem has_members_Members_right : seatC.IP (seatC.F 112) = some (c_members_Members_right seatC.F seatC.Ty) := by kernel_rfl
theorem seatHasMembers : HasMembers seatC := ⟨has_members_New, has_members_Members_Epoch, has_members_Members_Hole, has_members_Members_Servers, has_members_Members_Spares, has_members_Members_Text, has_members_Members_Fail, has_members_Members_Swap, has_members_Members_Done, has_members_Members_Add, has_members_Read, has_members_group, has_members_list, has_slices_Index_int_int, has_members_apart, has_members_Members_right⟩
theorem has_hurdleref23_New : seatC.IP (seatC.F 113) = some (c_hurdleref23_New seatC.F seatC.Ty) := by kernel_rfl
theorem has_hurdleref23_Text : seatC.IP (seatC.F 114) = some (c_hurdleref23_Text seatC.F seatC.Ty) := by kernel_rfl
theorem has_hurdleref23_Apart : seatC.IP (seatC.F 115) = some (c_hurdleref23_Apart seatC.F seatC.Ty) := by kernel_rfl
theorem has_hurdleref23_Read : seatC.IP (seatC.F 116) = some (c_hurdleref23_Read seatC.F seatC.Ty) := by kernel_rfl
theorem has_hurdleref23_At : seatC.IP (seatC.F 117) = some (c_hurdleref23_At seatC.F seatC.Ty) := by kernel_rfl
theorem has_hurdleref23_Group : seatC.IP (seatC.F 118) = some (c_hurdleref23_Group seatC.F seatC.Ty) := by kernel_rfl
theorem has_hurdleref23_Fail : seatC.IP (seatC.F 119) = some (c_hurdleref23_Fail seatC.F seatC.Ty) := by kernel_rfl
theorem has_hurdleref23_Swap : seatC.IP (seatC.F 120) = some (c_hurdleref23_Swap seatC.F seatC.Ty) := by kernel_rfl
theorem has_hurdleref23_Done : seatC.IP (seatC.F 121) = some (c_hurdleref23_Done seatC.F seatC.Ty) := by kernel_rfl
theorem has_hurdleref23_Add : seatC.IP (seatC.F 122) = some (c_hurdleref23_Add seatC.F seatC.Ty) := by kernel_rfl
theorem has_hurdleref23_may : seatC.IP (seatC.F 123) = some (c_hurdleref23_may seatC.F seatC.Ty) := by kernel_rfl
theorem seatHasRef23 : HasRef23 seatC := ⟨has_hurdleref23_New, has_hurdleref23_Text, has_hurdleref23_Apart, has_hurdleref23_Read, has_hurdleref23_At, has_hurdleref23_Group, has_hurdleref23_Fail, has_hurdleref23_Swap, has_hurdleref23_Done, has_hurdleref23_Add, has_hurdleref23_may⟩
theorem has_hurdlelaw23_MembersPlays : seatC.IP (seatC.F 124) = some (c_hurdlelaw23_MembersPlays seatC.F seatC.Ty) := by kernel_rfl
theorem has_hurdlelaw23_MembersRise : seatC.IP (seatC.F 125) = some (c_hurdlelaw23_MembersRise seatC.F seatC.Ty) := by kernel_rfl
theorem has_hurdlelaw23_MembersBack : seatC.IP (seatC.F 126) = some (c_hurdlelaw23_MembersBack seatC.F seatC.Ty) := by kernel_rfl
theorem has_hurdlelaw23_MembersOne : seatC.IP (seatC.F 127) = some (c_hurdlelaw23_MembersOne seatC.F seatC.Ty) := by kernel_rfl
theorem has_hurdlelaw23_MembersNone : seatC.IP (seatC.F 128) = some (c_hurdlelaw23_MembersNone seatC.F seatC.Ty) := by kernel_rfl
theorem has_hurdlelaw23_Few : seatC.IP (seatC.F 129) = some (c_hurdlelaw23_Few seatC.F seatC.Ty) := by kernel_rfl
theorem has_hurdlelaw23_awake : seatC.IP (seatC.F 130) = some (c_hurdlelaw23_awake seatC.F seatC.Ty) := by kernel_rfl
theorem has_hurdlelaw23_do : seatC.IP (seatC.F 131) = some (c_hurdlelaw23_do seatC.F seatC.Ty) := by kernel_rfl
theorem seatHasLaw23 : HasLaw23 seatC := ⟨has_hurdlelaw23_MembersPlays, has_hurdlelaw23_MembersRise, has_hurdlelaw23_MembersBack, has_hurdlelaw23_MembersOne, has_hurdlelaw23_MembersNone, has_hurdlelaw23_Few, has_hurdlelaw23_awake, has_hurdlelaw23_do⟩
theorem seatMixed : Try.prog.follows .mixedOrders = true := by kernel_rfl
theorem seatAwake : closedB Try.prog (compFunc2 Try.prog) 3000 9 (.bool true) = true := by kernel_rfl
theorem seatX : CSim Try.prog (closedX 9 (.bool true)) := closedX_sim seatMixed (fun _ _ h => h) rfl seatAwake
theorem seatSim : CSim Try.prog seatC.C := sim_call2 seatMixed (fun _ _ h => h) seatX (closedX_mono _ _)
theorem seatAw (H : IHeap) (K : Value → IHeap → Prop) (h : K (.bool true) H) : seatC.C (seatC.F n_hurdlelaw23_awake) [] H K := ICall.ext ⟨rfl, rfl, h⟩

end Go.Proofs.YtkphglpmhebglaaI
