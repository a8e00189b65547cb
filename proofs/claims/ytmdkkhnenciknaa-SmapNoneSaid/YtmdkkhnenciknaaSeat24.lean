/- PRINTED by gen.py: the seat's own numbers; the context; that it has the functions. -/
import Derived.Test.YtmdkkhnenciknaaRows
import Derived.KernelRfl
import Derived.Test.YtmdkkhnenciknaaSmV
import Derived.Test.YtmdkkhnenciknaaSmW
import Derived.Test.YtmdkkhnenciknaaSmX
import Derived.Test.YtmdkkhnenciknaaDecode24
namespace Go.Proofs.YtmdkkhnenciknaaI
set_option linter.unusedSimpArgs false
set_option linter.unusedVariables false
open Go

def seatF : Nat → FuncId := fun i => [0, 0, 0, 0, 0, 0, 0, 0, 0, 0, 0, 0, 0, 0, 0, 0, 0, 0, 0, 0, 0, 0, 0, 0, 0, 0, 53, 56, 0, 54, 58, 44, 50, 0, 47, 45, 0, 55, 0, 75, 74, 72, 73, 67, 71, 69, 0, 0, 68, 49, 0, 0, 70, 0, 0, 0, 63, 0, 0, 0, 52, 0, 51, 60, 0, 61, 0, 59, 77, 15, 0, 0, 0, 0, 0, 0, 0, 0, 0, 0, 0, 0, 0, 0, 0, 0, 0, 0, 0, 0, 0, 0, 0, 0, 0, 0, 0, 0, 0, 0, 0, 0, 0, 0, 0, 0, 0, 0, 0, 0, 65, 0, 0, 0, 0, 22, 0, 42, 78, 0, 0, 0, 0, 0, 0, 0, 0, 0, 0, 0, 0, 0, 10, 57, 76, 26, 35, 27, 28, 38, 25, 64, 29, 12, 16, 39, 18, 40, 20, 43, 46, 48, 23, 36, 41, 62, 17, 30, 37, 66, 31, 32, 33, 34, 19, 21, 24, 14, 13, 3, 4, 5, 6, 7, 8, 9, 11].getD i 0
def seatTy : Nat → TypeId := fun i => [0, 0, 0, 0, 0, 0].getD i 0
noncomputable def seatC : Ctx := ⟨Try.prog, compFunc2 Try.prog, closedX 9 (.bool true), seatF, seatTy, closedX_mono _ _⟩
theorem has_codec_NewReader : seatC.IP (seatC.F 26) = some (c_codec_NewReader seatC.F seatC.Ty) := by kernel_rfl
theorem has_codec_Reader_Ints : seatC.IP (seatC.F 27) = some (c_codec_Reader_Ints seatC.F seatC.Ty) := by kernel_rfl
theorem has_codec_Reader_Int : seatC.IP (seatC.F 29) = some (c_codec_Reader_Int seatC.F seatC.Ty) := by kernel_rfl
theorem has_codec_Reader_Done : seatC.IP (seatC.F 30) = some (c_codec_Reader_Done seatC.F seatC.Ty) := by kernel_rfl
theorem has_codec_NewWriter : seatC.IP (seatC.F 31) = some (c_codec_NewWriter seatC.F seatC.Ty) := by kernel_rfl
theorem has_codec_Writer_Ints : seatC.IP (seatC.F 32) = some (c_codec_Writer_Ints seatC.F seatC.Ty) := by kernel_rfl
theorem has_codec_Writer_Int : seatC.IP (seatC.F 34) = some (c_codec_Writer_Int seatC.F seatC.Ty) := by kernel_rfl
theorem has_codec_Writer_Done : seatC.IP (seatC.F 35) = some (c_codec_Writer_Done seatC.F seatC.Ty) := by kernel_rfl
theorem has_codec_Reader_Byte : seatC.IP (seatC.F 37) = some (c_codec_Reader_Byte seatC.F seatC.Ty) := by kernel_rfl
theorem has_codec_list_int : seatC.IP (seatC.F 39) = some (c_codec_list_int seatC.F seatC.Ty) := by kernel_rfl
theorem has_codec_Reader_take : seatC.IP (seatC.F 40) = some (c_codec_Reader_take seatC.F seatC.Ty) := by kernel_rfl
theorem has_codec_groups : seatC.IP (seatC.F 41) = some (c_codec_groups seatC.F seatC.Ty) := by kernel_rfl
theorem has_codec_Reader_fail : seatC.IP (seatC.F 42) = some (c_codec_Reader_fail seatC.F seatC.Ty) := by kernel_rfl
theorem has_codec_Writer_lay : seatC.IP (seatC.F 43) = some (c_codec_Writer_lay seatC.F seatC.Ty) := by kernel_rfl
theorem has_codec_Writer_Ints_F1 : seatC.IP (seatC.F 44) = some (c_codec_Writer_Ints_F1 seatC.F seatC.Ty) := by kernel_rfl
theorem has_codec_number : seatC.IP (seatC.F 45) = some (c_codec_number seatC.F seatC.Ty) := by kernel_rfl
theorem has_codec_Writer_Int_F1 : seatC.IP (seatC.F 48) = some (c_codec_Writer_Int_F1 seatC.F seatC.Ty) := by kernel_rfl
theorem has_codec_Writer_Byte : seatC.IP (seatC.F 49) = some (c_codec_Writer_Byte seatC.F seatC.Ty) := by kernel_rfl
theorem has_codec_Writer_Byte_F1 : seatC.IP (seatC.F 52) = some (c_codec_Writer_Byte_F1 seatC.F seatC.Ty) := by kernel_rfl
theorem seatHasCodec : HasCodec seatC := ⟨has_codec_NewReader, has_codec_Reader_Ints, has_codec_Reader_Int, has_codec_Reader_Done, has_codec_NewWriter, has_codec_Writer_Ints, has_codec_Writer_Int, has_codec_Writer_Done, has_codec_Reader_Byte, has_codec_list_int, has_codec_Reader_take, has_codec_groups, has_codec_Reader_fail, has_codec_Writer_lay, has_codec_Writer_Ints_F1, has_codec_number, has_codec_Writer_Int_F1, has_codec_Writer_Byte, has_codec_Writer_Byte_F1⟩
theorem has_hurdleref03_End : seatC.IP (seatC.F 56) = some (c_hurdleref03_End seatC.F seatC.Ty) := by kernel_rfl
theorem has_hurdleref03_Ints : seatC.IP (seatC.F 60) = some (c_hurdleref03_Ints seatC.F seatC.Ty) := by kernel_rfl
theorem has_hurdleref03_Int : seatC.IP (seatC.F 62) = some (c_hurdleref03_Int seatC.F seatC.Ty) := by kernel_rfl
theorem has_hurdleref03_TakeByte : seatC.IP (seatC.F 63) = some (c_hurdleref03_TakeByte seatC.F seatC.Ty) := by kernel_rfl
theorem has_hurdleref03_TakeInts : seatC.IP (seatC.F 65) = some (c_hurdleref03_TakeInts seatC.F seatC.Ty) := by kernel_rfl
theorem has_hurdleref03_TakeInt : seatC.IP (seatC.F 67) = some (c_hurdleref03_TakeInt seatC.F seatC.Ty) := by kernel_rfl
theorem has_hurdleref03_bad : seatC.IP (seatC.F 68) = some (c_hurdleref03_bad seatC.F seatC.Ty) := by kernel_rfl
theorem seatHasRef03 : HasRef03 seatC := ⟨has_hurdleref03_End, has_hurdleref03_Ints, has_hurdleref03_Int, has_hurdleref03_TakeByte, has_hurdleref03_TakeInts, has_hurdleref03_TakeInt, has_hurdleref03_bad⟩
theorem has_hurdleref01_Ints : seatC.IP (seatC.F 69) = some (c_hurdleref01_Ints seatC.F seatC.Ty) := by kernel_rfl
theorem seatHasRef01 : HasRef01 seatC := ⟨has_hurdleref01_Ints⟩
theorem has_hurdleref23_At : seatC.IP (seatC.F 117) = some (c_hurdleref23_At seatC.F seatC.Ty) := by kernel_rfl
theorem has_hurdleref23_Apart : seatC.IP (seatC.F 115) = some (c_hurdleref23_Apart seatC.F seatC.Ty) := by kernel_rfl
theorem has_hurdleref23_Group : seatC.IP (seatC.F 118) = some (c_hurdleref23_Group seatC.F seatC.Ty) := by kernel_rfl
theorem seatHasRef23 : HasRef23 seatC := ⟨has_hurdleref23_At, has_hurdleref23_Apart, has_hurdleref23_Group⟩
theorem has_smap_New : seatC.IP (seatC.F 132) = some (c_smap_New seatC.F seatC.Ty) := by kernel_rfl
theorem has_smap_may : seatC.IP (seatC.F 133) = some (c_smap_may seatC.F seatC.Ty) := by kernel_rfl
theorem has_smap_group : seatC.IP (seatC.F 134) = some (c_smap_group seatC.F seatC.Ty) := by kernel_rfl
theorem has_smap_Map_Begin : seatC.IP (seatC.F 135) = some (c_smap_Map_Begin seatC.F seatC.Ty) := by kernel_rfl
theorem has_smap_Map_at : seatC.IP (seatC.F 136) = some (c_smap_Map_at seatC.F seatC.Ty) := by kernel_rfl
theorem has_smap_Map_Commit : seatC.IP (seatC.F 137) = some (c_smap_Map_Commit seatC.F seatC.Ty) := by kernel_rfl
theorem has_smap_Map_Free : seatC.IP (seatC.F 138) = some (c_smap_Map_Free seatC.F seatC.Ty) := by kernel_rfl
theorem has_smap_Map_which : seatC.IP (seatC.F 139) = some (c_smap_Map_which seatC.F seatC.Ty) := by kernel_rfl
theorem has_smap_Map_Drop : seatC.IP (seatC.F 140) = some (c_smap_Map_Drop seatC.F seatC.Ty) := by kernel_rfl
theorem has_smap_Map_Drop_F1 : seatC.IP (seatC.F 141) = some (c_smap_Map_Drop_F1 seatC.F seatC.Ty) := by kernel_rfl
theorem has_smap_Map_Move : seatC.IP (seatC.F 142) = some (c_smap_Map_Move seatC.F seatC.Ty) := by kernel_rfl
theorem has_smap_Map_Get : seatC.IP (seatC.F 143) = some (c_smap_Map_Get seatC.F seatC.Ty) := by kernel_rfl
theorem has_smap_Map_List : seatC.IP (seatC.F 144) = some (c_smap_Map_List seatC.F seatC.Ty) := by kernel_rfl
theorem has_smap_Map_List_F1 : seatC.IP (seatC.F 145) = some (c_smap_Map_List_F1 seatC.F seatC.Ty) := by kernel_rfl
theorem has_smap_Map_On : seatC.IP (seatC.F 146) = some (c_smap_Map_On seatC.F seatC.Ty) := by kernel_rfl
theorem has_smap_Map_On_F1 : seatC.IP (seatC.F 147) = some (c_smap_Map_On_F1 seatC.F seatC.Ty) := by kernel_rfl
theorem has_smap_Map_Text : seatC.IP (seatC.F 148) = some (c_smap_Map_Text seatC.F seatC.Ty) := by kernel_rfl
theorem has_smap_Map_Text_F1 : seatC.IP (seatC.F 149) = some (c_smap_Map_Text_F1 seatC.F seatC.Ty) := by kernel_rfl
theorem has_smap_Map_Text_F2 : seatC.IP (seatC.F 150) = some (c_smap_Map_Text_F2 seatC.F seatC.Ty) := by kernel_rfl
theorem has_smap_Map_Text_F3 : seatC.IP (seatC.F 151) = some (c_smap_Map_Text_F3 seatC.F seatC.Ty) := by kernel_rfl
theorem has_smap_Read : seatC.IP (seatC.F 152) = some (c_smap_Read seatC.F seatC.Ty) := by kernel_rfl
theorem has_slices_Clone_int_int : seatC.IP (seatC.F 153) = some (c_slices_Clone_int_int seatC.F seatC.Ty) := by kernel_rfl
theorem has_slices_Index_int_int : seatC.IP (seatC.F 110) = some (c_slices_Index_int_int seatC.F seatC.Ty) := by kernel_rfl
theorem has_slices_Contains_int_int : seatC.IP (seatC.F 154) = some (c_slices_Contains_int_int seatC.F seatC.Ty) := by kernel_rfl
theorem seatHasSmap : HasSmap seatC := ⟨has_smap_New, has_smap_may, has_smap_group, has_smap_Map_Begin, has_smap_Map_at, has_smap_Map_Commit, has_smap_Map_Free, has_smap_Map_which, has_smap_Map_Drop, has_smap_Map_Drop_F1, has_smap_Map_Move, has_smap_Map_Get, has_smap_Map_List, has_smap_Map_List_F1, has_smap_Map_On, has_smap_Map_On_F1, has_smap_Map_Text, has_smap_Map_Text_F1, has_smap_Map_Text_F2, has_smap_Map_Text_F3, has_smap_Read, has_slices_Clone_int_int, has_slices_Index_int_int, has_slices_Contains_int_int⟩
theorem has_hurdleref24_may : seatC.IP (seatC.F 155) = some (c_hurdleref24_may seatC.F seatC.Ty) := by kernel_rfl
theorem has_hurdleref24_List : seatC.IP (seatC.F 156) = some (c_hurdleref24_List seatC.F seatC.Ty) := by kernel_rfl
theorem has_hurdleref24_Begin : seatC.IP (seatC.F 157) = some (c_hurdleref24_Begin seatC.F seatC.Ty) := by kernel_rfl
theorem has_hurdleref24_known : seatC.IP (seatC.F 158) = some (c_hurdleref24_known seatC.F seatC.Ty) := by kernel_rfl
theorem has_hurdleref24_state : seatC.IP (seatC.F 159) = some (c_hurdleref24_state seatC.F seatC.Ty) := by kernel_rfl
theorem has_hurdleref24_Commit : seatC.IP (seatC.F 160) = some (c_hurdleref24_Commit seatC.F seatC.Ty) := by kernel_rfl
theorem has_hurdleref24_Free : seatC.IP (seatC.F 161) = some (c_hurdleref24_Free seatC.F seatC.Ty) := by kernel_rfl
theorem has_hurdleref24_Drop : seatC.IP (seatC.F 162) = some (c_hurdleref24_Drop seatC.F seatC.Ty) := by kernel_rfl
theorem has_hurdleref24_Move : seatC.IP (seatC.F 163) = some (c_hurdleref24_Move seatC.F seatC.Ty) := by kernel_rfl
theorem has_hurdleref24_On : seatC.IP (seatC.F 164) = some (c_hurdleref24_On seatC.F seatC.Ty) := by kernel_rfl
theorem has_hurdleref24_Text : seatC.IP (seatC.F 165) = some (c_hurdleref24_Text seatC.F seatC.Ty) := by kernel_rfl
theorem has_hurdleref24_Read : seatC.IP (seatC.F 166) = some (c_hurdleref24_Read seatC.F seatC.Ty) := by kernel_rfl
theorem has_hurdleref24_Same : seatC.IP (seatC.F 167) = some (c_hurdleref24_Same seatC.F seatC.Ty) := by kernel_rfl
theorem has_hurdleref24_Get : seatC.IP (seatC.F 168) = some (c_hurdleref24_Get seatC.F seatC.Ty) := by kernel_rfl
theorem seatHasRef24 : HasRef24 seatC := ⟨has_hurdleref24_may, has_hurdleref24_List, has_hurdleref24_Begin, has_hurdleref24_known, has_hurdleref24_state, has_hurdleref24_Commit, has_hurdleref24_Free, has_hurdleref24_Drop, has_hurdleref24_Move, has_hurdleref24_On, has_hurdleref24_Text, has_hurdleref24_Read, has_hurdleref24_Same, has_hurdleref24_Get⟩
theorem has_hurdlelaw24_SmapPlays : seatC.IP (seatC.F 169) = some (c_hurdlelaw24_SmapPlays seatC.F seatC.Ty) := by kernel_rfl
theorem has_hurdlelaw24_SmapOrder : seatC.IP (seatC.F 170) = some (c_hurdlelaw24_SmapOrder seatC.F seatC.Ty) := by kernel_rfl
theorem has_hurdlelaw24_SmapBack : seatC.IP (seatC.F 171) = some (c_hurdlelaw24_SmapBack seatC.F seatC.Ty) := by kernel_rfl
theorem has_hurdlelaw24_SmapDrop : seatC.IP (seatC.F 172) = some (c_hurdlelaw24_SmapDrop seatC.F seatC.Ty) := by kernel_rfl
theorem has_hurdlelaw24_SmapNone : seatC.IP (seatC.F 173) = some (c_hurdlelaw24_SmapNone seatC.F seatC.Ty) := by kernel_rfl
theorem has_hurdlelaw24_Few : seatC.IP (seatC.F 174) = some (c_hurdlelaw24_Few seatC.F seatC.Ty) := by kernel_rfl
theorem has_hurdlelaw24_awake : seatC.IP (seatC.F 175) = some (c_hurdlelaw24_awake seatC.F seatC.Ty) := by kernel_rfl
theorem has_hurdlelaw24_do : seatC.IP (seatC.F 176) = some (c_hurdlelaw24_do seatC.F seatC.Ty) := by kernel_rfl
theorem seatHasLaw24 : HasLaw24 seatC := ⟨has_hurdlelaw24_SmapPlays, has_hurdlelaw24_SmapOrder, has_hurdlelaw24_SmapBack, has_hurdlelaw24_SmapDrop, has_hurdlelaw24_SmapNone, has_hurdlelaw24_Few, has_hurdlelaw24_awake, has_hurdlelaw24_do⟩
theorem seatMixed : Try.prog.follows .mixedOrders = true := by kernel_rfl
theorem seatAwake : closedB Try.prog (compFunc2 Try.prog) 3000 9 (.bool true) = true := by kernel_rfl
theorem seatX : CSim Try.prog (closedX 9 (.bool true)) := closedX_sim seatMixed (fun _ _ h => h) rfl seatAwake
theorem seatSim : CSim Try.prog seatC.C := sim_call2 seatMixed (fun _ _ h => h) seatX (closedX_mono _ _)
theorem seatAw (H : IHeap) (K : Value → IHeap → Prop) (h : K (.bool true) H) : seatC.C (seatC.F n_hurdlelaw24_awake) [] H K := ICall.ext ⟨rfl, rfl, h⟩

end Go.Proofs.YtmdkkhnenciknaaI
