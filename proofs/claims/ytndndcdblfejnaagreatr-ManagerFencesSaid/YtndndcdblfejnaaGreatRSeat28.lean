/- PRINTED by gen.py: the seat's own numbers; the context; that it has the functions. -/
import Derived.Test.YtndndcdblfejnaaGreatRRows
import Derived.KernelRfl
import Derived.Test.YtndndcdblfejnaaGreatRMgU
import Derived.Test.YtndndcdblfejnaaGreatRIsX
import Derived.Test.YtndndcdblfejnaaGreatRIsU28
namespace Go.Proofs.YtndndcdblfejnaaGreatRI
set_option linter.unusedSimpArgs false
set_option linter.unusedVariables false
open Go

def seatF : Nat → FuncId := fun i => [0, 0, 0, 0, 0, 0, 0, 0, 0, 0, 0, 0, 0, 0, 0, 0, 0, 0, 0, 0, 0, 0, 0, 0, 0, 0, 31, 37, 0, 32, 33, 26, 67, 0, 28, 29, 0, 36, 0, 63, 61, 59, 60, 56, 87, 58, 0, 0, 57, 66, 0, 0, 86, 0, 0, 0, 35, 0, 0, 0, 0, 0, 30, 38, 0, 39, 0, 34, 62, 14, 0, 0, 0, 0, 0, 0, 0, 0, 0, 0, 0, 0, 0, 0, 0, 0, 0, 0, 0, 0, 0, 0, 0, 0, 0, 0, 0, 41, 53, 0, 52, 0, 0, 99, 100, 104, 0, 0, 64, 65, 103, 85, 0, 0, 0, 0, 0, 0, 0, 0, 0, 0, 0, 0, 0, 0, 0, 0, 0, 40, 0, 0, 42, 108, 118, 92, 82, 93, 95, 80, 0, 0, 102, 54, 51, 81, 101, 115, 145, 0, 0, 0, 0, 83, 116, 0, 0, 0, 0, 0, 0, 0, 0, 0, 0, 0, 0, 24, 0, 0, 0, 0, 0, 0, 0, 0, 0, 0, 0, 0, 0, 0, 0, 0, 0, 0, 0, 0, 0, 0, 0, 0, 0, 0, 0, 0, 0, 0, 0, 0, 0, 0, 0, 0, 0, 0, 0, 0, 0, 0, 0, 0, 0, 0, 0, 0, 0, 0, 0, 0, 0, 0, 0, 0, 0, 0, 0, 0, 0, 0, 0, 0, 0, 0, 0, 0, 0, 44, 111, 123, 120, 109, 110, 94, 114, 98, 96, 0, 0, 0, 0, 147, 121, 112, 0, 122, 119, 126, 127, 0, 0, 0, 0, 0, 0, 0, 0, 0, 0, 0, 0, 0, 0, 0, 0, 0, 0, 0, 0, 0, 0, 0, 0, 0, 0, 0, 0, 0, 0, 0, 0, 0, 0, 0, 0, 0, 0, 0, 0, 0, 0, 0, 0, 0, 0, 0, 0, 0, 0, 0, 0, 0, 0, 0, 0, 0, 0, 0, 0, 0, 0, 0, 0, 0, 0, 0, 0, 0, 0, 0, 0, 0, 0, 0, 0, 0, 0, 0, 0, 0, 0, 0, 0, 0, 0, 0, 0, 0, 0, 0, 0, 0, 0, 0, 0, 0, 0, 0, 0, 0, 0, 0, 0, 0, 0, 0, 0, 0, 0, 0, 0, 0, 0, 0, 0, 46, 68, 69, 89, 48, 50, 70, 88, 90, 91, 43, 84, 113, 55, 97, 45, 105, 106, 16, 27, 8, 10, 47, 12, 49, 17, 22, 23, 20, 21, 19, 71, 72, 73, 74, 75, 76, 77, 78, 79, 9, 11, 13, 3, 4, 5, 6, 7, 15, 18, 25].getD i 0
def seatTy : Nat → TypeId := fun i => [0, 0, 3, 0, 0, 0, 193, 0, 0, 0, 0, 0, 0].getD i 0
noncomputable def seatC0 : Ctx := ⟨Tryz.prog, compFunc2 Tryz.prog, orX (overX 126) (overX 90), seatF, seatTy, orX_mono (overX_mono _) (overX_mono _)⟩
noncomputable def seatC : Ctx := ⟨Tryz.prog, compFunc2 Tryz.prog, orX (isX 119 193) (orX (wholeX seatC0.C 121 4) (wholeO seatC0.C 70 3)), seatF, seatTy, orX_mono (isX_mono _ _) (orX_mono (wholeX_mono seatC0.mono _ _) (wholeO_mono seatC0.mono _ _))⟩
theorem has_codec_NewReader : seatC.IP (seatC.F 26) = some (c_codec_NewReader seatC.F seatC.Ty) := by kernel_rfl
theorem has_codec_Reader_Ints : seatC.IP (seatC.F 27) = some (c_codec_Reader_Ints seatC.F seatC.Ty) := by kernel_rfl
theorem has_codec_Reader_Int : seatC.IP (seatC.F 29) = some (c_codec_Reader_Int seatC.F seatC.Ty) := by kernel_rfl
theorem has_codec_Reader_Done : seatC.IP (seatC.F 30) = some (c_codec_Reader_Done seatC.F seatC.Ty) := by kernel_rfl
theorem has_codec_NewWriter : seatC.IP (seatC.F 31) = some (c_codec_NewWriter seatC.F seatC.Ty) := by kernel_rfl
theorem has_codec_Writer_Ints : seatC.IP (seatC.F 32) = some (c_codec_Writer_Ints seatC.F seatC.Ty) := by kernel_rfl
theorem has_codec_Writer_Int : seatC.IP (seatC.F 34) = some (c_codec_Writer_Int seatC.F seatC.Ty) := by kernel_rfl
theorem has_codec_Writer_Done : seatC.IP (seatC.F 35) = some (c_codec_Writer_Done seatC.F seatC.Ty) := by kernel_rfl
theorem has_codec_Reader_Byte : seatC.IP (seatC.F 37) = some (c_codec_Reader_Byte seatC.F seatC.Ty) := by kernel_rfl
theorem has_codec_list_int : seatC.IP (seatC.F 39) = some (c_codec_list_int seatC.F seatC.Ty) := by kernel_rfl
theorem has_codec_Reader_take : seatC.IP (seatC.F 40) = some (c_codec_Reader_take seatC.F seatC.Ty) := by kernel_rfl
theorem has_codec_groups : seatC.IP (seatC.F 41) = some (c_codec_groups seatC.F seatC.Ty) := by kernel_rfl
theorem has_codec_Reader_fail : seatC.IP (seatC.F 42) = some (c_codec_Reader_fail seatC.F seatC.Ty) := by kernel_rfl
theorem has_codec_Writer_lay : seatC.IP (seatC.F 43) = some (c_codec_Writer_lay seatC.F seatC.Ty) := by kernel_rfl
theorem has_codec_Writer_Ints_F1 : seatC.IP (seatC.F 44) = some (c_codec_Writer_Ints_F1 seatC.F seatC.Ty) := by kernel_rfl
theorem has_codec_number : seatC.IP (seatC.F 45) = some (c_codec_number seatC.F seatC.Ty) := by kernel_rfl
theorem has_codec_Writer_Int_F1 : seatC.IP (seatC.F 48) = some (c_codec_Writer_Int_F1 seatC.F seatC.Ty) := by kernel_rfl
theorem has_codec_Writer_Byte : seatC.IP (seatC.F 49) = some (c_codec_Writer_Byte seatC.F seatC.Ty) := by kernel_rfl
theorem has_codec_Writer_Byte_F1 : seatC.IP (seatC.F 52) = some (c_codec_Writer_Byte_F1 seatC.F seatC.Ty) := by kernel_rfl
theorem seatHasCodec : HasCodec seatC := ⟨has_codec_NewReader, has_codec_Reader_Ints, has_codec_Reader_Int, has_codec_Reader_Done, has_codec_NewWriter, has_codec_Writer_Ints, has_codec_Writer_Int, has_codec_Writer_Done, has_codec_Reader_Byte, has_codec_list_int, has_codec_Reader_take, has_codec_groups, has_codec_Reader_fail, has_codec_Writer_lay, has_codec_Writer_Ints_F1, has_codec_number, has_codec_Writer_Int_F1, has_codec_Writer_Byte, has_codec_Writer_Byte_F1⟩
theorem has_hurdleref03_End : seatC.IP (seatC.F 56) = some (c_hurdleref03_End seatC.F seatC.Ty) := by kernel_rfl
theorem has_hurdleref03_Int : seatC.IP (seatC.F 62) = some (c_hurdleref03_Int seatC.F seatC.Ty) := by kernel_rfl
theorem has_hurdleref03_TakeByte : seatC.IP (seatC.F 63) = some (c_hurdleref03_TakeByte seatC.F seatC.Ty) := by kernel_rfl
theorem has_hurdleref03_TakeInts : seatC.IP (seatC.F 65) = some (c_hurdleref03_TakeInts seatC.F seatC.Ty) := by kernel_rfl
theorem has_hurdleref03_TakeInt : seatC.IP (seatC.F 67) = some (c_hurdleref03_TakeInt seatC.F seatC.Ty) := by kernel_rfl
theorem has_hurdleref03_bad : seatC.IP (seatC.F 68) = some (c_hurdleref03_bad seatC.F seatC.Ty) := by kernel_rfl
theorem seatHasRef03 : HasRef03 seatC := ⟨has_hurdleref03_End, has_hurdleref03_Int, has_hurdleref03_TakeByte, has_hurdleref03_TakeInts, has_hurdleref03_TakeInt, has_hurdleref03_bad⟩
theorem has_hurdleref01_Ints : seatC.IP (seatC.F 69) = some (c_hurdleref01_Ints seatC.F seatC.Ty) := by kernel_rfl
theorem seatHasRef01 : HasRef01 seatC := ⟨has_hurdleref01_Ints⟩
theorem has_members_New : seatC.IP (seatC.F 97) = some (c_members_New seatC.F seatC.Ty) := by kernel_rfl
theorem has_members_Members_Epoch : seatC.IP (seatC.F 98) = some (c_members_Members_Epoch seatC.F seatC.Ty) := by kernel_rfl
theorem has_members_Members_Servers : seatC.IP (seatC.F 100) = some (c_members_Members_Servers seatC.F seatC.Ty) := by kernel_rfl
theorem has_members_Members_Fail : seatC.IP (seatC.F 103) = some (c_members_Members_Fail seatC.F seatC.Ty) := by kernel_rfl
theorem has_members_Members_Swap : seatC.IP (seatC.F 104) = some (c_members_Members_Swap seatC.F seatC.Ty) := by kernel_rfl
theorem has_members_Members_Done : seatC.IP (seatC.F 105) = some (c_members_Members_Done seatC.F seatC.Ty) := by kernel_rfl
theorem has_members_group : seatC.IP (seatC.F 108) = some (c_members_group seatC.F seatC.Ty) := by kernel_rfl
theorem has_members_list : seatC.IP (seatC.F 109) = some (c_members_list seatC.F seatC.Ty) := by kernel_rfl
theorem has_slices_Index_int_int : seatC.IP (seatC.F 110) = some (c_slices_Index_int_int seatC.F seatC.Ty) := by kernel_rfl
theorem has_members_apart : seatC.IP (seatC.F 111) = some (c_members_apart seatC.F seatC.Ty) := by kernel_rfl
theorem seatHasMembers : HasMembers seatC := ⟨has_members_New, has_members_Members_Epoch, has_members_Members_Servers, has_members_Members_Fail, has_members_Members_Swap, has_members_Members_Done, has_members_group, has_members_list, has_slices_Index_int_int, has_members_apart⟩
theorem has_smap_New : seatC.IP (seatC.F 132) = some (c_smap_New seatC.F seatC.Ty) := by kernel_rfl
theorem has_smap_may : seatC.IP (seatC.F 133) = some (c_smap_may seatC.F seatC.Ty) := by kernel_rfl
theorem has_smap_group : seatC.IP (seatC.F 134) = some (c_smap_group seatC.F seatC.Ty) := by kernel_rfl
theorem has_smap_Map_Begin : seatC.IP (seatC.F 135) = some (c_smap_Map_Begin seatC.F seatC.Ty) := by kernel_rfl
theorem has_smap_Map_at : seatC.IP (seatC.F 136) = some (c_smap_Map_at seatC.F seatC.Ty) := by kernel_rfl
theorem has_smap_Map_Commit : seatC.IP (seatC.F 137) = some (c_smap_Map_Commit seatC.F seatC.Ty) := by kernel_rfl
theorem has_smap_Map_Free : seatC.IP (seatC.F 138) = some (c_smap_Map_Free seatC.F seatC.Ty) := by kernel_rfl
theorem has_smap_Map_which : seatC.IP (seatC.F 139) = some (c_smap_Map_which seatC.F seatC.Ty) := by kernel_rfl
theorem has_smap_Map_Move : seatC.IP (seatC.F 142) = some (c_smap_Map_Move seatC.F seatC.Ty) := by kernel_rfl
theorem has_smap_Map_Get : seatC.IP (seatC.F 143) = some (c_smap_Map_Get seatC.F seatC.Ty) := by kernel_rfl
theorem has_smap_Map_List : seatC.IP (seatC.F 144) = some (c_smap_Map_List seatC.F seatC.Ty) := by kernel_rfl
theorem has_smap_Map_List_F1 : seatC.IP (seatC.F 145) = some (c_smap_Map_List_F1 seatC.F seatC.Ty) := by kernel_rfl
theorem has_smap_Map_On : seatC.IP (seatC.F 146) = some (c_smap_Map_On seatC.F seatC.Ty) := by kernel_rfl
theorem has_smap_Map_On_F1 : seatC.IP (seatC.F 147) = some (c_smap_Map_On_F1 seatC.F seatC.Ty) := by kernel_rfl
theorem has_slices_Clone_int_int : seatC.IP (seatC.F 153) = some (c_slices_Clone_int_int seatC.F seatC.Ty) := by kernel_rfl
theorem has_slices_Contains_int_int : seatC.IP (seatC.F 154) = some (c_slices_Contains_int_int seatC.F seatC.Ty) := by kernel_rfl
theorem seatHasSmap : HasSmap seatC := ⟨has_smap_New, has_smap_may, has_smap_group, has_smap_Map_Begin, has_smap_Map_at, has_smap_Map_Commit, has_smap_Map_Free, has_smap_Map_which, has_smap_Map_Move, has_smap_Map_Get, has_smap_Map_List, has_smap_Map_List_F1, has_smap_Map_On, has_smap_Map_On_F1, has_slices_Clone_int_int, has_slices_Index_int_int, has_slices_Contains_int_int⟩
theorem has_usage_New : seatC.IP (seatC.F 237) = some (c_usage_New seatC.F seatC.Ty) := by kernel_rfl
theorem has_usage_Usage_find : seatC.IP (seatC.F 238) = some (c_usage_Usage_find seatC.F seatC.Ty) := by kernel_rfl
theorem has_usage_Usage_find_F1 : seatC.IP (seatC.F 239) = some (c_usage_Usage_find_F1 seatC.F seatC.Ty) := by kernel_rfl
theorem has_usage_may : seatC.IP (seatC.F 240) = some (c_usage_may seatC.F seatC.Ty) := by kernel_rfl
theorem has_usage_errno : seatC.IP (seatC.F 241) = some (c_usage_errno seatC.F seatC.Ty) := by kernel_rfl
theorem has_usage_Usage_add : seatC.IP (seatC.F 242) = some (c_usage_Usage_add seatC.F seatC.Ty) := by kernel_rfl
theorem has_usage_Usage_Add : seatC.IP (seatC.F 243) = some (c_usage_Usage_Add seatC.F seatC.Ty) := by kernel_rfl
theorem has_usage_Usage_dead : seatC.IP (seatC.F 244) = some (c_usage_Usage_dead seatC.F seatC.Ty) := by kernel_rfl
theorem has_usage_Usage_Dead : seatC.IP (seatC.F 245) = some (c_usage_Usage_Dead seatC.F seatC.Ty) := by kernel_rfl
theorem has_usage_Usage_Drop : seatC.IP (seatC.F 246) = some (c_usage_Usage_Drop seatC.F seatC.Ty) := by kernel_rfl
theorem has_slices_Insert_api_Use_api_Use : seatC.IP (seatC.F 252) = some (c_slices_Insert_api_Use_api_Use seatC.F seatC.Ty) := by kernel_rfl
theorem has_slices_Delete_api_Use_api_Use : seatC.IP (seatC.F 253) = some (c_slices_Delete_api_Use_api_Use seatC.F seatC.Ty) := by kernel_rfl
theorem has_slices_BinarySearchFunc_api_Use_api_Use_int : seatC.IP (seatC.F 255) = some (c_slices_BinarySearchFunc_api_Use_api_Use_int seatC.F seatC.Ty) := by kernel_rfl
theorem seatHasUse : HasUse seatC := ⟨has_usage_New, has_usage_Usage_find, has_usage_Usage_find_F1, has_usage_may, has_usage_errno, has_usage_Usage_add, has_usage_Usage_Add, has_usage_Usage_dead, has_usage_Usage_Dead, has_usage_Usage_Drop, has_slices_Insert_api_Use_api_Use, has_slices_Delete_api_Use_api_Use, has_slices_BinarySearchFunc_api_Use_api_Use_int⟩
theorem has_replies_New : seatC.IP (seatC.F 375) = some (c_replies_New seatC.F seatC.Ty) := by kernel_rfl
theorem has_replies_may : seatC.IP (seatC.F 376) = some (c_replies_may seatC.F seatC.Ty) := by kernel_rfl
theorem has_replies_Replies_find : seatC.IP (seatC.F 377) = some (c_replies_Replies_find seatC.F seatC.Ty) := by kernel_rfl
theorem has_replies_Replies_find_F1 : seatC.IP (seatC.F 378) = some (c_replies_Replies_find_F1 seatC.F seatC.Ty) := by kernel_rfl
theorem has_replies_Replies_Take : seatC.IP (seatC.F 379) = some (c_replies_Replies_Take seatC.F seatC.Ty) := by kernel_rfl
theorem has_replies_Replies_Put : seatC.IP (seatC.F 380) = some (c_replies_Replies_Put seatC.F seatC.Ty) := by kernel_rfl
theorem has_slices_Insert_replies_entry_replies_entry : seatC.IP (seatC.F 381) = some (c_slices_Insert_replies_entry_replies_entry seatC.F seatC.Ty) := by kernel_rfl
theorem has_slices_BinarySearchFunc_replies_entry_replies_entry_int : seatC.IP (seatC.F 382) = some (c_slices_BinarySearchFunc_replies_entry_replies_entry_int seatC.F seatC.Ty) := by kernel_rfl
theorem seatHasRepl28 : HasRepl28 seatC := ⟨has_replies_New, has_replies_may, has_replies_Replies_find, has_replies_Replies_find_F1, has_replies_Replies_Take, has_replies_Replies_Put, has_slices_Insert_replies_entry_replies_entry, has_slices_BinarySearchFunc_replies_entry_replies_entry_int⟩
theorem has_imap_New : seatC.IP (seatC.F 385) = some (c_imap_New seatC.F seatC.Ty) := by kernel_rfl
theorem has_imap_may : seatC.IP (seatC.F 386) = some (c_imap_may seatC.F seatC.Ty) := by kernel_rfl
theorem has_imap_spot : seatC.IP (seatC.F 387) = some (c_imap_spot seatC.F seatC.Ty) := by kernel_rfl
theorem has_imap_Map_Get : seatC.IP (seatC.F 388) = some (c_imap_Map_Get seatC.F seatC.Ty) := by kernel_rfl
theorem has_imap_Map_Move : seatC.IP (seatC.F 389) = some (c_imap_Map_Move seatC.F seatC.Ty) := by kernel_rfl
theorem has_lease_New : seatC.IP (seatC.F 390) = some (c_lease_New seatC.F seatC.Ty) := by kernel_rfl
theorem has_lease_Leases_Grant : seatC.IP (seatC.F 391) = some (c_lease_Leases_Grant seatC.F seatC.Ty) := by kernel_rfl
theorem has_lease_Leases_Drop : seatC.IP (seatC.F 392) = some (c_lease_Leases_Drop seatC.F seatC.Ty) := by kernel_rfl
theorem seatHasImap28 : HasImap28 seatC := ⟨has_imap_New, has_imap_may, has_imap_spot, has_imap_Map_Get, has_imap_Map_Move, has_lease_New, has_lease_Leases_Grant, has_lease_Leases_Drop⟩
theorem has_manager_New : seatC.IP (seatC.F 393) = some (c_manager_New seatC.F seatC.Ty) := by kernel_rfl
theorem has_manager_ints : seatC.IP (seatC.F 394) = some (c_manager_ints seatC.F seatC.Ty) := by kernel_rfl
theorem has_manager_Encode : seatC.IP (seatC.F 395) = some (c_manager_Encode seatC.F seatC.Ty) := by kernel_rfl
theorem has_manager_Decode : seatC.IP (seatC.F 396) = some (c_manager_Decode seatC.F seatC.Ty) := by kernel_rfl
theorem has_manager_answer : seatC.IP (seatC.F 397) = some (c_manager_answer seatC.F seatC.Ty) := by kernel_rfl
theorem has_manager_Answer : seatC.IP (seatC.F 398) = some (c_manager_Answer seatC.F seatC.Ty) := by kernel_rfl
theorem has_manager_does : seatC.IP (seatC.F 399) = some (c_manager_does seatC.F seatC.Ty) := by kernel_rfl
theorem has_manager_Manager_Do : seatC.IP (seatC.F 400) = some (c_manager_Manager_Do seatC.F seatC.Ty) := by kernel_rfl
theorem has_manager_Manager_Stripe : seatC.IP (seatC.F 401) = some (c_manager_Manager_Stripe seatC.F seatC.Ty) := by kernel_rfl
theorem has_manager_Manager_Spot : seatC.IP (seatC.F 402) = some (c_manager_Manager_Spot seatC.F seatC.Ty) := by kernel_rfl
theorem has_manager_Manager_Servers : seatC.IP (seatC.F 403) = some (c_manager_Manager_Servers seatC.F seatC.Ty) := by kernel_rfl
theorem has_manager_Manager_Epoch : seatC.IP (seatC.F 404) = some (c_manager_Manager_Epoch seatC.F seatC.Ty) := by kernel_rfl
theorem has_manager_Manager_Stripes : seatC.IP (seatC.F 405) = some (c_manager_Manager_Stripes seatC.F seatC.Ty) := by kernel_rfl
theorem has_manager_Manager_begin : seatC.IP (seatC.F 406) = some (c_manager_Manager_begin seatC.F seatC.Ty) := by kernel_rfl
theorem has_manager_Manager_commit : seatC.IP (seatC.F 407) = some (c_manager_Manager_commit seatC.F seatC.Ty) := by kernel_rfl
theorem has_manager_Manager_free : seatC.IP (seatC.F 408) = some (c_manager_Manager_free seatC.F seatC.Ty) := by kernel_rfl
theorem has_manager_Manager_move : seatC.IP (seatC.F 409) = some (c_manager_Manager_move seatC.F seatC.Ty) := by kernel_rfl
theorem has_manager_Manager_fail : seatC.IP (seatC.F 410) = some (c_manager_Manager_fail seatC.F seatC.Ty) := by kernel_rfl
theorem has_manager_Manager_swap : seatC.IP (seatC.F 411) = some (c_manager_Manager_swap seatC.F seatC.Ty) := by kernel_rfl
theorem has_manager_Manager_close : seatC.IP (seatC.F 412) = some (c_manager_Manager_close seatC.F seatC.Ty) := by kernel_rfl
theorem has_manager_Manager_grant : seatC.IP (seatC.F 413) = some (c_manager_Manager_grant seatC.F seatC.Ty) := by kernel_rfl
theorem has_manager_Manager_drop : seatC.IP (seatC.F 414) = some (c_manager_Manager_drop seatC.F seatC.Ty) := by kernel_rfl
theorem seatHasMgr28 : HasMgr28 seatC := ⟨has_manager_New, has_manager_ints, has_manager_Encode, has_manager_Decode, has_manager_answer, has_manager_Answer, has_manager_does, has_manager_Manager_Do, has_manager_Manager_Stripe, has_manager_Manager_Spot, has_manager_Manager_Servers, has_manager_Manager_Epoch, has_manager_Manager_Stripes, has_manager_Manager_begin, has_manager_Manager_commit, has_manager_Manager_free, has_manager_Manager_move, has_manager_Manager_fail, has_manager_Manager_swap, has_manager_Manager_close, has_manager_Manager_grant, has_manager_Manager_drop⟩
theorem has_hurdleref28_Encode : seatC.IP (seatC.F 415) = some (c_hurdleref28_Encode seatC.F seatC.Ty) := by kernel_rfl
theorem has_hurdleref28_Decode : seatC.IP (seatC.F 416) = some (c_hurdleref28_Decode seatC.F seatC.Ty) := by kernel_rfl
theorem has_hurdleref28_Answer : seatC.IP (seatC.F 417) = some (c_hurdleref28_Answer seatC.F seatC.Ty) := by kernel_rfl
theorem has_hurdleref24_Same : seatC.IP (seatC.F 167) = some (c_hurdleref24_Same seatC.F seatC.Ty) := by kernel_rfl
theorem has_hurdlelaw23_Few : seatC.IP (seatC.F 129) = some (c_hurdlelaw23_Few seatC.F seatC.Ty) := by kernel_rfl
theorem has_hurdlelaw28_ManagerBytes : seatC.IP (seatC.F 418) = some (c_hurdlelaw28_ManagerBytes seatC.F seatC.Ty) := by kernel_rfl
theorem has_hurdlelaw28_ManagerAlike : seatC.IP (seatC.F 419) = some (c_hurdlelaw28_ManagerAlike seatC.F seatC.Ty) := by kernel_rfl
theorem has_hurdlelaw28_ManagerFences : seatC.IP (seatC.F 420) = some (c_hurdlelaw28_ManagerFences seatC.F seatC.Ty) := by kernel_rfl
theorem has_hurdlelaw28_ManagerNone : seatC.IP (seatC.F 421) = some (c_hurdlelaw28_ManagerNone seatC.F seatC.Ty) := by kernel_rfl
theorem has_hurdlelaw28_awake : seatC.IP (seatC.F 422) = some (c_hurdlelaw28_awake seatC.F seatC.Ty) := by kernel_rfl
theorem has_hurdlelaw28_few : seatC.IP (seatC.F 423) = some (c_hurdlelaw28_few seatC.F seatC.Ty) := by kernel_rfl
theorem has_hurdlelaw28_bytes : seatC.IP (seatC.F 424) = some (c_hurdlelaw28_bytes seatC.F seatC.Ty) := by kernel_rfl
theorem has_hurdlelaw28_text : seatC.IP (seatC.F 425) = some (c_hurdlelaw28_text seatC.F seatC.Ty) := by kernel_rfl
theorem seatHasLaw28 : HasLaw28 seatC := ⟨has_hurdleref28_Encode, has_hurdleref28_Decode, has_hurdleref28_Answer, has_hurdleref24_Same, has_hurdlelaw23_Few, has_hurdlelaw28_ManagerBytes, has_hurdlelaw28_ManagerAlike, has_hurdlelaw28_ManagerFences, has_hurdlelaw28_ManagerNone, has_hurdlelaw28_awake, has_hurdlelaw28_few, has_hurdlelaw28_bytes, has_hurdlelaw28_text⟩
theorem seatMixed : Tryz.prog.follows .mixedOrders = true := by kernel_rfl
theorem seatHasUse0 : HasUse seatC0 := ⟨has_usage_New, has_usage_Usage_find, has_usage_Usage_find_F1, has_usage_may, has_usage_errno, has_usage_Usage_add, has_usage_Usage_Add, has_usage_Usage_dead, has_usage_Usage_Dead, has_usage_Usage_Drop, has_slices_Insert_api_Use_api_Use, has_slices_Delete_api_Use_api_Use, has_slices_BinarySearchFunc_api_Use_api_Use_int⟩
theorem seatHasRepl0 : HasRepl28 seatC0 := ⟨has_replies_New, has_replies_may, has_replies_Replies_find, has_replies_Replies_find_F1, has_replies_Replies_Take, has_replies_Replies_Put, has_slices_Insert_replies_entry_replies_entry, has_slices_BinarySearchFunc_replies_entry_replies_entry_int⟩
theorem seatOver : CSim Tryz.prog (orX (overX 126) (overX 90)) := orX_sim (overX_sim (fn := Tryz.f126) (tS := 133) (tR := 4) (e := 181) (size := 4) (by kernel_rfl) (by kernel_rfl) (by kernel_rfl) (by kernel_rfl) (by kernel_rfl) (by kernel_rfl) (by kernel_rfl)) (overX_sim (fn := Tryz.f90) (tS := 146) (tR := 4) (e := 148) (size := 3) (by kernel_rfl) (by kernel_rfl) (by kernel_rfl) (by kernel_rfl) (by kernel_rfl) (by kernel_rfl) (by kernel_rfl))
theorem seatIs : CSim Tryz.prog (isX 119 193) := isX_sim Go.Proofs.YtndndcdblfejnaaGreatRU.is_enter Go.Proofs.YtndndcdblfejnaaGreatRU.is_nil fun _ he w => Go.Proofs.YtndndcdblfejnaaGreatRU.is_fault he w
set_option maxRecDepth 100000 in
theorem seatSim0 : CSim Tryz.prog seatC0.C := sim_call2 seatMixed (fun _ _ h => h) seatOver (orX_mono (overX_mono _) (overX_mono _))
set_option maxRecDepth 100000 in
theorem seatSim : CSim Tryz.prog seatC.C := sim_call2 seatMixed (fun _ _ h => h) (orX_sim seatIs (orX_sim (wholeX_sim (code := c_slices_Insert_api_Use_api_Use seatF seatTy) seatSim0 has_slices_Insert_api_Use_api_Use (by omega)) (wholeO_sim (code := c_slices_Insert_replies_entry_replies_entry seatF seatTy) seatSim0 has_slices_Insert_replies_entry_replies_entry (by omega)))) (orX_mono (isX_mono _ _) (orX_mono (wholeX_mono seatC0.mono _ _) (wholeO_mono seatC0.mono _ _)))
theorem seatInsOk : InsOkT seatC := fun H K q vb i u rows new h1 h2 h3 h4 h5 h6 h7 h8 h9 h10 hK =>
 Ins_ok seatC seatC0 seatHasUse0
 (fun H K b1 o1 n1 c1 b2 o2 n2 c2 cs1 cs2 q1 q2 q3 q4 q5 q6 q7 q8 => ICall.ext (.inl ⟨rfl, b1, o1, n1, c1, b2, o2, n2, c2, cs1, cs2, rfl, q1, q2, q3, q4, q5, q6, q7, q8⟩))
 (fun s r H K h => ICall.ext (.inr (.inl ⟨rfl, s, r, rfl, h⟩))) h1 h2 h3 h4 h5 h6 h7 h8 h9 h10 hK
theorem seatInsOkE : InsOkE seatC := InsE_ok seatC seatC0 seatHasRepl0
 (fun H K b1 o1 n1 c1 b2 o2 n2 c2 cs1 cs2 q1 q2 q3 q4 q5 q6 q7 q8 => ICall.ext (.inr ⟨rfl, b1, o1, n1, c1, b2, o2, n2, c2, cs1, cs2, rfl, q1, q2, q3, q4, q5, q6, q7, q8⟩))
 (fun s r H K h => ICall.ext (.inr (.inr ⟨rfl, s, r, rfl, h⟩)))
theorem seatIsErr : IsErr seatC := fun H K => ⟨fun z h => ICall.ext (.inl ⟨rfl, .inl ⟨z, rfl, h⟩⟩), fun e he h => ICall.ext (.inl ⟨rfl, .inr ⟨e, he, rfl, h⟩⟩)⟩
theorem seatKI : KeyOf seatC.P (seatC.Ty 2) kI := keyOf_int (k := .i64) (by kernel_rfl)
theorem seatMg : MgC seatC := ⟨seatHasMembers, seatHasSmap, seatHasUse, seatIsErr, seatInsOk, seatHasRepl28, seatInsOkE, seatKI, seatHasImap28, seatHasCodec, seatHasMgr28⟩
theorem seatAw (H : IHeap) (K : Value → IHeap → Prop) (h : ∀ H', K (.bool true) H') : seatC.C (seatC.F n_hurdlelaw28_awake) [] H K := awake28 seatC seatMg seatHasLaw28 seatHasRef01 h

end Go.Proofs.YtndndcdblfejnaaGreatRI
