/- PRINTED by gen.py: the seat's own numbers; the context; that it has the functions. -/
import Derived.Test.YtfegliplajdgmaaRows
import Derived.KernelRfl
import Derived.Test.YtfegliplajdgmaaDirT
import Derived.Test.YtfegliplajdgmaaIdxX
import Derived.Test.YtfegliplajdgmaaDecode37
namespace Go.Proofs.YtfegliplajdgmaaI
set_option linter.unusedSimpArgs false
set_option linter.unusedVariables false
open Go

def seatF : Nat → FuncId := fun i => [0, 0, 0, 0, 0, 0, 0, 0, 0, 0, 0, 0, 0, 0, 0, 0, 0, 0, 0, 0, 0, 0, 0, 0, 0, 0, 37, 0, 40, 38, 41, 31, 0, 33, 32, 34, 39, 0, 0, 0, 57, 55, 56, 50, 0, 52, 53, 54, 51, 77, 0, 0, 0, 0, 0, 0, 44, 0, 0, 36, 0, 0, 35, 0, 43, 0, 0, 42, 58, 0, 19, 0, 0, 0, 0, 0, 0, 0, 0, 0, 0, 0, 0, 0, 0, 0, 0, 0, 0, 0, 0, 0, 0, 0, 0, 0, 0, 0, 0, 0, 0, 0, 0, 0, 0, 0, 0, 0, 0, 0, 0, 0, 0, 0, 0, 0, 0, 0, 0, 0, 0, 0, 0, 0, 0, 0, 0, 0, 0, 0, 0, 0, 0, 0, 0, 0, 0, 0, 0, 0, 0, 0, 0, 0, 0, 0, 0, 0, 0, 0, 0, 0, 0, 0, 0, 0, 0, 0, 0, 0, 0, 0, 0, 0, 0, 0, 0, 0, 0, 0, 0, 0, 0, 0, 0, 0, 0, 0, 0, 0, 0, 0, 0, 0, 0, 0, 0, 0, 0, 0, 0, 0, 0, 0, 0, 0, 0, 0, 0, 0, 0, 0, 0, 0, 9, 27, 46, 45, 17, 30, 49, 11, 13, 14, 20, 16, 22, 24, 28, 29, 60, 47, 48, 18, 26, 10, 15, 12, 21, 23, 25, 3, 4, 5, 6, 7, 8].getD i 0
def seatTy : Nat → TypeId := fun i => [0, 0, 0, 0, 0, 0].getD i 0
noncomputable def seatC0 : Ctx := ⟨Try.prog, compFunc2 Try.prog, overX 47, seatF, seatTy, overX_mono _⟩
noncomputable def seatC : Ctx := ⟨Try.prog, compFunc2 Try.prog, orX (idxX 60) (wholeX seatC0.C 28 2), seatF, seatTy, orX_mono (idxX_mono _) (wholeX_mono seatC0.mono _ _)⟩
theorem has_codec_NewReader : seatC.IP (seatC.F 26) = some (c_codec_NewReader seatC.F seatC.Ty) := by kernel_rfl
theorem has_codec_Reader_Text : seatC.IP (seatC.F 28) = some (c_codec_Reader_Text seatC.F seatC.Ty) := by kernel_rfl
theorem has_codec_Reader_Int : seatC.IP (seatC.F 29) = some (c_codec_Reader_Int seatC.F seatC.Ty) := by kernel_rfl
theorem has_codec_Reader_Done : seatC.IP (seatC.F 30) = some (c_codec_Reader_Done seatC.F seatC.Ty) := by kernel_rfl
theorem has_codec_NewWriter : seatC.IP (seatC.F 31) = some (c_codec_NewWriter seatC.F seatC.Ty) := by kernel_rfl
theorem has_codec_Writer_Text : seatC.IP (seatC.F 33) = some (c_codec_Writer_Text seatC.F seatC.Ty) := by kernel_rfl
theorem has_codec_Writer_Int : seatC.IP (seatC.F 34) = some (c_codec_Writer_Int seatC.F seatC.Ty) := by kernel_rfl
theorem has_codec_Writer_Done : seatC.IP (seatC.F 35) = some (c_codec_Writer_Done seatC.F seatC.Ty) := by kernel_rfl
theorem has_codec_Reader_Left : seatC.IP (seatC.F 36) = some (c_codec_Reader_Left seatC.F seatC.Ty) := by kernel_rfl
theorem has_codec_Reader_take : seatC.IP (seatC.F 40) = some (c_codec_Reader_take seatC.F seatC.Ty) := by kernel_rfl
theorem has_codec_groups : seatC.IP (seatC.F 41) = some (c_codec_groups seatC.F seatC.Ty) := by kernel_rfl
theorem has_codec_Reader_fail : seatC.IP (seatC.F 42) = some (c_codec_Reader_fail seatC.F seatC.Ty) := by kernel_rfl
theorem has_codec_Writer_lay : seatC.IP (seatC.F 43) = some (c_codec_Writer_lay seatC.F seatC.Ty) := by kernel_rfl
theorem has_codec_number : seatC.IP (seatC.F 45) = some (c_codec_number seatC.F seatC.Ty) := by kernel_rfl
theorem has_codec_Writer_Text_F1 : seatC.IP (seatC.F 46) = some (c_codec_Writer_Text_F1 seatC.F seatC.Ty) := by kernel_rfl
theorem has_codec_text : seatC.IP (seatC.F 47) = some (c_codec_text seatC.F seatC.Ty) := by kernel_rfl
theorem has_codec_Writer_Int_F1 : seatC.IP (seatC.F 48) = some (c_codec_Writer_Int_F1 seatC.F seatC.Ty) := by kernel_rfl
theorem seatHasCodec : HasCodec seatC := ⟨has_codec_NewReader, has_codec_Reader_Text, has_codec_Reader_Int, has_codec_Reader_Done, has_codec_NewWriter, has_codec_Writer_Text, has_codec_Writer_Int, has_codec_Writer_Done, has_codec_Reader_Left, has_codec_Reader_take, has_codec_groups, has_codec_Reader_fail, has_codec_Writer_lay, has_codec_number, has_codec_Writer_Text_F1, has_codec_text, has_codec_Writer_Int_F1⟩
theorem has_hurdleref03_End : seatC.IP (seatC.F 56) = some (c_hurdleref03_End seatC.F seatC.Ty) := by kernel_rfl
theorem has_hurdleref03_Text : seatC.IP (seatC.F 59) = some (c_hurdleref03_Text seatC.F seatC.Ty) := by kernel_rfl
theorem has_hurdleref03_Int : seatC.IP (seatC.F 62) = some (c_hurdleref03_Int seatC.F seatC.Ty) := by kernel_rfl
theorem has_hurdleref03_TakeText : seatC.IP (seatC.F 64) = some (c_hurdleref03_TakeText seatC.F seatC.Ty) := by kernel_rfl
theorem has_hurdleref03_TakeInt : seatC.IP (seatC.F 67) = some (c_hurdleref03_TakeInt seatC.F seatC.Ty) := by kernel_rfl
theorem has_hurdleref03_bad : seatC.IP (seatC.F 68) = some (c_hurdleref03_bad seatC.F seatC.Ty) := by kernel_rfl
theorem seatHasRef03 : HasRef03 seatC := ⟨has_hurdleref03_End, has_hurdleref03_Text, has_hurdleref03_Int, has_hurdleref03_TakeText, has_hurdleref03_TakeInt, has_hurdleref03_bad⟩
theorem has_hurdleref01_Texts : seatC.IP (seatC.F 70) = some (c_hurdleref01_Texts seatC.F seatC.Ty) := by kernel_rfl
theorem seatHasRef01 : HasRef01 seatC := ⟨has_hurdleref01_Texts⟩
theorem has_dirs_New : seatC.IP (seatC.F 204) = some (c_dirs_New seatC.F seatC.Ty) := by kernel_rfl
theorem has_dirs_Dir_find : seatC.IP (seatC.F 205) = some (c_dirs_Dir_find seatC.F seatC.Ty) := by kernel_rfl
theorem has_dirs_Dir_find_F1 : seatC.IP (seatC.F 206) = some (c_dirs_Dir_find_F1 seatC.F seatC.Ty) := by kernel_rfl
theorem has_dirs_search_dirs_entry_string : seatC.IP (seatC.F 207) = some (c_dirs_search_dirs_entry_string seatC.F seatC.Ty) := by kernel_rfl
theorem has_dirs_Name : seatC.IP (seatC.F 208) = some (c_dirs_Name seatC.F seatC.Ty) := by kernel_rfl
theorem has_strings_IndexByte : seatC.IP (seatC.F 209) = some (c_strings_IndexByte seatC.F seatC.Ty) := by kernel_rfl
theorem has_internal_stringslite_IndexByte : seatC.IP (seatC.F 210) = some (c_internal_stringslite_IndexByte seatC.F seatC.Ty) := by kernel_rfl
theorem has_dirs_Dir_Add : seatC.IP (seatC.F 211) = some (c_dirs_Dir_Add seatC.F seatC.Ty) := by kernel_rfl
theorem has_dirs_Dir_Remove : seatC.IP (seatC.F 212) = some (c_dirs_Dir_Remove seatC.F seatC.Ty) := by kernel_rfl
theorem has_dirs_Dir_Look : seatC.IP (seatC.F 213) = some (c_dirs_Dir_Look seatC.F seatC.Ty) := by kernel_rfl
theorem has_dirs_Dir_List : seatC.IP (seatC.F 214) = some (c_dirs_Dir_List seatC.F seatC.Ty) := by kernel_rfl
theorem has_dirs_Dir_Len : seatC.IP (seatC.F 215) = some (c_dirs_Dir_Len seatC.F seatC.Ty) := by kernel_rfl
theorem has_dirs_Dir_Text : seatC.IP (seatC.F 216) = some (c_dirs_Dir_Text seatC.F seatC.Ty) := by kernel_rfl
theorem has_dirs_Read : seatC.IP (seatC.F 217) = some (c_dirs_Read seatC.F seatC.Ty) := by kernel_rfl
theorem has_slices_Insert_dirs_entry_dirs_entry : seatC.IP (seatC.F 218) = some (c_slices_Insert_dirs_entry_dirs_entry seatC.F seatC.Ty) := by kernel_rfl
theorem has_slices_Delete_dirs_entry_dirs_entry : seatC.IP (seatC.F 219) = some (c_slices_Delete_dirs_entry_dirs_entry seatC.F seatC.Ty) := by kernel_rfl
theorem seatHasDirs : HasDirs seatC := ⟨has_dirs_New, has_dirs_Dir_find, has_dirs_Dir_find_F1, has_dirs_search_dirs_entry_string, has_dirs_Name, has_strings_IndexByte, has_internal_stringslite_IndexByte, has_dirs_Dir_Add, has_dirs_Dir_Remove, has_dirs_Dir_Look, has_dirs_Dir_List, has_dirs_Dir_Len, has_dirs_Dir_Text, has_dirs_Read, has_slices_Insert_dirs_entry_dirs_entry, has_slices_Delete_dirs_entry_dirs_entry⟩
theorem has_hurdleref37_Name : seatC.IP (seatC.F 223) = some (c_hurdleref37_Name seatC.F seatC.Ty) := by kernel_rfl
theorem has_hurdleref37_find : seatC.IP (seatC.F 224) = some (c_hurdleref37_find seatC.F seatC.Ty) := by kernel_rfl
theorem has_hurdleref37_Add : seatC.IP (seatC.F 225) = some (c_hurdleref37_Add seatC.F seatC.Ty) := by kernel_rfl
theorem has_hurdleref37_Look : seatC.IP (seatC.F 226) = some (c_hurdleref37_Look seatC.F seatC.Ty) := by kernel_rfl
theorem has_hurdleref37_Remove : seatC.IP (seatC.F 227) = some (c_hurdleref37_Remove seatC.F seatC.Ty) := by kernel_rfl
theorem has_hurdleref37_Names : seatC.IP (seatC.F 228) = some (c_hurdleref37_Names seatC.F seatC.Ty) := by kernel_rfl
theorem has_hurdleref37_Text : seatC.IP (seatC.F 229) = some (c_hurdleref37_Text seatC.F seatC.Ty) := by kernel_rfl
theorem has_hurdleref37_Read : seatC.IP (seatC.F 230) = some (c_hurdleref37_Read seatC.F seatC.Ty) := by kernel_rfl
theorem seatHasRef37 : HasRef37 seatC := ⟨has_hurdleref37_Name, has_hurdleref37_find, has_hurdleref37_Add, has_hurdleref37_Look, has_hurdleref37_Remove, has_hurdleref37_Names, has_hurdleref37_Text, has_hurdleref37_Read⟩
theorem has_hurdlelaw37_DirsPlays : seatC.IP (seatC.F 231) = some (c_hurdlelaw37_DirsPlays seatC.F seatC.Ty) := by kernel_rfl
theorem has_hurdlelaw37_DirsReads : seatC.IP (seatC.F 232) = some (c_hurdlelaw37_DirsReads seatC.F seatC.Ty) := by kernel_rfl
theorem has_hurdlelaw37_DirsBack : seatC.IP (seatC.F 233) = some (c_hurdlelaw37_DirsBack seatC.F seatC.Ty) := by kernel_rfl
theorem has_hurdlelaw37_DirsNone : seatC.IP (seatC.F 234) = some (c_hurdlelaw37_DirsNone seatC.F seatC.Ty) := by kernel_rfl
theorem has_hurdlelaw37_few : seatC.IP (seatC.F 235) = some (c_hurdlelaw37_few seatC.F seatC.Ty) := by kernel_rfl
theorem has_hurdlelaw37_awake : seatC.IP (seatC.F 236) = some (c_hurdlelaw37_awake seatC.F seatC.Ty) := by kernel_rfl
theorem seatHasLaw37 : HasLaw37 seatC := ⟨has_hurdlelaw37_DirsPlays, has_hurdlelaw37_DirsReads, has_hurdlelaw37_DirsBack, has_hurdlelaw37_DirsNone, has_hurdlelaw37_few, has_hurdlelaw37_awake⟩
theorem seatMixed : Try.prog.follows .mixedOrders = true := by kernel_rfl
theorem seatHasDirs0 : HasDirs seatC0 := ⟨has_dirs_New, has_dirs_Dir_find, has_dirs_Dir_find_F1, has_dirs_search_dirs_entry_string, has_dirs_Name, has_strings_IndexByte, has_internal_stringslite_IndexByte, has_dirs_Dir_Add, has_dirs_Dir_Remove, has_dirs_Dir_Look, has_dirs_Dir_List, has_dirs_Dir_Len, has_dirs_Dir_Text, has_dirs_Read, has_slices_Insert_dirs_entry_dirs_entry, has_slices_Delete_dirs_entry_dirs_entry⟩
theorem seatOver : CSim Try.prog (overX 47) := overX_sim (fn := Try.f47) (tS := 52) (tR := 4) (e := 62) (size := 2) (by kernel_rfl) (by kernel_rfl) (by kernel_rfl) (by kernel_rfl) (by kernel_rfl) (by kernel_rfl) (by kernel_rfl)
theorem seatIdx : CSim Try.prog (idxX 60) := idxX_sim (fn := Try.f60) (by kernel_rfl) (by kernel_rfl) (by kernel_rfl) (by kernel_rfl) (by kernel_rfl)
theorem seatSim0 : CSim Try.prog seatC0.C := sim_call2 seatMixed (fun _ _ h => h) seatOver (overX_mono _)
set_option maxRecDepth 100000 in
theorem seatSim : CSim Try.prog seatC.C := sim_call2 seatMixed (fun _ _ h => h) (orX_sim seatIdx (wholeX_sim (code := c_slices_Insert_dirs_entry_dirs_entry seatF seatTy) seatSim0 has_slices_Insert_dirs_entry_dirs_entry (by omega))) (orX_mono (idxX_mono _) (wholeX_mono seatC0.mono _ _))
theorem seatInsOk : InsOk2 seatC := fun H K q vb i u rows new h1 h2 h3 h4 h5 h6 h7 h8 h9 h10 hK =>
 Ins_ok seatC seatC0 seatHasDirs0
 (fun H K b1 o1 n1 c1 b2 o2 n2 c2 cs1 cs2 q1 q2 q3 q4 q5 q6 q7 q8 => ICall.ext ⟨rfl, b1, o1, n1, c1, b2, o2, n2, c2, cs1, cs2, rfl, q1, q2, q3, q4, q5, q6, q7, q8⟩)
 (fun s r H K h => ICall.ext (.inr ⟨rfl, s, r, rfl, h⟩)) h1 h2 h3 h4 h5 h6 h7 h8 h9 h10 hK
theorem seatIdxOk : IdxOk seatC := fun t b H K h => ICall.ext (.inl ⟨rfl, t, b, rfl, h⟩)
theorem seatAw (H : IHeap) (K : Value → IHeap → Prop) (h : ∀ H', K (.bool true) H') : seatC.C (seatC.F n_hurdlelaw37_awake) [] H K := awake37 seatC seatHasDirs seatHasCodec seatIdxOk seatInsOk seatHasLaw37 h

end Go.Proofs.YtfegliplajdgmaaI
