/- PRINTED by gen.py: the seat's own numbers; the context; that it has the functions. -/
import Derived.Test.YtkbojgebfndbkaaRows
import Derived.KernelRfl
import Derived.Test.YtkbojgebfndbkaaPartLaw03
import Derived.Test.YtkbojgebfndbkaaDecode
namespace Go.Proofs.YtkbojgebfndbkaaI
set_option linter.unusedSimpArgs false
set_option linter.unusedVariables false
open Go

def seatF : Nat → FuncId := fun i => [0, 0, 0, 0, 0, 0, 0, 0, 0, 0, 0, 0, 0, 0, 0, 0, 0, 0, 0, 0, 0, 0, 0, 0, 0, 0, 9, 10, 11, 12, 13, 14, 15, 16, 17, 18, 25, 27, 30, 31, 32, 33, 34, 35, 36, 37, 38, 39, 40, 41, 42, 54, 55, 56, 20, 23, 26, 43, 44, 45, 46, 47, 48, 49, 50, 51, 52, 53, 57, 28, 29, 3, 4, 5, 6, 7, 8, 19, 21, 22, 24].getD i 0
def seatTy : Nat → TypeId := fun i => [0, 0].getD i 0
noncomputable def seatC : Ctx := ⟨Try.prog, compFunc2 Try.prog, closedX 8 (.bool true), seatF, seatTy, closedX_mono _ _⟩
theorem has_codec_NewReader : seatC.IP (seatC.F 26) = some (c_codec_NewReader seatC.F seatC.Ty) := by kernel_rfl
theorem has_codec_Reader_Ints : seatC.IP (seatC.F 27) = some (c_codec_Reader_Ints seatC.F seatC.Ty) := by kernel_rfl
theorem has_codec_Reader_Text : seatC.IP (seatC.F 28) = some (c_codec_Reader_Text seatC.F seatC.Ty) := by kernel_rfl
theorem has_codec_Reader_Int : seatC.IP (seatC.F 29) = some (c_codec_Reader_Int seatC.F seatC.Ty) := by kernel_rfl
theorem has_codec_Reader_Done : seatC.IP (seatC.F 30) = some (c_codec_Reader_Done seatC.F seatC.Ty) := by kernel_rfl
theorem has_codec_NewWriter : seatC.IP (seatC.F 31) = some (c_codec_NewWriter seatC.F seatC.Ty) := by kernel_rfl
theorem has_codec_Writer_Ints : seatC.IP (seatC.F 32) = some (c_codec_Writer_Ints seatC.F seatC.Ty) := by kernel_rfl
theorem has_codec_Writer_Text : seatC.IP (seatC.F 33) = some (c_codec_Writer_Text seatC.F seatC.Ty) := by kernel_rfl
theorem has_codec_Writer_Int : seatC.IP (seatC.F 34) = some (c_codec_Writer_Int seatC.F seatC.Ty) := by kernel_rfl
theorem has_codec_Writer_Done : seatC.IP (seatC.F 35) = some (c_codec_Writer_Done seatC.F seatC.Ty) := by kernel_rfl
theorem has_codec_Reader_Left : seatC.IP (seatC.F 36) = some (c_codec_Reader_Left seatC.F seatC.Ty) := by kernel_rfl
theorem has_codec_Reader_Byte : seatC.IP (seatC.F 37) = some (c_codec_Reader_Byte seatC.F seatC.Ty) := by kernel_rfl
theorem has_codec_Reader_Texts : seatC.IP (seatC.F 38) = some (c_codec_Reader_Texts seatC.F seatC.Ty) := by kernel_rfl
theorem has_codec_list_int : seatC.IP (seatC.F 39) = some (c_codec_list_int seatC.F seatC.Ty) := by kernel_rfl
theorem has_codec_Reader_take : seatC.IP (seatC.F 40) = some (c_codec_Reader_take seatC.F seatC.Ty) := by kernel_rfl
theorem has_codec_groups : seatC.IP (seatC.F 41) = some (c_codec_groups seatC.F seatC.Ty) := by kernel_rfl
theorem has_codec_Reader_fail : seatC.IP (seatC.F 42) = some (c_codec_Reader_fail seatC.F seatC.Ty) := by kernel_rfl
theorem has_codec_Writer_lay : seatC.IP (seatC.F 43) = some (c_codec_Writer_lay seatC.F seatC.Ty) := by kernel_rfl
theorem has_codec_Writer_Ints_F1 : seatC.IP (seatC.F 44) = some (c_codec_Writer_Ints_F1 seatC.F seatC.Ty) := by kernel_rfl
theorem has_codec_number : seatC.IP (seatC.F 45) = some (c_codec_number seatC.F seatC.Ty) := by kernel_rfl
theorem has_codec_Writer_Text_F1 : seatC.IP (seatC.F 46) = some (c_codec_Writer_Text_F1 seatC.F seatC.Ty) := by kernel_rfl
theorem has_codec_text : seatC.IP (seatC.F 47) = some (c_codec_text seatC.F seatC.Ty) := by kernel_rfl
theorem has_codec_Writer_Int_F1 : seatC.IP (seatC.F 48) = some (c_codec_Writer_Int_F1 seatC.F seatC.Ty) := by kernel_rfl
theorem has_codec_Writer_Byte : seatC.IP (seatC.F 49) = some (c_codec_Writer_Byte seatC.F seatC.Ty) := by kernel_rfl
theorem has_codec_Writer_Texts : seatC.IP (seatC.F 50) = some (c_codec_Writer_Texts seatC.F seatC.Ty) := by kernel_rfl
theorem has_codec_list_string : seatC.IP (seatC.F 51) = some (c_codec_list_string seatC.F seatC.Ty) := by kernel_rfl
theorem has_codec_Writer_Byte_F1 : seatC.IP (seatC.F 52) = some (c_codec_Writer_Byte_F1 seatC.F seatC.Ty) := by kernel_rfl
theorem has_codec_Writer_Texts_F1 : seatC.IP (seatC.F 53) = some (c_codec_Writer_Texts_F1 seatC.F seatC.Ty) := by kernel_rfl
theorem seatHasCodec : HasCodec seatC := ⟨has_codec_NewReader, has_codec_Reader_Ints, has_codec_Reader_Text, has_codec_Reader_Int, has_codec_Reader_Done, has_codec_NewWriter, has_codec_Writer_Ints, has_codec_Writer_Text, has_codec_Writer_Int, has_codec_Writer_Done, has_codec_Reader_Left, has_codec_Reader_Byte, has_codec_Reader_Texts, has_codec_list_int, has_codec_Reader_take, has_codec_groups, has_codec_Reader_fail, has_codec_Writer_lay, has_codec_Writer_Ints_F1, has_codec_number, has_codec_Writer_Text_F1, has_codec_text, has_codec_Writer_Int_F1, has_codec_Writer_Byte, has_codec_Writer_Texts, has_codec_list_string, has_codec_Writer_Byte_F1, has_codec_Writer_Texts_F1⟩
theorem has_hurdleref03_NewWriter : seatC.IP (seatC.F 54) = some (c_hurdleref03_NewWriter seatC.F seatC.Ty) := by kernel_rfl
theorem has_hurdleref03_Done : seatC.IP (seatC.F 55) = some (c_hurdleref03_Done seatC.F seatC.Ty) := by kernel_rfl
theorem has_hurdleref03_End : seatC.IP (seatC.F 56) = some (c_hurdleref03_End seatC.F seatC.Ty) := by kernel_rfl
theorem has_hurdleref03_Byte : seatC.IP (seatC.F 57) = some (c_hurdleref03_Byte seatC.F seatC.Ty) := by kernel_rfl
theorem has_hurdleref03_Lay : seatC.IP (seatC.F 58) = some (c_hurdleref03_Lay seatC.F seatC.Ty) := by kernel_rfl
theorem has_hurdleref03_Text : seatC.IP (seatC.F 59) = some (c_hurdleref03_Text seatC.F seatC.Ty) := by kernel_rfl
theorem has_hurdleref03_Ints : seatC.IP (seatC.F 60) = some (c_hurdleref03_Ints seatC.F seatC.Ty) := by kernel_rfl
theorem has_hurdleref03_Texts : seatC.IP (seatC.F 61) = some (c_hurdleref03_Texts seatC.F seatC.Ty) := by kernel_rfl
theorem has_hurdleref03_Int : seatC.IP (seatC.F 62) = some (c_hurdleref03_Int seatC.F seatC.Ty) := by kernel_rfl
theorem has_hurdleref03_TakeByte : seatC.IP (seatC.F 63) = some (c_hurdleref03_TakeByte seatC.F seatC.Ty) := by kernel_rfl
theorem has_hurdleref03_TakeText : seatC.IP (seatC.F 64) = some (c_hurdleref03_TakeText seatC.F seatC.Ty) := by kernel_rfl
theorem has_hurdleref03_TakeInts : seatC.IP (seatC.F 65) = some (c_hurdleref03_TakeInts seatC.F seatC.Ty) := by kernel_rfl
theorem has_hurdleref03_TakeTexts : seatC.IP (seatC.F 66) = some (c_hurdleref03_TakeTexts seatC.F seatC.Ty) := by kernel_rfl
theorem has_hurdleref03_TakeInt : seatC.IP (seatC.F 67) = some (c_hurdleref03_TakeInt seatC.F seatC.Ty) := by kernel_rfl
theorem has_hurdleref03_bad : seatC.IP (seatC.F 68) = some (c_hurdleref03_bad seatC.F seatC.Ty) := by kernel_rfl
theorem seatHasRef03 : HasRef03 seatC := ⟨has_hurdleref03_NewWriter, has_hurdleref03_Done, has_hurdleref03_End, has_hurdleref03_Byte, has_hurdleref03_Lay, has_hurdleref03_Text, has_hurdleref03_Ints, has_hurdleref03_Texts, has_hurdleref03_Int, has_hurdleref03_TakeByte, has_hurdleref03_TakeText, has_hurdleref03_TakeInts, has_hurdleref03_TakeTexts, has_hurdleref03_TakeInt, has_hurdleref03_bad⟩
theorem has_hurdleref01_Ints : seatC.IP (seatC.F 69) = some (c_hurdleref01_Ints seatC.F seatC.Ty) := by kernel_rfl
theorem has_hurdleref01_Texts : seatC.IP (seatC.F 70) = some (c_hurdleref01_Texts seatC.F seatC.Ty) := by kernel_rfl
theorem seatHasRef01 : HasRef01 seatC := ⟨has_hurdleref01_Ints, has_hurdleref01_Texts⟩
theorem has_hurdlelaw03_CodecOnly : seatC.IP (seatC.F 71) = some (c_hurdlelaw03_CodecOnly seatC.F seatC.Ty) := by kernel_rfl
theorem has_hurdlelaw03_CodecWrites : seatC.IP (seatC.F 72) = some (c_hurdlelaw03_CodecWrites seatC.F seatC.Ty) := by kernel_rfl
theorem has_hurdlelaw03_CodecReads : seatC.IP (seatC.F 73) = some (c_hurdlelaw03_CodecReads seatC.F seatC.Ty) := by kernel_rfl
theorem has_hurdlelaw03_CodecBack : seatC.IP (seatC.F 74) = some (c_hurdlelaw03_CodecBack seatC.F seatC.Ty) := by kernel_rfl
theorem has_hurdlelaw03_CodecNone : seatC.IP (seatC.F 75) = some (c_hurdlelaw03_CodecNone seatC.F seatC.Ty) := by kernel_rfl
theorem has_hurdlelaw03_awake : seatC.IP (seatC.F 76) = some (c_hurdlelaw03_awake seatC.F seatC.Ty) := by kernel_rfl
theorem has_hurdlelaw03_Few : seatC.IP (seatC.F 77) = some (c_hurdlelaw03_Few seatC.F seatC.Ty) := by kernel_rfl
theorem has_hurdlelaw03_lay : seatC.IP (seatC.F 78) = some (c_hurdlelaw03_lay seatC.F seatC.Ty) := by kernel_rfl
theorem has_hurdlelaw03_laid : seatC.IP (seatC.F 79) = some (c_hurdlelaw03_laid seatC.F seatC.Ty) := by kernel_rfl
theorem has_hurdlelaw03_same : seatC.IP (seatC.F 80) = some (c_hurdlelaw03_same seatC.F seatC.Ty) := by kernel_rfl
theorem seatHasLaw03 : HasLaw03 seatC := ⟨has_hurdlelaw03_CodecOnly, has_hurdlelaw03_CodecWrites, has_hurdlelaw03_CodecReads, has_hurdlelaw03_CodecBack, has_hurdlelaw03_CodecNone, has_hurdlelaw03_awake, has_hurdlelaw03_Few, has_hurdlelaw03_lay, has_hurdlelaw03_laid, has_hurdlelaw03_same⟩
theorem seatMixed : Try.prog.follows .mixedOrders = true := by kernel_rfl
theorem seatAwake : closedB Try.prog (compFunc2 Try.prog) 3000 8 (.bool true) = true := by kernel_rfl
theorem seatX : CSim Try.prog (closedX 8 (.bool true)) := closedX_sim seatMixed (fun _ _ h => h) rfl seatAwake
theorem seatSim : CSim Try.prog seatC.C := sim_call2 seatMixed (fun _ _ h => h) seatX (closedX_mono _ _)
theorem seatAw (H : IHeap) (K : Value → IHeap → Prop) (h : K (.bool true) H) : seatC.C (seatC.F n_hurdlelaw03_awake) [] H K := ICall.ext ⟨rfl, rfl, h⟩

end Go.Proofs.YtkbojgebfndbkaaI
