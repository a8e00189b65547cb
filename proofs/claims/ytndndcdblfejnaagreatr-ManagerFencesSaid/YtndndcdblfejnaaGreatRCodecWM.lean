/- PRINTED by gen.py (this session's own): the intermediate form of some functions, and a context's having them. / PRINTED by gen.py (this session's own): the intermediate form of some functions, and a context's having them. / PRINTED by gen.py (this session's own): the intermediate form of some functions, and a context's having them. / Numbers as bytes: plain laws. / Laying bytes: what each function does. -/
import Derived.Test.YtndndcdblfejnaaGreatRIdealZ
import Derived.Test.YtndndcdblfejnaaGreatRMaps
namespace Go.Proofs.YtndndcdblfejnaaGreatRI
set_option linter.unusedSimpArgs false
set_option linter.unusedVariables false
open Go

/-- hurdle/codec.NewReader -/
abbrev n_codec_NewReader : Nat := 26
/-- (*hurdle/codec.Reader).Ints -/
abbrev n_codec_Reader_Ints : Nat := 27
/-- (*hurdle/codec.Reader).Int -/
abbrev n_codec_Reader_Int : Nat := 29
/-- (*hurdle/codec.Reader).Done -/
abbrev n_codec_Reader_Done : Nat := 30
/-- hurdle/codec.NewWriter -/
abbrev n_codec_NewWriter : Nat := 31
/-- (*hurdle/codec.Writer).Ints -/
abbrev n_codec_Writer_Ints : Nat := 32
/-- (*hurdle/codec.Writer).Int -/
abbrev n_codec_Writer_Int : Nat := 34
/-- (*hurdle/codec.Writer).Done -/
abbrev n_codec_Writer_Done : Nat := 35
/-- (*hurdle/codec.Reader).Byte -/
abbrev n_codec_Reader_Byte : Nat := 37
/-- hurdle/codec.list[int] -/
abbrev n_codec_list_int : Nat := 39
/-- (*hurdle/codec.Reader).take -/
abbrev n_codec_Reader_take : Nat := 40
/-- hurdle/codec.groups -/
abbrev n_codec_groups : Nat := 41
/-- (*hurdle/codec.Reader).fail -/
abbrev n_codec_Reader_fail : Nat := 42
/-- (*hurdle/codec.Writer).lay -/
abbrev n_codec_Writer_lay : Nat := 43
/-- (*hurdle/codec.Writer).Ints$1 -/
abbrev n_codec_Writer_Ints_F1 : Nat := 44
/-- hurdle/codec.number -/
abbrev n_codec_number : Nat := 45
/-- (*hurdle/codec.Writer).Int$1 -/
abbrev n_codec_Writer_Int_F1 : Nat := 48
/-- (*hurdle/codec.Writer).Byte -/
abbrev n_codec_Writer_Byte : Nat := 49
/-- (*hurdle/codec.Writer).Byte$1 -/
abbrev n_codec_Writer_Byte_F1 : Nat := 52
/-- hurdle/codec.NewReader -/
def c_codec_NewReader (F : Nat → FuncId) (Ty : Nat → TypeId) : IFunc := ⟨6, [.tmp 2],
 .seq (.ops [⟨some 2, .move (.const (.pointer none)), none⟩])
 (.seq (.ops [⟨some 3, .move (.tmp 0), none⟩,
 ⟨some 4, .build [.string ⟨#[]⟩, .bool false] [((0, 1), .tmp 3)], none⟩,
 ⟨some 5, .box (.tmp 4), none⟩,
 ⟨some 2, .move (.tmp 5), none⟩])
 (.ret))⟩
/-- (*hurdle/codec.Reader).Ints -/
def c_codec_Reader_Ints (F : Nat → FuncId) (Ty : Nat → TypeId) : IFunc := ⟨9, [.tmp 2],
 .seq (.ops [⟨some 2, .move (.const (.slice none 0 0)), none⟩])
 (.seq (.ops [⟨some 4, .move (.tmp 0), none⟩,
 ⟨some 5, .mkFunc (F 29) [.tmp 4] [], none⟩,
 ⟨some 3, .move (.tmp 5), none⟩])
 (.seq (.ops [⟨some 6, .move (.tmp 0), none⟩,
 ⟨some 7, .move (.tmp 3), none⟩,
 ⟨some 8, .call (F 39) [.tmp 6, .tmp 7], none⟩,
 ⟨some 2, .move (.tmp 8), none⟩])
 (.ret)))⟩
/-- (*hurdle/codec.Reader).Int -/
def c_codec_Reader_Int (F : Nat → FuncId) (Ty : Nat → TypeId) : IFunc := ⟨30, [.tmp 2],
 .seq (.ops [⟨some 2, .move (.const (.int .i64 0)), none⟩])
 (.seq (.seq (.ops [⟨some 5, .move (.tmp 0), none⟩,
 ⟨some 6, .eqNil 0 false (.tmp 5), none⟩])
 (.cond (.tmp 6)
 (.seq (.ops [⟨some 2, .move (.const (.int .i64 0)), none⟩])
 (.ret))
 (.skip)))
 (.seq (.ops [⟨some 8, .move (.tmp 0), none⟩,
 ⟨some 9, .nilCheck (.tmp 8), none⟩,
 ⟨some 10, .fieldAddr 0 (.tmp 9), none⟩,
 ⟨some 11, .load1 (.tmp 10), none⟩,
 ⟨some 12, .call (F 41) [.tmp 11], none⟩,
 ⟨some 7, .move (.tmp 12), none⟩,
 ⟨some 13, .extract (.tmp 7) 0, none⟩,
 ⟨some 14, .extract (.tmp 7) 1, none⟩,
 ⟨some 3, .move (.tmp 13), none⟩,
 ⟨some 4, .move (.tmp 14), none⟩])
 (.seq (.seq (.ops [⟨some 15, .move (.tmp 4), none⟩,
 ⟨some 16, .bin .eql (.tmp 15) (.const (.int .i64 0)), none⟩])
 (.cond (.tmp 16)
 (.seq (.ops [⟨some 17, .move (.tmp 0), none⟩,
 ⟨some 18, .call (F 42) [.tmp 17], none⟩])
 (.seq (.ops [⟨some 2, .move (.const (.int .i64 0)), none⟩])
 (.ret)))
 (.skip)))
 (.seq (.ops [⟨some 19, .move (.tmp 0), none⟩,
 ⟨some 20, .move (.tmp 4), none⟩,
 ⟨some 21, .call (F 40) [.tmp 19, .tmp 20], none⟩])
 (.seq (.ops [⟨some 22, .move (.tmp 3), none⟩,
 ⟨some 23, .bin .shr (.tmp 22) (.const (.int .u64 1)), none⟩,
 ⟨some 24, .conv .i64 (.tmp 23), none⟩,
 ⟨some 25, .move (.tmp 3), none⟩,
 ⟨some 26, .bin .and (.tmp 25) (.const (.int .u64 1)), none⟩,
 ⟨some 27, .conv .i64 (.tmp 26), none⟩,
 ⟨some 28, .un .neg (.tmp 27), none⟩,
 ⟨some 29, .bin .xor (.tmp 24) (.tmp 28), none⟩,
 ⟨some 2, .move (.tmp 29), none⟩])
 (.ret))))))⟩
/-- (*hurdle/codec.Reader).Done -/
def c_codec_Reader_Done (F : Nat → FuncId) (Ty : Nat → TypeId) : IFunc := ⟨18, [.tmp 2],
 .seq (.ops [⟨some 2, .move (.const (.int .i64 0)), none⟩])
 (.seq (.block 0 (.seq (.ops [⟨some 4, .move (.tmp 0), none⟩,
 ⟨some 5, .eqNil 0 false (.tmp 4), none⟩,
 ⟨some 3, .move (.tmp 5), none⟩])
 (.cond (.tmp 3)
 (.seq (.ops [⟨some 2, .move (.const (.int .i64 1)), none⟩])
 (.ret))
 (.seq (.ops [⟨some 7, .move (.tmp 0), none⟩,
 ⟨some 8, .nilCheck (.tmp 7), none⟩,
 ⟨some 9, .fieldAddr 1 (.tmp 8), none⟩,
 ⟨some 10, .load1 (.tmp 9), none⟩,
 ⟨some 11, .move (.tmp 10), none⟩,
 ⟨some 12, .move (.tmp 0), some (11, false)⟩,
 ⟨some 13, .nilCheck (.tmp 12), some (11, false)⟩,
 ⟨some 14, .fieldAddr 0 (.tmp 13), some (11, false)⟩,
 ⟨some 15, .load1 (.tmp 14), some (11, false)⟩,
 ⟨some 16, .bin .neq (.tmp 15) (.const (.string ⟨#[]⟩)), some (11, false)⟩,
 ⟨some 17, .pick (.tmp 11) (.const (.bool true)) (.tmp 16), none⟩,
 ⟨some 6, .move (.tmp 17), none⟩])
 (.cond (.tmp 6)
 (.seq (.ops [⟨some 2, .move (.const (.int .i64 3)), none⟩])
 (.ret))
 (.skip))))))
 (.seq (.ops [⟨some 2, .move (.const (.int .i64 0)), none⟩])
 (.ret)))⟩
/-- hurdle/codec.NewWriter -/
def c_codec_NewWriter (F : Nat → FuncId) (Ty : Nat → TypeId) : IFunc := ⟨8, [.tmp 2],
 .seq (.ops [⟨some 2, .move (.const (.pointer none)), none⟩])
 (.seq (.ops [⟨some 3, .move (.tmp 0), none⟩,
 ⟨some 4, .mxn true (.tmp 3) (.const (.int .i64 0)), none⟩,
 ⟨some 5, .mxn false (.tmp 4) (.const (.int .i64 65536)), none⟩,
 ⟨some 6, .build [.int .i64 0, .slice none 0 0, .int .i64 0] [((0, 1), .tmp 5)], none⟩,
 ⟨some 7, .box (.tmp 6), none⟩,
 ⟨some 2, .move (.tmp 7), none⟩])
 (.ret))⟩
/-- (*hurdle/codec.Writer).Ints -/
def c_codec_Writer_Ints (F : Nat → FuncId) (Ty : Nat → TypeId) : IFunc := ⟨7, [],
 .seq (.ops [⟨some 3, .box (.tmp 1), none⟩])
 (.ops [⟨some 4, .move (.tmp 0), none⟩,
 ⟨some 5, .mkFunc (F 44) [] [.tmp 3], none⟩,
 ⟨some 6, .call (F 43) [.tmp 4, .tmp 5], none⟩])⟩
/-- (*hurdle/codec.Writer).Int -/
def c_codec_Writer_Int (F : Nat → FuncId) (Ty : Nat → TypeId) : IFunc := ⟨7, [],
 .seq (.ops [⟨some 3, .box (.tmp 1), none⟩])
 (.ops [⟨some 4, .move (.tmp 0), none⟩,
 ⟨some 5, .mkFunc (F 48) [] [.tmp 3], none⟩,
 ⟨some 6, .call (F 43) [.tmp 4, .tmp 5], none⟩])⟩
/-- (*hurdle/codec.Writer).Done -/
def c_codec_Writer_Done (F : Nat → FuncId) (Ty : Nat → TypeId) : IFunc := ⟨22, [.tmp 2, .tmp 3],
 .seq (.ops [⟨some 2, .move (.const (.string ⟨#[]⟩)), none⟩,
 ⟨some 3, .move (.const (.int .i64 0)), none⟩])
 (.seq (.block 0 (.seq (.ops [⟨some 5, .move (.tmp 0), none⟩,
 ⟨some 6, .eqNil 0 false (.tmp 5), none⟩,
 ⟨some 4, .move (.tmp 6), none⟩])
 (.cond (.tmp 4)
 (.seq (.ops [⟨some 2, .move (.const (.string ⟨#[]⟩)), none⟩,
 ⟨some 3, .move (.const (.int .i64 1)), none⟩])
 (.ret))
 (.seq (.ops [⟨some 8, .move (.tmp 0), none⟩,
 ⟨some 9, .nilCheck (.tmp 8), none⟩,
 ⟨some 10, .fieldAddr 2 (.tmp 9), none⟩,
 ⟨some 11, .load1 (.tmp 10), none⟩,
 ⟨some 12, .bin .neq (.tmp 11) (.const (.int .i64 0)), none⟩,
 ⟨some 7, .move (.tmp 12), none⟩])
 (.cond (.tmp 7)
 (.seq (.draw [(⟨some 13, .move (.tmp 0), none⟩, []),
 (⟨some 14, .nilCheck (.tmp 13), none⟩, []),
 (⟨some 15, .fieldAddr 2 (.tmp 14), none⟩, []),
 (⟨some 16, .load1 (.tmp 15), none⟩, []),
 (⟨some 2, .move (.const (.string ⟨#[]⟩)), none⟩, []),
 (⟨some 3, .move (.tmp 16), none⟩, [])])
 (.ret))
 (.skip))))))
 (.seq (.ops [⟨some 17, .move (.tmp 0), none⟩,
 ⟨some 18, .nilCheck (.tmp 17), none⟩,
 ⟨some 19, .fieldAddr 1 (.tmp 18), none⟩,
 ⟨some 20, .load1 (.tmp 19), none⟩,
 ⟨some 21, .bytesStr (.tmp 20), none⟩,
 ⟨some 2, .move (.tmp 21), none⟩,
 ⟨some 3, .move (.const (.int .i64 0)), none⟩])
 (.ret)))⟩
/-- (*hurdle/codec.Reader).Byte -/
def c_codec_Reader_Byte (F : Nat → FuncId) (Ty : Nat → TypeId) : IFunc := ⟨14, [.tmp 2],
 .seq (.ops [⟨some 2, .move (.const (.int .i64 0)), none⟩])
 (.seq (.seq (.ops [⟨some 6, .move (.tmp 0), none⟩,
 ⟨some 7, .call (F 40) [.tmp 6, .const (.int .i64 1)], none⟩,
 ⟨some 5, .move (.tmp 7), none⟩,
 ⟨some 8, .extract (.tmp 5) 0, none⟩,
 ⟨some 9, .extract (.tmp 5) 1, none⟩,
 ⟨some 3, .move (.tmp 8), none⟩,
 ⟨some 4, .move (.tmp 9), none⟩])
 (.seq (.ops [⟨some 10, .move (.tmp 4), none⟩])
 (.cond (.tmp 10)
 (.seq (.ops [⟨some 11, .move (.tmp 3), none⟩,
 ⟨some 12, .strIdx (.tmp 11) (.const (.int .i64 0)), none⟩,
 ⟨some 13, .conv .i64 (.tmp 12), none⟩,
 ⟨some 2, .move (.tmp 13), none⟩])
 (.ret))
 (.skip))))
 (.seq (.ops [⟨some 2, .move (.const (.int .i64 0)), none⟩])
 (.ret)))⟩
/-- hurdle/codec.list[int] -/
def c_codec_list_int (F : Nat → FuncId) (Ty : Nat → TypeId) : IFunc := ⟨40, [.tmp 4],
 .seq (.ops [⟨some 4, .move (.const (.slice none 0 0)), none⟩])
 (.seq (.ops [⟨some 7, .move (.tmp 0), none⟩,
 ⟨some 8, .call (F 29) [.tmp 7], none⟩,
 ⟨some 5, .move (.tmp 8), none⟩])
 (.seq (.seq (.ops [⟨some 9, .move (.tmp 0), none⟩,
 ⟨some 10, .eqNil 0 false (.tmp 9), none⟩,
 ⟨some 11, .move (.tmp 10), none⟩,
 ⟨some 12, .move (.tmp 5), some (11, false)⟩,
 ⟨some 13, .bin .lss (.tmp 12) (.const (.int .i64 0)), some (11, false)⟩,
 ⟨some 14, .pick (.tmp 11) (.const (.bool true)) (.tmp 13), none⟩,
 ⟨some 15, .move (.tmp 14), none⟩,
 ⟨some 16, .move (.tmp 5), some (15, false)⟩,
 ⟨some 17, .move (.tmp 0), some (15, false)⟩,
 ⟨some 18, .nilCheck (.tmp 17), some (15, false)⟩,
 ⟨some 19, .fieldAddr 0 (.tmp 18), some (15, false)⟩,
 ⟨some 20, .load1 (.tmp 19), some (15, false)⟩,
 ⟨some 21, .strLen (.tmp 20), some (15, false)⟩,
 ⟨some 22, .bin .gtr (.tmp 16) (.tmp 21), some (15, false)⟩,
 ⟨some 23, .pick (.tmp 15) (.const (.bool true)) (.tmp 22), none⟩])
 (.cond (.tmp 23)
 (.seq (.ops [⟨some 24, .move (.tmp 0), none⟩,
 ⟨some 25, .call (F 42) [.tmp 24], none⟩])
 (.seq (.ops [⟨some 4, .move (.const (.slice none 0 0)), none⟩])
 (.ret)))
 (.skip)))
 (.seq (.ops [⟨some 6, .move (.const (.slice none 0 0)), none⟩])
 (.seq (.seq (.ops [⟨some 26, .move (.tmp 5), none⟩,
 ⟨some 27, .move (.const (.int .i64 0)), none⟩])
 (.block 0 (.loop (.seq (.ops [⟨some 28, .bin .lss (.tmp 27) (.tmp 26), none⟩])
 (.seq (.cond (.tmp 28)
 (.skip)
 (.exit 0))
 (.seq (.block 1 (.seq (.ops [⟨some 29, .move (.tmp 6), none⟩,
 ⟨some 30, .move (.tmp 1), none⟩,
 ⟨some 31, .callDyn (.tmp 30) [], none⟩,
 ⟨some 32, .buildSlice 1 [.int .i64 0] [((0, 1), .tmp 31)], none⟩,
 ⟨some 33, .append 1 8 (.tmp 29) (.tmp 32), none⟩,
 ⟨some 6, .move (.tmp 33), none⟩])
 (.seq (.ops [⟨some 34, .move (.tmp 0), none⟩,
 ⟨some 35, .nilCheck (.tmp 34), none⟩,
 ⟨some 36, .fieldAddr 1 (.tmp 35), none⟩,
 ⟨some 37, .load1 (.tmp 36), none⟩])
 (.cond (.tmp 37)
 (.seq (.ops [⟨some 4, .move (.const (.slice none 0 0)), none⟩])
 (.ret))
 (.skip)))))
 (.ops [⟨some 38, .bin .add (.tmp 27) (.const (.int .i64 1)), none⟩,
 ⟨some 27, .move (.tmp 38), none⟩])))))))
 (.seq (.ops [⟨some 39, .move (.tmp 6), none⟩,
 ⟨some 4, .move (.tmp 39), none⟩])
 (.ret))))))⟩
/-- (*hurdle/codec.Reader).take -/
def c_codec_Reader_take (F : Nat → FuncId) (Ty : Nat → TypeId) : IFunc := ⟨46, [.tmp 4, .tmp 5],
 .seq (.ops [⟨some 4, .move (.const (.string ⟨#[]⟩)), none⟩,
 ⟨some 5, .move (.const (.bool false)), none⟩])
 (.seq (.seq (.ops [⟨some 7, .move (.tmp 0), none⟩,
 ⟨some 8, .eqNil 0 false (.tmp 7), none⟩,
 ⟨some 9, .move (.tmp 8), none⟩,
 ⟨some 10, .move (.tmp 0), some (9, false)⟩,
 ⟨some 11, .nilCheck (.tmp 10), some (9, false)⟩,
 ⟨some 12, .fieldAddr 1 (.tmp 11), some (9, false)⟩,
 ⟨some 13, .load1 (.tmp 12), some (9, false)⟩,
 ⟨some 14, .pick (.tmp 9) (.const (.bool true)) (.tmp 13), none⟩,
 ⟨some 15, .move (.tmp 14), none⟩,
 ⟨some 16, .move (.tmp 1), some (15, false)⟩,
 ⟨some 17, .bin .lss (.tmp 16) (.const (.int .i64 0)), some (15, false)⟩,
 ⟨some 18, .pick (.tmp 15) (.const (.bool true)) (.tmp 17), none⟩,
 ⟨some 19, .move (.tmp 18), none⟩,
 ⟨some 20, .move (.tmp 1), some (19, false)⟩,
 ⟨some 21, .move (.tmp 0), some (19, false)⟩,
 ⟨some 22, .nilCheck (.tmp 21), some (19, false)⟩,
 ⟨some 23, .fieldAddr 0 (.tmp 22), some (19, false)⟩,
 ⟨some 24, .load1 (.tmp 23), some (19, false)⟩,
 ⟨some 25, .strLen (.tmp 24), some (19, false)⟩,
 ⟨some 26, .bin .gtr (.tmp 20) (.tmp 25), some (19, false)⟩,
 ⟨some 27, .pick (.tmp 19) (.const (.bool true)) (.tmp 26), none⟩])
 (.cond (.tmp 27)
 (.seq (.ops [⟨some 28, .move (.tmp 0), none⟩,
 ⟨some 29, .call (F 42) [.tmp 28], none⟩])
 (.seq (.ops [⟨some 4, .move (.const (.string ⟨#[]⟩)), none⟩,
 ⟨some 5, .move (.const (.bool false)), none⟩])
 (.ret)))
 (.skip)))
 (.seq (.ops [⟨some 30, .move (.tmp 0), none⟩,
 ⟨some 31, .nilCheck (.tmp 30), none⟩,
 ⟨some 32, .fieldAddr 0 (.tmp 31), none⟩,
 ⟨some 33, .load1 (.tmp 32), none⟩,
 ⟨some 34, .move (.tmp 1), none⟩,
 ⟨some 35, .strSl (.tmp 33) none (some (.tmp 34)), none⟩,
 ⟨some 6, .move (.tmp 35), none⟩])
 (.seq (.ops [⟨some 36, .move (.tmp 0), none⟩,
 ⟨some 37, .move (.tmp 0), none⟩,
 ⟨some 38, .nilCheck (.tmp 37), none⟩,
 ⟨some 39, .fieldAddr 0 (.tmp 38), none⟩,
 ⟨some 40, .load1 (.tmp 39), none⟩,
 ⟨some 41, .move (.tmp 1), none⟩,
 ⟨some 42, .strSl (.tmp 40) (some (.tmp 41)) none, none⟩,
 ⟨some 43, .nilCheck (.tmp 36), none⟩,
 ⟨some 44, .fieldAddr 0 (.tmp 43), none⟩,
 ⟨none, .store 1 (.tmp 44) (.tmp 42), none⟩])
 (.seq (.ops [⟨some 45, .move (.tmp 6), none⟩,
 ⟨some 4, .move (.tmp 45), none⟩,
 ⟨some 5, .move (.const (.bool true)), none⟩])
 (.ret)))))⟩
/-- hurdle/codec.groups -/
def c_codec_groups (F : Nat → FuncId) (Ty : Nat → TypeId) : IFunc := ⟨44, [.tmp 2, .tmp 3],
 .seq (.ops [⟨some 2, .move (.const (.int .u64 0)), none⟩,
 ⟨some 3, .move (.const (.int .i64 0)), none⟩])
 (.seq (.ops [⟨some 4, .move (.const (.int .u64 0)), none⟩])
 (.seq (.seq (.ops [⟨some 7, .move (.tmp 0), none⟩,
 ⟨some 8, .strLen (.tmp 7), none⟩,
 ⟨some 9, .mxn false (.tmp 8) (.const (.int .i64 10)), none⟩,
 ⟨some 10, .move (.const (.int .i64 0)), none⟩])
 (.block 0 (.loop (.seq (.ops [⟨some 11, .bin .lss (.tmp 10) (.tmp 9), none⟩])
 (.seq (.cond (.tmp 11)
 (.skip)
 (.exit 0))
 (.seq (.block 1 (.seq (.ops [⟨some 12, .move (.tmp 10), none⟩,
 ⟨some 5, .move (.tmp 12), none⟩])
 (.seq (.ops [⟨some 13, .move (.tmp 0), none⟩,
 ⟨some 14, .move (.tmp 5), none⟩,
 ⟨some 15, .strIdx (.tmp 13) (.tmp 14), none⟩,
 ⟨some 16, .conv .u64 (.tmp 15), none⟩,
 ⟨some 6, .move (.tmp 16), none⟩])
 (.seq (.ops [⟨some 17, .move (.tmp 4), none⟩,
 ⟨some 18, .move (.tmp 6), none⟩,
 ⟨some 19, .bin .and (.tmp 18) (.const (.int .u64 127)), none⟩,
 ⟨some 20, .move (.tmp 5), none⟩,
 ⟨some 21, .bin .mul (.const (.int .i64 7)) (.tmp 20), none⟩,
 ⟨some 22, .bin .shl (.tmp 19) (.tmp 21), none⟩,
 ⟨some 23, .bin .or (.tmp 17) (.tmp 22), none⟩,
 ⟨some 4, .move (.tmp 23), none⟩])
 (.seq (.seq (.ops [⟨some 24, .move (.tmp 6), none⟩,
 ⟨some 25, .bin .geq (.tmp 24) (.const (.int .u64 128)), none⟩])
 (.cond (.tmp 25)
 (.exit 1)
 (.skip)))
 (.seq (.seq (.ops [⟨some 26, .move (.tmp 5), none⟩,
 ⟨some 27, .bin .gtr (.tmp 26) (.const (.int .i64 0)), none⟩,
 ⟨some 28, .move (.tmp 27), none⟩,
 ⟨some 29, .move (.tmp 6), some (28, true)⟩,
 ⟨some 30, .bin .eql (.tmp 29) (.const (.int .u64 0)), some (28, true)⟩,
 ⟨some 31, .pick (.tmp 28) (.tmp 30) (.const (.bool false)), none⟩,
 ⟨some 32, .move (.tmp 31), none⟩,
 ⟨some 33, .move (.tmp 5), some (32, false)⟩,
 ⟨some 34, .bin .eql (.tmp 33) (.const (.int .i64 9)), some (32, false)⟩,
 ⟨some 35, .move (.tmp 34), some (32, false)⟩,
 ⟨some 36, .move (.tmp 6), some (35, true)⟩,
 ⟨some 37, .bin .gtr (.tmp 36) (.const (.int .u64 1)), some (35, true)⟩,
 ⟨some 38, .pick (.tmp 35) (.tmp 37) (.const (.bool false)), some (32, false)⟩,
 ⟨some 39, .pick (.tmp 32) (.const (.bool true)) (.tmp 38), none⟩])
 (.cond (.tmp 39)
 (.seq (.ops [⟨some 2, .move (.const (.int .u64 0)), none⟩,
 ⟨some 3, .move (.const (.int .i64 0)), none⟩])
 (.ret))
 (.skip)))
 (.seq (.ops [⟨some 40, .move (.tmp 4), none⟩,
 ⟨some 41, .move (.tmp 5), none⟩,
 ⟨some 42, .bin .add (.tmp 41) (.const (.int .i64 1)), none⟩,
 ⟨some 2, .move (.tmp 40), none⟩,
 ⟨some 3, .move (.tmp 42), none⟩])
 (.ret))))))))
 (.ops [⟨some 43, .bin .add (.tmp 10) (.const (.int .i64 1)), none⟩,
 ⟨some 10, .move (.tmp 43), none⟩])))))))
 (.seq (.ops [⟨some 2, .move (.const (.int .u64 0)), none⟩,
 ⟨some 3, .move (.const (.int .i64 0)), none⟩])
 (.ret))))⟩
/-- (*hurdle/codec.Reader).fail -/
def c_codec_Reader_fail (F : Nat → FuncId) (Ty : Nat → TypeId) : IFunc := ⟨10, [],
 .seq (.ops [⟨some 2, .move (.tmp 0), none⟩,
 ⟨some 3, .eqNil 0 true (.tmp 2), none⟩])
 (.cond (.tmp 3)
 (.ops [⟨some 4, .move (.tmp 0), none⟩,
 ⟨some 5, .move (.tmp 0), none⟩,
 ⟨some 6, .nilCheck (.tmp 4), none⟩,
 ⟨some 7, .fieldAddr 0 (.tmp 6), none⟩,
 ⟨none, .store 1 (.tmp 7) (.const (.string ⟨#[]⟩)), none⟩,
 ⟨some 8, .nilCheck (.tmp 5), none⟩,
 ⟨some 9, .fieldAddr 1 (.tmp 8), none⟩,
 ⟨none, .store 1 (.tmp 9) (.const (.bool true)), none⟩])
 (.skip))⟩
/-- (*hurdle/codec.Writer).lay -/
def c_codec_Writer_lay (F : Nat → FuncId) (Ty : Nat → TypeId) : IFunc := ⟨45, [],
 .seq (.seq (.ops [⟨some 5, .move (.tmp 0), none⟩,
 ⟨some 6, .eqNil 0 false (.tmp 5), none⟩,
 ⟨some 7, .move (.tmp 6), none⟩,
 ⟨some 8, .move (.tmp 0), some (7, false)⟩,
 ⟨some 9, .nilCheck (.tmp 8), some (7, false)⟩,
 ⟨some 10, .fieldAddr 2 (.tmp 9), some (7, false)⟩,
 ⟨some 11, .load1 (.tmp 10), some (7, false)⟩,
 ⟨some 12, .bin .neq (.tmp 11) (.const (.int .i64 0)), some (7, false)⟩,
 ⟨some 13, .pick (.tmp 7) (.const (.bool true)) (.tmp 12), none⟩])
 (.cond (.tmp 13)
 (.ret)
 (.skip)))
 (.seq (.draw [(⟨some 14, .move (.tmp 1), none⟩, []),
 (⟨some 15, .move (.tmp 0), none⟩, []),
 (⟨some 16, .nilCheck (.tmp 15), none⟩, []),
 (⟨some 17, .fieldAddr 1 (.tmp 16), none⟩, []),
 (⟨some 18, .load1 (.tmp 17), none⟩, []),
 (⟨some 19, .move (.tmp 0), none⟩, []),
 (⟨some 20, .nilCheck (.tmp 19), none⟩, []),
 (⟨some 21, .fieldAddr 1 (.tmp 20), none⟩, []),
 (⟨some 22, .load1 (.tmp 21), none⟩, []),
 (⟨some 23, .lenSl (.tmp 22), none⟩, []),
 (⟨some 24, .move (.tmp 0), none⟩, []),
 (⟨some 25, .nilCheck (.tmp 24), none⟩, []),
 (⟨some 26, .fieldAddr 1 (.tmp 25), none⟩, []),
 (⟨some 27, .load1 (.tmp 26), none⟩, []),
 (⟨some 28, .lenSl (.tmp 27), none⟩, []),
 (⟨some 29, .sliceSl 1 (.tmp 18) none (some (.tmp 23)) (some (.tmp 28)), none⟩, []),
 (⟨some 30, .callDyn (.tmp 14) [.tmp 29], none⟩, []),
 (⟨some 4, .move (.tmp 30), none⟩, [])])
 (.seq (.seq (.ops [⟨some 31, .move (.tmp 4), none⟩,
 ⟨some 32, .lenSl (.tmp 31), none⟩,
 ⟨some 33, .move (.tmp 0), none⟩,
 ⟨some 34, .nilCheck (.tmp 33), none⟩,
 ⟨some 35, .fieldAddr 0 (.tmp 34), none⟩,
 ⟨some 36, .load1 (.tmp 35), none⟩,
 ⟨some 37, .bin .gtr (.tmp 32) (.tmp 36), none⟩])
 (.cond (.tmp 37)
 (.seq (.ops [⟨some 38, .move (.tmp 0), none⟩,
 ⟨some 39, .nilCheck (.tmp 38), none⟩,
 ⟨some 40, .fieldAddr 2 (.tmp 39), none⟩,
 ⟨none, .store 1 (.tmp 40) (.const (.int .i64 2)), none⟩])
 (.ret))
 (.skip)))
 (.ops [⟨some 41, .move (.tmp 0), none⟩,
 ⟨some 42, .move (.tmp 4), none⟩,
 ⟨some 43, .nilCheck (.tmp 41), none⟩,
 ⟨some 44, .fieldAddr 1 (.tmp 43), none⟩,
 ⟨none, .store 1 (.tmp 44) (.tmp 42), none⟩])))⟩
/-- (*hurdle/codec.Writer).Ints$1 -/
def c_codec_Writer_Ints_F1 (F : Nat → FuncId) (Ty : Nat → TypeId) : IFunc := ⟨21, [.tmp 3],
 .seq (.ops [⟨some 3, .move (.const (.slice none 0 0)), none⟩])
 (.seq (.ops [⟨some 6, .move (.tmp 0), none⟩,
 ⟨some 7, .load1 (.tmp 1), none⟩,
 ⟨some 8, .lenSl (.tmp 7), none⟩,
 ⟨some 9, .call (F 45) [.tmp 6, .tmp 8], none⟩,
 ⟨some 0, .move (.tmp 9), none⟩])
 (.seq (.seq (.ops [⟨some 10, .load1 (.tmp 1), none⟩,
 ⟨some 11, .lenSl (.tmp 10), none⟩,
 ⟨some 12, .move (.const (.int .i64 0)), none⟩])
 (.block 0 (.loop (.seq (.ops [⟨some 13, .bin .lss (.tmp 12) (.tmp 11), none⟩])
 (.seq (.cond (.tmp 13)
 (.skip)
 (.exit 0))
 (.seq (.block 1 (.seq (.ops [⟨some 14, .idxSl 1 (.tmp 10) (.tmp 12), none⟩,
 ⟨some 15, .load1 (.tmp 14), none⟩,
 ⟨some 5, .move (.tmp 15), none⟩])
 (.ops [⟨some 16, .move (.tmp 0), none⟩,
 ⟨some 17, .move (.tmp 5), none⟩,
 ⟨some 18, .call (F 45) [.tmp 16, .tmp 17], none⟩,
 ⟨some 0, .move (.tmp 18), none⟩])))
 (.ops [⟨some 19, .bin .add (.tmp 12) (.const (.int .i64 1)), none⟩,
 ⟨some 12, .move (.tmp 19), none⟩])))))))
 (.seq (.ops [⟨some 20, .move (.tmp 0), none⟩,
 ⟨some 3, .move (.tmp 20), none⟩])
 (.ret))))⟩
/-- hurdle/codec.number -/
def c_codec_number (F : Nat → FuncId) (Ty : Nat → TypeId) : IFunc := ⟨28, [.tmp 4],
 .seq (.ops [⟨some 4, .move (.const (.slice none 0 0)), none⟩])
 (.seq (.ops [⟨some 6, .move (.tmp 1), none⟩,
 ⟨some 7, .conv .u64 (.tmp 6), none⟩,
 ⟨some 8, .bin .shl (.tmp 7) (.const (.int .u64 1)), none⟩,
 ⟨some 9, .move (.tmp 1), none⟩,
 ⟨some 10, .bin .shr (.tmp 9) (.const (.int .u64 63)), none⟩,
 ⟨some 11, .conv .u64 (.tmp 10), none⟩,
 ⟨some 12, .bin .xor (.tmp 8) (.tmp 11), none⟩,
 ⟨some 5, .move (.tmp 12), none⟩])
 (.seq (.block 0 (.loop (.seq (.seq (.ops [⟨some 13, .move (.tmp 5), none⟩,
 ⟨some 14, .bin .geq (.tmp 13) (.const (.int .u64 128)), none⟩])
 (.cond (.tmp 14)
 (.skip)
 (.exit 0)))
 (.seq (.block 1 (.ops [⟨some 17, .move (.tmp 0), none⟩,
 ⟨some 18, .move (.tmp 5), none⟩,
 ⟨some 19, .conv .u8 (.tmp 18), none⟩,
 ⟨some 20, .bin .or (.tmp 19) (.const (.int .u8 128)), none⟩,
 ⟨some 21, .buildSlice 1 [.int .u8 0] [((0, 1), .tmp 20)], none⟩,
 ⟨some 22, .append 1 1 (.tmp 17) (.tmp 21), none⟩,
 ⟨some 0, .move (.tmp 22), none⟩]))
 (.ops [⟨some 15, .move (.tmp 5), none⟩,
 ⟨some 16, .bin .shr (.tmp 15) (.const (.int .u64 7)), none⟩,
 ⟨some 5, .move (.tmp 16), none⟩])))))
 (.seq (.ops [⟨some 23, .move (.tmp 0), none⟩,
 ⟨some 24, .move (.tmp 5), none⟩,
 ⟨some 25, .conv .u8 (.tmp 24), none⟩,
 ⟨some 26, .buildSlice 1 [.int .u8 0] [((0, 1), .tmp 25)], none⟩,
 ⟨some 27, .append 1 1 (.tmp 23) (.tmp 26), none⟩,
 ⟨some 4, .move (.tmp 27), none⟩])
 (.ret))))⟩
/-- (*hurdle/codec.Writer).Int$1 -/
def c_codec_Writer_Int_F1 (F : Nat → FuncId) (Ty : Nat → TypeId) : IFunc := ⟨7, [.tmp 3],
 .seq (.ops [⟨some 3, .move (.const (.slice none 0 0)), none⟩])
 (.seq (.ops [⟨some 4, .move (.tmp 0), none⟩,
 ⟨some 5, .load1 (.tmp 1), none⟩,
 ⟨some 6, .call (F 45) [.tmp 4, .tmp 5], none⟩,
 ⟨some 3, .move (.tmp 6), none⟩])
 (.ret))⟩
/-- (*hurdle/codec.Writer).Byte -/
def c_codec_Writer_Byte (F : Nat → FuncId) (Ty : Nat → TypeId) : IFunc := ⟨27, [],
 .seq (.ops [⟨some 3, .box (.tmp 1), none⟩])
 (.seq (.seq (.ops [⟨some 4, .move (.tmp 0), none⟩,
 ⟨some 5, .eqNil 0 true (.tmp 4), none⟩,
 ⟨some 6, .move (.tmp 5), none⟩,
 ⟨some 7, .move (.tmp 0), some (6, true)⟩,
 ⟨some 8, .nilCheck (.tmp 7), some (6, true)⟩,
 ⟨some 9, .fieldAddr 2 (.tmp 8), some (6, true)⟩,
 ⟨some 10, .load1 (.tmp 9), some (6, true)⟩,
 ⟨some 11, .bin .eql (.tmp 10) (.const (.int .i64 0)), some (6, true)⟩,
 ⟨some 12, .pick (.tmp 6) (.tmp 11) (.const (.bool false)), none⟩,
 ⟨some 13, .move (.tmp 12), none⟩,
 ⟨some 14, .load1 (.tmp 3), some (13, true)⟩,
 ⟨some 15, .bin .lss (.tmp 14) (.const (.int .i64 0)), some (13, true)⟩,
 ⟨some 16, .move (.tmp 15), some (13, true)⟩,
 ⟨some 17, .load1 (.tmp 3), some (16, false)⟩,
 ⟨some 18, .bin .gtr (.tmp 17) (.const (.int .i64 255)), some (16, false)⟩,
 ⟨some 19, .pick (.tmp 16) (.const (.bool true)) (.tmp 18), some (13, true)⟩,
 ⟨some 20, .pick (.tmp 13) (.tmp 19) (.const (.bool false)), none⟩])
 (.cond (.tmp 20)
 (.ops [⟨some 21, .move (.tmp 0), none⟩,
 ⟨some 22, .nilCheck (.tmp 21), none⟩,
 ⟨some 23, .fieldAddr 2 (.tmp 22), none⟩,
 ⟨none, .store 1 (.tmp 23) (.const (.int .i64 1)), none⟩])
 (.skip)))
 (.ops [⟨some 24, .move (.tmp 0), none⟩,
 ⟨some 25, .mkFunc (F 52) [] [.tmp 3], none⟩,
 ⟨some 26, .call (F 43) [.tmp 24, .tmp 25], none⟩]))⟩
/-- (*hurdle/codec.Writer).Byte$1 -/
def c_codec_Writer_Byte_F1 (F : Nat → FuncId) (Ty : Nat → TypeId) : IFunc := ⟨9, [.tmp 3],
 .seq (.ops [⟨some 3, .move (.const (.slice none 0 0)), none⟩])
 (.seq (.ops [⟨some 4, .move (.tmp 0), none⟩,
 ⟨some 5, .load1 (.tmp 1), none⟩,
 ⟨some 6, .conv .u8 (.tmp 5), none⟩,
 ⟨some 7, .buildSlice 1 [.int .u8 0] [((0, 1), .tmp 6)], none⟩,
 ⟨some 8, .append 1 1 (.tmp 4) (.tmp 7), none⟩,
 ⟨some 3, .move (.tmp 8), none⟩])
 (.ret))⟩
/-- A context has these functions. -/
structure HasCodec (c : Ctx) : Prop where
 codec_NewReader : c.IP (c.F 26) = some (c_codec_NewReader c.F c.Ty)
 codec_Reader_Ints : c.IP (c.F 27) = some (c_codec_Reader_Ints c.F c.Ty)
 codec_Reader_Int : c.IP (c.F 29) = some (c_codec_Reader_Int c.F c.Ty)
 codec_Reader_Done : c.IP (c.F 30) = some (c_codec_Reader_Done c.F c.Ty)
 codec_NewWriter : c.IP (c.F 31) = some (c_codec_NewWriter c.F c.Ty)
 codec_Writer_Ints : c.IP (c.F 32) = some (c_codec_Writer_Ints c.F c.Ty)
 codec_Writer_Int : c.IP (c.F 34) = some (c_codec_Writer_Int c.F c.Ty)
 codec_Writer_Done : c.IP (c.F 35) = some (c_codec_Writer_Done c.F c.Ty)
 codec_Reader_Byte : c.IP (c.F 37) = some (c_codec_Reader_Byte c.F c.Ty)
 codec_list_int : c.IP (c.F 39) = some (c_codec_list_int c.F c.Ty)
 codec_Reader_take : c.IP (c.F 40) = some (c_codec_Reader_take c.F c.Ty)
 codec_groups : c.IP (c.F 41) = some (c_codec_groups c.F c.Ty)
 codec_Reader_fail : c.IP (c.F 42) = some (c_codec_Reader_fail c.F c.Ty)
 codec_Writer_lay : c.IP (c.F 43) = some (c_codec_Writer_lay c.F c.Ty)
 codec_Writer_Ints_F1 : c.IP (c.F 44) = some (c_codec_Writer_Ints_F1 c.F c.Ty)
 codec_number : c.IP (c.F 45) = some (c_codec_number c.F c.Ty)
 codec_Writer_Int_F1 : c.IP (c.F 48) = some (c_codec_Writer_Int_F1 c.F c.Ty)
 codec_Writer_Byte : c.IP (c.F 49) = some (c_codec_Writer_Byte c.F c.Ty)
 codec_Writer_Byte_F1 : c.IP (c.F 52) = some (c_codec_Writer_Byte_F1 c.F c.Ty)

end Go.Proofs.YtndndcdblfejnaaGreatRI
namespace Go.Proofs.YtndndcdblfejnaaGreatRI
set_option linter.unusedSimpArgs false
set_option linter.unusedVariables false
open Go

/-- hurdle/hurdleref03.End -/
abbrev n_hurdleref03_End : Nat := 56
/-- hurdle/hurdleref03.Int -/
abbrev n_hurdleref03_Int : Nat := 62
/-- hurdle/hurdleref03.TakeByte -/
abbrev n_hurdleref03_TakeByte : Nat := 63
/-- hurdle/hurdleref03.TakeInts -/
abbrev n_hurdleref03_TakeInts : Nat := 65
/-- hurdle/hurdleref03.TakeInt -/
abbrev n_hurdleref03_TakeInt : Nat := 67
/-- hurdle/hurdleref03.bad -/
abbrev n_hurdleref03_bad : Nat := 68
/-- hurdle/hurdleref03.End -/
def c_hurdleref03_End (F : Nat → FuncId) (Ty : Nat → TypeId) : IFunc := ⟨10, [.tmp 2],
 .seq (.ops [⟨some 1, .box (.tmp 0), none⟩,
 ⟨some 2, .move (.const (.int .i64 0)), none⟩])
 (.seq (.seq (.ops [⟨some 3, .fieldAddr 1 (.tmp 1), none⟩,
 ⟨some 4, .load1 (.tmp 3), none⟩,
 ⟨some 5, .move (.tmp 4), none⟩,
 ⟨some 6, .fieldAddr 0 (.tmp 1), some (5, false)⟩,
 ⟨some 7, .load1 (.tmp 6), some (5, false)⟩,
 ⟨some 8, .bin .neq (.tmp 7) (.const (.string ⟨#[]⟩)), some (5, false)⟩,
 ⟨some 9, .pick (.tmp 5) (.const (.bool true)) (.tmp 8), none⟩])
 (.cond (.tmp 9)
 (.seq (.ops [⟨some 2, .move (.const (.int .i64 3)), none⟩])
 (.ret))
 (.skip)))
 (.seq (.ops [⟨some 2, .move (.const (.int .i64 0)), none⟩])
 (.ret)))⟩
/-- hurdle/hurdleref03.Int -/
def c_hurdleref03_Int (F : Nat → FuncId) (Ty : Nat → TypeId) : IFunc := ⟨30, [.tmp 2],
 .seq (.ops [⟨some 2, .move (.const (.string ⟨#[]⟩)), none⟩])
 (.seq (.ops [⟨some 5, .move (.tmp 0), none⟩,
 ⟨some 6, .conv .u64 (.tmp 5), none⟩,
 ⟨some 7, .bin .shl (.tmp 6) (.const (.int .u64 1)), none⟩,
 ⟨some 3, .move (.tmp 7), none⟩])
 (.seq (.seq (.ops [⟨some 8, .move (.tmp 0), none⟩,
 ⟨some 9, .bin .lss (.tmp 8) (.const (.int .i64 0)), none⟩])
 (.cond (.tmp 9)
 (.ops [⟨some 10, .move (.tmp 3), none⟩,
 ⟨some 11, .bin .xor (.tmp 10) (.const (.int .u64 18446744073709551615)), none⟩,
 ⟨some 3, .move (.tmp 11), none⟩])
 (.skip)))
 (.seq (.ops [⟨some 4, .move (.const (.slice none 0 0)), none⟩])
 (.seq (.block 0 (.loop (.seq (.seq (.ops [⟨some 12, .move (.tmp 3), none⟩,
 ⟨some 13, .bin .geq (.tmp 12) (.const (.int .u64 128)), none⟩])
 (.cond (.tmp 13)
 (.skip)
 (.exit 0)))
 (.block 1 (.seq (.ops [⟨some 14, .move (.tmp 4), none⟩,
 ⟨some 15, .move (.tmp 3), none⟩,
 ⟨some 16, .bin .and (.tmp 15) (.const (.int .u64 127)), none⟩,
 ⟨some 17, .conv .u8 (.tmp 16), none⟩,
 ⟨some 18, .bin .or (.tmp 17) (.const (.int .u8 128)), none⟩,
 ⟨some 19, .buildSlice 1 [.int .u8 0] [((0, 1), .tmp 18)], none⟩,
 ⟨some 20, .append 1 1 (.tmp 14) (.tmp 19), none⟩,
 ⟨some 4, .move (.tmp 20), none⟩])
 (.ops [⟨some 21, .move (.tmp 3), none⟩,
 ⟨some 22, .bin .shr (.tmp 21) (.const (.int .u64 7)), none⟩,
 ⟨some 3, .move (.tmp 22), none⟩]))))))
 (.seq (.ops [⟨some 23, .move (.tmp 4), none⟩,
 ⟨some 24, .move (.tmp 3), none⟩,
 ⟨some 25, .conv .u8 (.tmp 24), none⟩,
 ⟨some 26, .buildSlice 1 [.int .u8 0] [((0, 1), .tmp 25)], none⟩,
 ⟨some 27, .append 1 1 (.tmp 23) (.tmp 26), none⟩,
 ⟨some 4, .move (.tmp 27), none⟩])
 (.seq (.ops [⟨some 28, .move (.tmp 4), none⟩,
 ⟨some 29, .bytesStr (.tmp 28), none⟩,
 ⟨some 2, .move (.tmp 29), none⟩])
 (.ret)))))))⟩
/-- hurdle/hurdleref03.TakeByte -/
def c_hurdleref03_TakeByte (F : Nat → FuncId) (Ty : Nat → TypeId) : IFunc := ⟨17, [.cellN 2 2, .tmp 3],
 .seq (.ops [⟨some 1, .box (.tmp 0), none⟩,
 ⟨some 2, .alloc [.string ⟨#[]⟩, .bool false], none⟩,
 ⟨some 3, .move (.const (.int .i64 0)), none⟩])
 (.seq (.seq (.ops [⟨some 4, .fieldAddr 0 (.tmp 1), none⟩,
 ⟨some 5, .load1 (.tmp 4), none⟩,
 ⟨some 6, .bin .eql (.tmp 5) (.const (.string ⟨#[]⟩)), none⟩])
 (.cond (.tmp 6)
 (.seq (.ops [⟨some 7, .loadN 2 (.tmp 1), none⟩,
 ⟨some 8, .call (F 68) [.tmp 7], none⟩,
 ⟨none, .store 2 (.tmp 2) (.tmp 8), none⟩,
 ⟨some 3, .move (.const (.int .i64 0)), none⟩])
 (.ret))
 (.skip)))
 (.seq (.draw [(⟨some 9, .fieldAddr 0 (.tmp 1), none⟩, []),
 (⟨some 10, .load1 (.tmp 9), none⟩, []),
 (⟨some 11, .strSl (.tmp 10) (some (.const (.int .i64 1))) none, none⟩, []),
 (⟨some 12, .build [.string ⟨#[]⟩, .bool false] [((0, 1), .tmp 11)], none⟩, []),
 (⟨some 13, .fieldAddr 0 (.tmp 1), none⟩, []),
 (⟨some 14, .load1 (.tmp 13), none⟩, []),
 (⟨some 15, .strIdx (.tmp 14) (.const (.int .i64 0)), none⟩, []),
 (⟨some 16, .conv .i64 (.tmp 15), none⟩, []),
 (⟨none, .store 2 (.tmp 2) (.tmp 12), none⟩, [⟨some 14, .load1 (.tmp 13), none⟩]),
 (⟨some 3, .move (.tmp 16), none⟩, [])])
 (.ret)))⟩
/-- hurdle/hurdleref03.TakeInts -/
def c_hurdleref03_TakeInts (F : Nat → FuncId) (Ty : Nat → TypeId) : IFunc := ⟨50, [.cellN 2 2, .tmp 3],
 .seq (.ops [⟨some 1, .box (.tmp 0), none⟩,
 ⟨some 2, .alloc [.string ⟨#[]⟩, .bool false], none⟩,
 ⟨some 3, .move (.const (.slice none 0 0)), none⟩])
 (.seq (.ops [⟨some 11, .loadN 2 (.tmp 1), none⟩,
 ⟨some 12, .call (F 67) [.tmp 11], none⟩,
 ⟨some 10, .move (.tmp 12), none⟩,
 ⟨some 13, .extract (.tmp 10) 0, none⟩,
 ⟨some 14, .extract (.tmp 10) 1, none⟩,
 ⟨some 4, .alloc [.string ⟨#[]⟩, .bool false], none⟩,
 ⟨none, .store 2 (.tmp 4) (.tmp 13), none⟩,
 ⟨some 5, .move (.tmp 14), none⟩])
 (.seq (.seq (.ops [⟨some 15, .fieldAddr 1 (.tmp 4), none⟩,
 ⟨some 16, .load1 (.tmp 15), none⟩,
 ⟨some 17, .move (.tmp 16), none⟩,
 ⟨some 18, .move (.tmp 5), some (17, false)⟩,
 ⟨some 19, .bin .lss (.tmp 18) (.const (.int .i64 0)), some (17, false)⟩,
 ⟨some 20, .pick (.tmp 17) (.const (.bool true)) (.tmp 19), none⟩,
 ⟨some 21, .move (.tmp 20), none⟩,
 ⟨some 22, .move (.tmp 5), some (21, false)⟩,
 ⟨some 23, .fieldAddr 0 (.tmp 4), some (21, false)⟩,
 ⟨some 24, .load1 (.tmp 23), some (21, false)⟩,
 ⟨some 25, .strLen (.tmp 24), some (21, false)⟩,
 ⟨some 26, .bin .gtr (.tmp 22) (.tmp 25), some (21, false)⟩,
 ⟨some 27, .pick (.tmp 21) (.const (.bool true)) (.tmp 26), none⟩])
 (.cond (.tmp 27)
 (.seq (.ops [⟨some 28, .loadN 2 (.tmp 1), none⟩,
 ⟨some 29, .call (F 68) [.tmp 28], none⟩,
 ⟨none, .store 2 (.tmp 2) (.tmp 29), none⟩,
 ⟨some 3, .move (.const (.slice none 0 0)), none⟩])
 (.ret))
 (.skip)))
 (.seq (.ops [⟨some 6, .move (.const (.slice none 0 0)), none⟩])
 (.seq (.seq (.ops [⟨some 7, .move (.const (.int .i64 0)), none⟩])
 (.block 0 (.loop (.seq (.seq (.ops [⟨some 30, .move (.tmp 7), none⟩,
 ⟨some 31, .move (.tmp 5), none⟩,
 ⟨some 32, .bin .lss (.tmp 30) (.tmp 31), none⟩])
 (.cond (.tmp 32)
 (.skip)
 (.exit 0)))
 (.seq (.block 1 (.seq (.ops [⟨some 36, .loadN 2 (.tmp 4), none⟩,
 ⟨some 37, .call (F 67) [.tmp 36], none⟩,
 ⟨some 35, .move (.tmp 37), none⟩,
 ⟨some 38, .extract (.tmp 35) 0, none⟩,
 ⟨some 39, .extract (.tmp 35) 1, none⟩,
 ⟨some 8, .alloc [.string ⟨#[]⟩, .bool false], none⟩,
 ⟨none, .store 2 (.tmp 8) (.tmp 38), none⟩,
 ⟨some 9, .move (.tmp 39), none⟩])
 (.seq (.seq (.ops [⟨some 40, .fieldAddr 1 (.tmp 8), none⟩,
 ⟨some 41, .load1 (.tmp 40), none⟩])
 (.cond (.tmp 41)
 (.seq (.ops [⟨some 42, .loadN 2 (.tmp 8), none⟩,
 ⟨none, .store 2 (.tmp 2) (.tmp 42), none⟩,
 ⟨some 3, .move (.const (.slice none 0 0)), none⟩])
 (.ret))
 (.skip)))
 (.seq (.ops [⟨some 43, .loadN 2 (.tmp 8), none⟩,
 ⟨none, .store 2 (.tmp 4) (.tmp 43), none⟩])
 (.ops [⟨some 44, .move (.tmp 6), none⟩,
 ⟨some 45, .move (.tmp 9), none⟩,
 ⟨some 46, .buildSlice 1 [.int .i64 0] [((0, 1), .tmp 45)], none⟩,
 ⟨some 47, .append 1 8 (.tmp 44) (.tmp 46), none⟩,
 ⟨some 6, .move (.tmp 47), none⟩])))))
 (.ops [⟨some 33, .move (.tmp 7), none⟩,
 ⟨some 34, .bin .add (.tmp 33) (.const (.int .i64 1)), none⟩,
 ⟨some 7, .move (.tmp 34), none⟩]))))))
 (.seq (.ops [⟨some 48, .loadN 2 (.tmp 4), none⟩,
 ⟨some 49, .move (.tmp 6), none⟩,
 ⟨none, .store 2 (.tmp 2) (.tmp 48), none⟩,
 ⟨some 3, .move (.tmp 49), none⟩])
 (.ret))))))⟩
/-- hurdle/hurdleref03.TakeInt -/
def c_hurdleref03_TakeInt (F : Nat → FuncId) (Ty : Nat → TypeId) : IFunc := ⟨68, [.cellN 2 2, .tmp 3],
 .seq (.ops [⟨some 1, .box (.tmp 0), none⟩,
 ⟨some 2, .alloc [.string ⟨#[]⟩, .bool false], none⟩,
 ⟨some 3, .move (.const (.int .i64 0)), none⟩])
 (.seq (.ops [⟨some 4, .move (.const (.int .u64 0)), none⟩])
 (.seq (.seq (.ops [⟨some 5, .move (.const (.int .i64 0)), none⟩])
 (.block 0 (.loop (.seq (.seq (.ops [⟨some 8, .move (.tmp 5), none⟩,
 ⟨some 9, .fieldAddr 0 (.tmp 1), none⟩,
 ⟨some 10, .load1 (.tmp 9), none⟩,
 ⟨some 11, .strLen (.tmp 10), none⟩,
 ⟨some 12, .bin .lss (.tmp 8) (.tmp 11), none⟩,
 ⟨some 13, .move (.tmp 12), none⟩,
 ⟨some 14, .move (.tmp 5), some (13, true)⟩,
 ⟨some 15, .bin .lss (.tmp 14) (.const (.int .i64 10)), some (13, true)⟩,
 ⟨some 16, .pick (.tmp 13) (.tmp 15) (.const (.bool false)), none⟩])
 (.cond (.tmp 16)
 (.skip)
 (.exit 0)))
 (.seq (.block 1 (.seq (.ops [⟨some 19, .fieldAddr 0 (.tmp 1), none⟩,
 ⟨some 20, .load1 (.tmp 19), none⟩,
 ⟨some 21, .move (.tmp 5), none⟩,
 ⟨some 22, .strIdx (.tmp 20) (.tmp 21), none⟩,
 ⟨some 23, .conv .u64 (.tmp 22), none⟩,
 ⟨some 6, .move (.tmp 23), none⟩])
 (.seq (.seq (.ops [⟨some 24, .move (.tmp 5), none⟩,
 ⟨some 25, .bin .eql (.tmp 24) (.const (.int .i64 9)), none⟩,
 ⟨some 26, .move (.tmp 25), none⟩,
 ⟨some 27, .move (.tmp 6), some (26, true)⟩,
 ⟨some 28, .bin .gtr (.tmp 27) (.const (.int .u64 1)), some (26, true)⟩,
 ⟨some 29, .pick (.tmp 26) (.tmp 28) (.const (.bool false)), none⟩,
 ⟨some 30, .move (.tmp 29), none⟩,
 ⟨some 31, .move (.tmp 5), some (30, false)⟩,
 ⟨some 32, .bin .gtr (.tmp 31) (.const (.int .i64 0)), some (30, false)⟩,
 ⟨some 33, .move (.tmp 32), some (30, false)⟩,
 ⟨some 34, .move (.tmp 6), some (33, true)⟩,
 ⟨some 35, .bin .eql (.tmp 34) (.const (.int .u64 0)), some (33, true)⟩,
 ⟨some 36, .pick (.tmp 33) (.tmp 35) (.const (.bool false)), some (30, false)⟩,
 ⟨some 37, .pick (.tmp 30) (.const (.bool true)) (.tmp 36), none⟩])
 (.cond (.tmp 37)
 (.seq (.ops [⟨some 38, .loadN 2 (.tmp 1), none⟩,
 ⟨some 39, .call (F 68) [.tmp 38], none⟩,
 ⟨none, .store 2 (.tmp 2) (.tmp 39), none⟩,
 ⟨some 3, .move (.const (.int .i64 0)), none⟩])
 (.ret))
 (.skip)))
 (.seq (.ops [⟨some 40, .move (.tmp 4), none⟩,
 ⟨some 41, .move (.tmp 6), none⟩,
 ⟨some 42, .bin .and (.tmp 41) (.const (.int .u64 127)), none⟩,
 ⟨some 43, .move (.tmp 5), none⟩,
 ⟨some 44, .bin .mul (.const (.int .i64 7)) (.tmp 43), none⟩,
 ⟨some 45, .conv .u64 (.tmp 44), none⟩,
 ⟨some 46, .bin .shl (.tmp 42) (.tmp 45), none⟩,
 ⟨some 47, .bin .or (.tmp 40) (.tmp 46), none⟩,
 ⟨some 4, .move (.tmp 47), none⟩])
 (.seq (.ops [⟨some 48, .move (.tmp 6), none⟩,
 ⟨some 49, .bin .lss (.tmp 48) (.const (.int .u64 128)), none⟩])
 (.cond (.tmp 49)
 (.seq (.ops [⟨some 50, .move (.tmp 4), none⟩,
 ⟨some 51, .bin .shr (.tmp 50) (.const (.int .u64 1)), none⟩,
 ⟨some 52, .conv .i64 (.tmp 51), none⟩,
 ⟨some 7, .move (.tmp 52), none⟩])
 (.seq (.seq (.ops [⟨some 53, .move (.tmp 4), none⟩,
 ⟨some 54, .bin .and (.tmp 53) (.const (.int .u64 1)), none⟩,
 ⟨some 55, .bin .eql (.tmp 54) (.const (.int .u64 1)), none⟩])
 (.cond (.tmp 55)
 (.ops [⟨some 56, .move (.tmp 7), none⟩,
 ⟨some 57, .un .neg (.tmp 56), none⟩,
 ⟨some 58, .bin .sub (.tmp 57) (.const (.int .i64 1)), none⟩,
 ⟨some 7, .move (.tmp 58), none⟩])
 (.skip)))
 (.seq (.ops [⟨some 59, .fieldAddr 0 (.tmp 1), none⟩,
 ⟨some 60, .load1 (.tmp 59), none⟩,
 ⟨some 61, .move (.tmp 5), none⟩,
 ⟨some 62, .bin .add (.tmp 61) (.const (.int .i64 1)), none⟩,
 ⟨some 63, .strSl (.tmp 60) (some (.tmp 62)) none, none⟩,
 ⟨some 64, .build [.string ⟨#[]⟩, .bool false] [((0, 1), .tmp 63)], none⟩,
 ⟨some 65, .move (.tmp 7), none⟩,
 ⟨none, .store 2 (.tmp 2) (.tmp 64), none⟩,
 ⟨some 3, .move (.tmp 65), none⟩])
 (.ret))))
 (.skip)))))))
 (.ops [⟨some 17, .move (.tmp 5), none⟩,
 ⟨some 18, .bin .add (.tmp 17) (.const (.int .i64 1)), none⟩,
 ⟨some 5, .move (.tmp 18), none⟩]))))))
 (.seq (.ops [⟨some 66, .loadN 2 (.tmp 1), none⟩,
 ⟨some 67, .call (F 68) [.tmp 66], none⟩,
 ⟨none, .store 2 (.tmp 2) (.tmp 67), none⟩,
 ⟨some 3, .move (.const (.int .i64 0)), none⟩])
 (.ret))))⟩
/-- hurdle/hurdleref03.bad -/
def c_hurdleref03_bad (F : Nat → FuncId) (Ty : Nat → TypeId) : IFunc := ⟨4, [.cellN 2 2],
 .seq (.ops [⟨some 1, .box (.tmp 0), none⟩,
 ⟨some 2, .alloc [.string ⟨#[]⟩, .bool false], none⟩])
 (.seq (.ops [⟨some 3, .build [.string ⟨#[]⟩, .bool false] [((1, 1), .const (.bool true))], none⟩,
 ⟨none, .store 2 (.tmp 2) (.tmp 3), none⟩])
 (.ret))⟩
/-- A context has these functions. -/
structure HasRef03 (c : Ctx) : Prop where
 hurdleref03_End : c.IP (c.F 56) = some (c_hurdleref03_End c.F c.Ty)
 hurdleref03_Int : c.IP (c.F 62) = some (c_hurdleref03_Int c.F c.Ty)
 hurdleref03_TakeByte : c.IP (c.F 63) = some (c_hurdleref03_TakeByte c.F c.Ty)
 hurdleref03_TakeInts : c.IP (c.F 65) = some (c_hurdleref03_TakeInts c.F c.Ty)
 hurdleref03_TakeInt : c.IP (c.F 67) = some (c_hurdleref03_TakeInt c.F c.Ty)
 hurdleref03_bad : c.IP (c.F 68) = some (c_hurdleref03_bad c.F c.Ty)

end Go.Proofs.YtndndcdblfejnaaGreatRI
namespace Go.Proofs.YtndndcdblfejnaaGreatRI
set_option linter.unusedSimpArgs false
set_option linter.unusedVariables false
open Go

/-- hurdle/hurdleref01.Ints -/
abbrev n_hurdleref01_Ints : Nat := 69
/-- hurdle/hurdleref01.Ints -/
def c_hurdleref01_Ints (F : Nat → FuncId) (Ty : Nat → TypeId) : IFunc := ⟨26, [.tmp 4],
 .seq (.ops [⟨some 4, .move (.const (.bool false)), none⟩])
 (.seq (.seq (.ops [⟨some 6, .move (.tmp 0), none⟩,
 ⟨some 7, .lenSl (.tmp 6), none⟩,
 ⟨some 8, .move (.tmp 1), none⟩,
 ⟨some 9, .lenSl (.tmp 8), none⟩,
 ⟨some 10, .bin .neq (.tmp 7) (.tmp 9), none⟩])
 (.cond (.tmp 10)
 (.seq (.ops [⟨some 4, .move (.const (.bool false)), none⟩])
 (.ret))
 (.skip)))
 (.seq (.seq (.ops [⟨some 5, .move (.const (.int .i64 0)), none⟩])
 (.block 0 (.loop (.seq (.seq (.ops [⟨some 11, .move (.tmp 5), none⟩,
 ⟨some 12, .move (.tmp 0), none⟩,
 ⟨some 13, .lenSl (.tmp 12), none⟩,
 ⟨some 14, .bin .lss (.tmp 11) (.tmp 13), none⟩])
 (.cond (.tmp 14)
 (.skip)
 (.exit 0)))
 (.seq (.block 1 (.seq (.draw [(⟨some 17, .move (.tmp 0), none⟩, []),
 (⟨some 18, .move (.tmp 5), none⟩, []),
 (⟨some 19, .idxSl 1 (.tmp 17) (.tmp 18), none⟩, []),
 (⟨some 20, .load1 (.tmp 19), none⟩, []),
 (⟨some 21, .move (.tmp 1), none⟩, []),
 (⟨some 22, .move (.tmp 5), none⟩, []),
 (⟨some 23, .idxSl 1 (.tmp 21) (.tmp 22), none⟩, []),
 (⟨some 24, .load1 (.tmp 23), none⟩, []),
 (⟨some 25, .bin .neq (.tmp 20) (.tmp 24), none⟩, [])])
 (.cond (.tmp 25)
 (.seq (.ops [⟨some 4, .move (.const (.bool false)), none⟩])
 (.ret))
 (.skip))))
 (.ops [⟨some 15, .move (.tmp 5), none⟩,
 ⟨some 16, .bin .add (.tmp 15) (.const (.int .i64 1)), none⟩,
 ⟨some 5, .move (.tmp 16), none⟩]))))))
 (.seq (.ops [⟨some 4, .move (.const (.bool true)), none⟩])
 (.ret))))⟩
/-- A context has these functions. -/
structure HasRef01 (c : Ctx) : Prop where
 hurdleref01_Ints : c.IP (c.F 69) = some (c_hurdleref01_Ints c.F c.Ty)

end Go.Proofs.YtndndcdblfejnaaGreatRI
namespace Go.Proofs.YtndndcdblfejnaaGreatRI
set_option linter.unusedSimpArgs false
set_option linter.unusedVariables false
open Go

def u8V (x : UInt8) : Value := .int .u8 (x.toNat : Nat)
def rowU (x : UInt8) : List Value := [u8V x]

/-- A number's groups of 7 bits. -/
def enc (u : Nat) : List UInt8 := if u < 128 then [UInt8.ofNat u] else UInt8.ofNat (u % 128 + 128) :: enc (u / 128)
termination_by u
decreasing_by omega

def zz (n : Int) : Nat := if 0 ≤ n then (2 * n).toNat else (-2 * n - 1).toNat
def unzz (u : Nat) : Int := if u % 2 = 0 then ((u / 2 : Nat) : Int) else -((u / 2 : Nat) : Int) - 1
def encI (n : Int) : List UInt8 := enc (zz n)

theorem unzz_zz (n : Int) : unzz (zz n) = n := by
  unfold zz unzz
  split <;> split <;> omega
theorem zz_unzz (u : Nat) : zz (unzz u) = u := by
  unfold zz unzz
  split <;> split <;> omega
theorem zz_lt {n : Int} (h1 : -9223372036854775808 ≤ n) (h2 : n < 9223372036854775808) : zz n < 18446744073709551616 := by
  unfold zz
  split <;> omega

theorem enc_small {u : Nat} (h : u < 128) : enc u = [UInt8.ofNat u] := by rw [enc, if_pos h]
theorem enc_big {u : Nat} (h : ¬ u < 128) : enc u = UInt8.ofNat (u % 128 + 128) :: enc (u / 128) := by rw [enc, if_neg h]
theorem enc_ne (u : Nat) : enc u ≠ [] := by rw [enc]; split <;> simp
theorem enc_len : ∀ (k u : Nat), u < 128 ^ (k + 1) → (enc u).length ≤ k + 1
  | 0, u, h => by rw [enc_small (by simpa using h)]; simp
  | k + 1, u, h => by
    by_cases hu : u < 128
    · rw [enc_small hu]; simp
    · rw [enc_big hu]
      have := enc_len k (u / 128) (by rw [Nat.pow_succ] at h; omega)
      simp; omega
theorem encI_len {n : Int} (h1 : -9223372036854775808 ≤ n) (h2 : n < 9223372036854775808) : (encI n).length ≤ 10 :=
  enc_len 9 _ (by have := zz_lt h1 h2; have e : (128 : Nat) ^ (9 + 1) = 1180591620717411303424 := by decide
                  omega)
theorem encI_ne (n : Int) : encI n ≠ [] := enc_ne _

/-- A number of bytes: the number, and how many bytes it has. -/
def dec (i u : Nat) : List UInt8 → Option (Nat × Nat)
  | [] => none
  | b :: s =>
    if 128 ≤ b.toNat then (if 9 ≤ i then none else dec (i + 1) (u + (b.toNat - 128) * 128 ^ i) s)
    else if (0 < i ∧ b.toNat = 0) ∨ (i = 9 ∧ 1 < b.toNat) then none
    else some (u + b.toNat * 128 ^ i, i + 1)

theorem dec_bound : ∀ (s : List UInt8) (i u w n : Nat), i ≤ 9 → u < 128 ^ i → dec i u s = some (w, n) → w < 18446744073709551616 ∧ i < n ∧ n ≤ i + s.length ∧ n ≤ 10
  | [], _, _, _, _, _, _, h => by simp [dec] at h
  | b :: s, i, u, w, n, hi, hu, h => by
    have hb := b.toNat_lt
    rw [dec] at h
    split at h
    · split at h
      · cases h
      · have e : 128 ^ (i + 1) = 128 * 128 ^ i := by rw [Nat.pow_succ, Nat.mul_comm]
        have hx : (b.toNat - 128) * 128 ^ i ≤ 127 * 128 ^ i := Nat.mul_le_mul_right _ (by omega)
        have := dec_bound s (i + 1) _ w n (by omega) (by omega) h
        simp only [List.length_cons]; omega
    · split at h
      · cases h
      · rename_i h1 h2
        simp only [Option.some.injEq, Prod.mk.injEq] at h
        obtain ⟨rfl, rfl⟩ := h
        simp only [List.length_cons]
        refine ⟨?_, by omega, by omega, by omega⟩
        by_cases h9 : i = 9
        · subst h9
          have : b.toNat ≤ 1 := by omega
          have hx : b.toNat * 128 ^ 9 ≤ 1 * 128 ^ 9 := Nat.mul_le_mul_right _ this
          have e : (128 : Nat) ^ 9 = 9223372036854775808 := by decide
          omega
        · have hx : b.toNat * 128 ^ i ≤ 127 * 128 ^ i := Nat.mul_le_mul_right _ (by omega)
          have hp : 128 ^ i ≤ 128 ^ 8 := Nat.pow_le_pow_right (by omega) (by omega)
          have e : (128 : Nat) ^ 8 = 72057594037927936 := by decide
          omega

/-- What is read is what was laid. -/
theorem dec_enc : ∀ (k i u w : Nat) (t : List UInt8), i + k = 10 → 1 ≤ k → w * 128 ^ i < 18446744073709551616 → (w = 0 → i = 0) → dec i u (enc w ++ t) = some (u + w * 128 ^ i, i + (enc w).length)
  | 0, _, _, _, _, _, h, _, _ => by omega
  | k + 1, i, u, w, t, hk, _, hw, h0 => by
    by_cases hs : w < 128
    · rw [enc_small hs]
      have e : (UInt8.ofNat w).toNat = w := by simp; omega
      simp only [List.cons_append, List.nil_append, dec, e, List.length_singleton]
      rw [if_neg (by omega), if_neg]
      rintro (⟨h1, h2⟩ | ⟨h1, h2⟩)
      · have := h0 h2; omega
      · subst h1
        have hx : 2 * 128 ^ 9 ≤ w * 128 ^ 9 := Nat.mul_le_mul_right _ (by omega)
        have e : (128 : Nat) ^ 9 = 9223372036854775808 := by decide
        omega
    · rw [enc_big hs]
      have e : (UInt8.ofNat (w % 128 + 128)).toNat = w % 128 + 128 := by simp; omega
      have hi : ¬ 9 ≤ i := by
        intro h9
        have : i = 9 := by omega
        subst this
        have hx : 128 * 128 ^ 9 ≤ w * 128 ^ 9 := Nat.mul_le_mul_right _ (by omega)
        have e : (128 : Nat) ^ 9 = 9223372036854775808 := by decide
        omega
      simp only [List.cons_append, dec, e, List.length_cons]
      rw [if_pos (by omega), if_neg hi]
      have e1 : 128 ^ (i + 1) = 128 * 128 ^ i := by rw [Nat.pow_succ, Nat.mul_comm]
      have e2 : w / 128 * 128 ^ (i + 1) = (w / 128 * 128) * 128 ^ i := by rw [e1, Nat.mul_assoc]
      have e3 : w * 128 ^ i = (w / 128 * 128) * 128 ^ i + (w % 128) * 128 ^ i := by rw [← Nat.add_mul]; congr 1; omega
      rw [dec_enc k (i + 1) _ (w / 128) t (by omega) (by omega) (by omega) (by omega)]
      simp only [Option.some.injEq, Prod.mk.injEq]
      refine ⟨?_, by omega⟩
      have : w % 128 + 128 - 128 = w % 128 := by omega
      rw [this]; omega

/-- Bytes that are read are just those of the number. -/
theorem enc_dec : ∀ (s : List UInt8) (i u w n : Nat), dec i u s = some (w, n) → ∃ v, w = u + v * 128 ^ i ∧ enc v = s.take (n - i) ∧ (v = 0 → i = 0)
  | [], _, _, _, _, h => by simp [dec] at h
  | b :: s, i, u, w, n, h => by
    have hb := b.toNat_lt
    rw [dec] at h
    split at h
    · split at h
      · cases h
      · rename_i h1 h9
        obtain ⟨v, rfl, h3, h4⟩ := enc_dec s (i + 1) _ w n h
        have hv : v ≠ 0 := fun h => by have := h4 h; omega
        have e1 : 128 ^ (i + 1) = 128 * 128 ^ i := by rw [Nat.pow_succ, Nat.mul_comm]
        refine ⟨b.toNat - 128 + v * 128, ?_, ?_, by omega⟩
        · rw [e1, Nat.add_mul, ← Nat.mul_assoc]; omega
        · rw [enc_big (by omega)]
          have q1 : (b.toNat - 128 + v * 128) % 128 + 128 = b.toNat := by omega
          have q2 : (b.toNat - 128 + v * 128) / 128 = v := by omega
          have hn : ∃ m, n - i = m + 1 ∧ n - (i + 1) = m := by
            by_cases hz : n - (i + 1) = 0
            · rw [hz, List.take_zero] at h3; exact absurd h3 (enc_ne _)
            · exact ⟨n - (i + 1), by omega, rfl⟩
          obtain ⟨m, hm1, hm2⟩ := hn
          rw [q1, q2, h3, hm1, hm2, List.take_succ_cons]
          simp
    · split at h
      · cases h
      · rename_i h1 h2
        simp only [Option.some.injEq, Prod.mk.injEq] at h
        obtain ⟨rfl, rfl⟩ := h
        refine ⟨b.toNat, rfl, ?_, by omega⟩
        rw [enc_small (by omega)]
        have : i + 1 - i = 1 := by omega
        rw [this]
        simp

theorem dec_encI {n : Int} (h1 : -9223372036854775808 ≤ n) (h2 : n < 9223372036854775808) (t : List UInt8) : dec 0 0 (encI n ++ t) = some (zz n, (encI n).length) := by
  have := dec_enc 10 0 0 (zz n) t rfl (by omega) (by simpa using zz_lt h1 h2) (by simp)
  simpa [encI] using this
theorem encI_dec {s : List UInt8} {u n : Nat} (h : dec 0 0 s = some (u, n)) : encI (unzz u) = s.take n := by
  obtain ⟨v, rfl, h2, _⟩ := enc_dec s 0 0 u n h
  unfold encI
  rw [zz_unzz]
  simpa using h2

/-! ### the machine's words -/

theorem wrapU {n : Int} (h : 0 ≤ n) (k : n < 18446744073709551616) : IntKind.u64.wrap n = n := by
  have e1 : (2 ^ IntKind.u64.bits : Int) = 18446744073709551616 := by decide
  unfold IntKind.wrap
  simp only [e1, IntKind.signed, Bool.false_and]
  rw [if_neg (by simp)]
  omega
theorem wrapU_mod (n : Int) : IntKind.u64.wrap n = n % 18446744073709551616 := by
  have e1 : (2 ^ IntKind.u64.bits : Int) = 18446744073709551616 := by decide
  unfold IntKind.wrap
  simp only [e1, IntKind.signed, Bool.false_and]
  rw [if_neg (by simp)]
theorem wrapB_mod (n : Int) : IntKind.u8.wrap n = n % 256 := by
  have e1 : (2 ^ IntKind.u8.bits : Int) = 256 := by decide
  unfold IntKind.wrap
  simp only [e1, IntKind.signed, Bool.false_and]
  rw [if_neg (by simp)]

theorem bv64 (a : Nat) (h : a < 18446744073709551616) : BitVec.ofInt IntKind.u64.bits (a : Int) = BitVec.ofNat 64 a := by
  show BitVec.ofInt 64 (a : Int) = _
  simp
theorem xor_ones (a : Nat) (h : a < 18446744073709551616) : (BitVec.ofNat 64 a ^^^ BitVec.ofNat 64 18446744073709551615).toNat = 18446744073709551615 - a := by
  have : (BitVec.ofNat 64 18446744073709551615) = BitVec.allOnes 64 := by decide
  rw [this, BitVec.xor_allOnes, BitVec.toNat_not, BitVec.toNat_ofNat, Nat.mod_eq_of_lt h]

theorem xorU {a b : Nat} (h : a < 18446744073709551616) (k : b < 18446744073709551616) : xorW .u64 (a : Int) (b : Int) = ((a ^^^ b : Nat) : Int) := by
  show IntKind.u64.wrap (((BitVec.ofInt 64 (a : Int) ^^^ BitVec.ofInt 64 (b : Int)).toNat : Nat) : Int) = _
  have e : (BitVec.ofInt 64 (a : Int) ^^^ BitVec.ofInt 64 (b : Int)).toNat = a ^^^ b := by
    rw [BitVec.toNat_xor, BitVec.ofInt_natCast, BitVec.ofInt_natCast, BitVec.toNat_ofNat, BitVec.toNat_ofNat, Nat.mod_eq_of_lt h, Nat.mod_eq_of_lt k]
  have hlt : a ^^^ b < 2 ^ 64 := Nat.xor_lt_two_pow h k
  rw [e]
  exact wrapU (by omega) (by omega)
theorem orU {a b : Nat} (h : a < 18446744073709551616) (k : b < 18446744073709551616) : orW .u64 (a : Int) (b : Int) = ((a ||| b : Nat) : Int) := by
  show IntKind.u64.wrap (((BitVec.ofInt 64 (a : Int) ||| BitVec.ofInt 64 (b : Int)).toNat : Nat) : Int) = _
  have e : (BitVec.ofInt 64 (a : Int) ||| BitVec.ofInt 64 (b : Int)).toNat = a ||| b := by
    rw [BitVec.toNat_or, BitVec.ofInt_natCast, BitVec.ofInt_natCast, BitVec.toNat_ofNat, BitVec.toNat_ofNat, Nat.mod_eq_of_lt h, Nat.mod_eq_of_lt k]
  have hlt : a ||| b < 2 ^ 64 := Nat.or_lt_two_pow h k
  rw [e]
  exact wrapU (by omega) (by omega)
theorem andU {a b : Nat} (h : a < 18446744073709551616) (k : b < 18446744073709551616) : andW .u64 (a : Int) (b : Int) = ((a &&& b : Nat) : Int) := by
  show IntKind.u64.wrap (((BitVec.ofInt 64 (a : Int) &&& BitVec.ofInt 64 (b : Int)).toNat : Nat) : Int) = _
  have e : (BitVec.ofInt 64 (a : Int) &&& BitVec.ofInt 64 (b : Int)).toNat = a &&& b := by
    rw [BitVec.toNat_and, BitVec.ofInt_natCast, BitVec.ofInt_natCast, BitVec.toNat_ofNat, BitVec.toNat_ofNat, Nat.mod_eq_of_lt h, Nat.mod_eq_of_lt k]
  have hlt : a &&& b < 2 ^ 64 := Nat.lt_of_le_of_lt Nat.and_le_left h
  rw [e]
  exact wrapU (by omega) (by omega)
theorem and127 (a : Nat) : a &&& 127 = a % 128 := Nat.and_two_pow_sub_one_eq_mod a 7
theorem and1 (a : Nat) : a &&& 1 = a % 2 := Nat.and_two_pow_sub_one_eq_mod a 1
theorem xor_ones64 {a : Nat} (h : a < 18446744073709551616) : a ^^^ 18446744073709551615 = 18446744073709551615 - a := by
  have := xor_ones a h
  rw [BitVec.toNat_xor, BitVec.toNat_ofNat, BitVec.toNat_ofNat, Nat.mod_eq_of_lt h] at this
  exact this
theorem shlU (a : Nat) : shlW .u64 (a : Int) 1 = ((a * 2 % 18446744073709551616 : Nat) : Int) := by
  have e : (2 : Int) ^ min (Int.toNat 1) IntKind.u64.bits = 2 := by decide
  unfold shlW
  rw [e, wrapU_mod]
  omega
theorem shrU7 (a : Nat) : shrW .u64 (a : Int) 7 = ((a / 128 : Nat) : Int) := by
  have e : (2 : Int) ^ min (Int.toNat 7) IntKind.u64.bits = 128 := by decide
  unfold shrW
  rw [e, Int.fdiv_eq_ediv_of_nonneg _ (by omega)]
  omega
theorem shrU1 (a : Nat) : shrW .u64 (a : Int) 1 = ((a / 2 : Nat) : Int) := by
  have e : (2 : Int) ^ min (Int.toNat 1) IntKind.u64.bits = 2 := by decide
  unfold shrW
  rw [e, Int.fdiv_eq_ediv_of_nonneg _ (by omega)]
  omega
theorem zzW {n : Int} (h1 : -9223372036854775808 ≤ n) (h2 : n < 9223372036854775808) : xorW .u64 (shlW .u64 (IntKind.u64.wrap n) 1) (IntKind.u64.wrap (shrW .i64 n 63)) = (zz n : Int) := by
  have e : (2 : Int) ^ min (Int.toNat 63) IntKind.i64.bits = 9223372036854775808 := by decide
  have hz := zz_lt h1 h2
  have hs : shrW .i64 n 63 = if 0 ≤ n then 0 else -1 := by
    unfold shrW
    rw [e, Int.fdiv_eq_ediv_of_nonneg _ (by omega)]
    split <;> omega
  rw [hs]
  by_cases hn : 0 ≤ n
  · have e1 : IntKind.u64.wrap n = ((n.toNat : Nat) : Int) := by rw [wrapU_mod]; omega
    have e2 : IntKind.u64.wrap 0 = ((0 : Nat) : Int) := by decide
    have e3 : zz n = n.toNat * 2 := by unfold zz; rw [if_pos hn]; omega
    rw [if_pos hn, e1, shlU, e2]
    rw [xorU (Nat.mod_lt _ (by omega)) (by omega), Nat.mod_eq_of_lt (by omega), Nat.xor_zero, e3]
  · have e1 : IntKind.u64.wrap n = (((n + 18446744073709551616).toNat : Nat) : Int) := by rw [wrapU_mod]; omega
    have e2 : IntKind.u64.wrap (-1) = ((18446744073709551615 : Nat) : Int) := by decide
    have e3 : zz n = (-2 * n - 1).toNat := by unfold zz; rw [if_neg hn]
    rw [if_neg hn, e1, shlU, e2]
    rw [xorU (Nat.mod_lt _ (by omega)) (by omega), xor_ones64 (Nat.mod_lt _ (by omega)), e3]
    omega
theorem orB_tab : ∀ x : Fin 256, orW .u8 (x.val : Int) 128 = ((x.val % 128 + 128 : Nat) : Int) := by decide +kernel
theorem orB (u : Nat) : orW .u8 (IntKind.u8.wrap (u : Int)) 128 = (((UInt8.ofNat (u % 128 + 128)).toNat : Nat) : Int) := by
  have e : IntKind.u8.wrap (u : Int) = ((u % 256 : Nat) : Int) := by rw [wrapB_mod]; omega
  have h := orB_tab ⟨u % 256, Nat.mod_lt _ (by omega)⟩
  rw [e]
  simp only at h
  rw [h]
  simp only [UInt8.toNat_ofNat']
  omega
theorem conB {u : Nat} (h : u < 128) : IntKind.u8.wrap (u : Int) = (((UInt8.ofNat u).toNat : Nat) : Int) := by
  rw [wrapB_mod]; simp only [UInt8.toNat_ofNat']; omega
theorem conB' (n : Int) : IntKind.u8.wrap n = (((UInt8.ofNat (n % 256).toNat).toNat : Nat) : Int) := by
  rw [wrapB_mod]; simp only [UInt8.toNat_ofNat']; omega

end Go.Proofs.YtndndcdblfejnaaGreatRI
namespace Go.Proofs.YtndndcdblfejnaaGreatRI
attribute [local simp] J0 J1 J2 J3 J4 J5 J6 J7 J8 J9 Ja Jb Jc Jd Je Jf Jg Jh Ji Jj Jk Jl Jm Jn Jo Jp Jq Jr Js Jt Ju Jv Jw Jx Jy Jz JA JB JC JD JE JF JG JH JI JJ JK JL JM JN JO JP JQ JR JS stillI IOp.kind JT JU JV JW JX JY JZ Y0 Y1 Y2 Y3 Y4 Y5 Y6 Y7 Y8 Y9 Ya Yb Yc Yd Ye Yf Yg Yh Yi Yj Yk Yl Ym Yn Yo Yp Yq ial Yr Ys Yt Yu Yv Yw Yx Yy ires iresL ires1 Yz YA YB YC YD YE bin2 YF YG YH YI YJ YK YL YM YN YO YP YQ YR YS YT YU un1 shOk eqL eq1 fillL putAt IHeap.load1 IHeap.loadL IHeap.storeL YV YW YX YY YZ B0 B1 B2 B3 B4 B5 B6 B7 B8 B9 Ba Bb Bc Bd Be Bf Bg Bh Bi Bj Bk Bl Bm Bn Bo Bp
set_option linter.unusedSimpArgs false
set_option linter.unusedVariables false
open Go

section
variable (c : Ctx) (hc : HasCodec c) {H : IHeap} {K : Value → IHeap → Prop}
include hc

theorem number_ok {B : Nat} {v : Value} {l : List UInt8} {n : Int} (h1 : -9223372036854775808 ≤ n) (h2 : n < 9223372036854775808) (hb : Buf H B 1 v (l.map rowU)) (hB : B ≤ H.next) (hl : l.length ≤ 1000000000)
    (hK : ∀ v' H', Own H' B 1 v' ((l ++ encI n).map rowU) → IHeap.keep B H H' → K v' H') : c.C (c.F n_codec_number) [v, .int .i64 n] H K := by
  refine c.enter hc.codec_number rfl ?_
  have hzz := zzW h1 h2
  simp -implicitDefEqProofs [c_codec_number, hzz]
  refine loop_nat c.mono (fun u T H' => ∃ (l' : List UInt8) (v' : Value), T 0 = v' ∧ T 5 = .int .u64 u ∧ Buf H' B 1 v' (l'.map rowU) ∧ IHeap.keep B H H' ∧ l' ++ enc u = l ++ encI n) (zz n) ?_ ?_
  · exact ⟨l, v, by simp -implicitDefEqProofs [], by simp -implicitDefEqProofs [], hb, IHeap.keep_refl _ _, rfl⟩
  · rintro u T H' ⟨l', v', t0, t5, hb', hk, heq⟩
    have hll : l'.length ≤ l.length + 10 := by
      have := congrArg List.length heq
      have := encI_len h1 h2
      simp only [List.length_append] at *
      omega
    have hkn := hk.next
    by_cases hu : 128 ≤ u
    · have hu' : (128 : Int) ≤ (u : Int) := by omega
      obtain ⟨x, hor, hx⟩ : ∃ x : UInt8, orW .u8 (IntKind.u8.wrap (u : Int)) 128 = ((x.toNat : Nat) : Int) ∧ x = UInt8.ofNat (u % 128 + 128) := ⟨_, orB u, rfl⟩
      have hsh := shrU7 u
      simp -implicitDefEqProofs [t0, t5, hu', hu, hor, lenOfI, firstI, IHeap.loadL]
      obtain ⟨v2, H2, e2, o2, k2⟩ := (hb'.le (H'.le_alloc (.cells (rowU x) false))).append1 (bytes := 1) (new := rowU x) (by simp only [YX]; omega) (by omega) (by omega) (by simp; omega) (by simp; omega) rfl rfl
      simp only [rowU, u8V] at e2
      simp -implicitDefEqProofs [e2, t5, hsh]
      refine ⟨u / 128, by omega, by omega, l' ++ [x], by rw [List.map_append]; exact .inr (.inr o2), hk.trans ((H'.le_alloc _).keep (by omega) |>.trans k2), ?_⟩
      rw [← heq, enc_big (u := u) (by omega), hx]
      simp
    · have hu' : ¬ (128 : Int) ≤ (u : Int) := by omega
      obtain ⟨x, hor, hx⟩ : ∃ x : UInt8, IntKind.u8.wrap (u : Int) = ((x.toNat : Nat) : Int) ∧ x = UInt8.ofNat u := ⟨_, conB (by omega), rfl⟩
      simp -implicitDefEqProofs [t0, t5, hu', hu, hor, lenOfI, firstI, IHeap.loadL]
      obtain ⟨v2, H2, e2, o2, k2⟩ := (hb'.le (H'.le_alloc (.cells (rowU x) false))).append1 (bytes := 1) (new := rowU x) (by simp only [YX]; omega) (by omega) (by omega) (by simp; omega) (by simp; omega) rfl rfl
      simp only [rowU, u8V] at e2
      simp -implicitDefEqProofs [e2]
      refine hK _ _ ?_ (hk.trans ((H'.le_alloc _).keep (by omega) |>.trans k2))
      rw [← heq, enc_small (by omega), ← hx, List.map_append]
      exact o2

omit hc in
theorem Buf.str {B : Nat} {v : Value} {l t : List UInt8} (hb : Own H B 1 v (l.map rowU)) (hB : B ≤ H.next) (hl : l.length + t.length ≤ 140737488355328) :
    ∃ v' H', appendI H 1 1 v t.length (t.map fun b => .int .u8 (b.toNat : Nat)) = some (v', H') ∧ Own H' B 1 v' ((l ++ t).map rowU) ∧ IHeap.keep B H H' := by
  have hfl : ∀ t : List UInt8, (t.map rowU).flatten = t.map fun b => .int .u8 (b.toNat : Nat) := fun t => by
    induction t with
    | nil => rfl
    | cons a t ih => simp only [List.map_cons, List.flatten_cons, ih]; rfl
  by_cases ht : t = []
  · subst ht
    refine ⟨v, H, ?_, by simpa using hb, IHeap.keep_refl _ _⟩
    exact appendI_zero (B := B) (.inr (.inr hb)) (by omega) (by omega) (by simp at hl ⊢; omega) (by simp at hl ⊢; omega)
  · have h := Buf.append (bytes := 1) (new := t.map rowU) (.inr (.inr hb)) hB (by omega) (by omega) (by simp; omega) (by simp; omega) (fun r hr => by simp only [List.mem_map] at hr; obtain ⟨x, _, rfl⟩ := hr; rfl) (by
        rw [hfl, List.all_eq_true]; intro x hx; simp only [List.mem_map] at hx; obtain ⟨y, _, rfl⟩ := hx; rfl) (by simpa using ht)
    rw [hfl, List.length_map] at h
    rw [List.map_append]
    exact h

theorem IntF_ok {B : Nat} {v : Value} {l : List UInt8} {n : Int} {p : Nat} {ro : Bool} (hp : H.get p = some (.cells [.int .i64 n] ro)) (h1 : -9223372036854775808 ≤ n) (h2 : n < 9223372036854775808) (hb : Buf H B 1 v (l.map rowU)) (hB : B ≤ H.next) (hl : l.length ≤ 100000000)
    (hK : ∀ v' H', Own H' B 1 v' ((l ++ encI n).map rowU) → IHeap.keep B H H' → K v' H') : c.C (c.F n_codec_Writer_Int_F1) [v, .pointer (some ⟨p, 0, none⟩)] H K := by
  refine c.enter hc.codec_Writer_Int_F1 rfl ?_
  simp -implicitDefEqProofs [c_codec_Writer_Int_F1, hp]
  refine call_of (number_ok c hc h1 h2 hb hB (by omega) fun v1 H1 o1 k1 => ?_)
  simp -implicitDefEqProofs []
  exact hK _ _ o1 k1

theorem ByteF_ok {B : Nat} {v : Value} {l : List UInt8} {n : Int} {p : Nat} {ro : Bool} (hp : H.get p = some (.cells [.int .i64 n] ro)) (hpn : p < H.next) (hb : Buf H B 1 v (l.map rowU)) (hB : B ≤ H.next) (hl : l.length ≤ 100000000)
    (hK : ∀ v' H', Own H' B 1 v' ((l ++ [UInt8.ofNat (n % 256).toNat]).map rowU) → IHeap.keep B H H' → K v' H') : c.C (c.F n_codec_Writer_Byte_F1) [v, .pointer (some ⟨p, 0, none⟩)] H K := by
  refine c.enter hc.codec_Writer_Byte_F1 rfl ?_
  obtain ⟨x, hor, hx⟩ : ∃ x : UInt8, IntKind.u8.wrap n = ((x.toNat : Nat) : Int) ∧ x = UInt8.ofNat (n % 256).toNat := ⟨_, conB' n, rfl⟩
  rw [← hx] at hK
  simp -implicitDefEqProofs [c_codec_Writer_Byte_F1, hp, hor, lenOfI, firstI, IHeap.loadL]
  obtain ⟨v2, H2, e2, o2, k2⟩ := (hb.le (H.le_alloc (.cells (rowU x) false))).append1 (bytes := 1) (new := rowU x) (by simp only [YX]; omega) (by omega) (by omega) (by simp; omega) (by simp; omega) rfl rfl
  simp only [rowU, u8V] at e2
  simp -implicitDefEqProofs [e2]
  refine hK _ _ ?_ ((H.le_alloc _).keep (by omega) |>.trans k2)
  rw [List.map_append]
  exact o2

def encInts (l : List Int) : List UInt8 := (l.map encI).flatten
def encTexts (l : List (List UInt8)) : List UInt8 := (l.map fun t => encI t.length ++ t).flatten

theorem IntsF_ok {B : Nat} {v u : Value} {l : List UInt8} {m : List Int} {p : Nat} {ro : Bool} (hp : H.get p = some (.cells [u] ro)) (hpB : p < B) (hs : SlR H 1 u (m.map fun n => [.int .i64 n])) (hBe : B = H.next)
    (hm : ∀ n ∈ m, -9223372036854775808 ≤ n ∧ n < 9223372036854775808) (hml : m.length ≤ 1000000) (hb : Buf H B 1 v (l.map rowU)) (hB : B ≤ H.next) (hl : l.length ≤ 1000000)
    (hK : ∀ v' H', Own H' B 1 v' ((l ++ (encI m.length ++ encInts m)).map rowU) → IHeap.keep B H H' → K v' H') : c.C (c.F n_codec_Writer_Ints_F1) [v, .pointer (some ⟨p, 0, none⟩)] H K := by
  refine c.enter hc.codec_Writer_Ints_F1 rfl ?_
  have hs' := hs
  obtain ⟨a, cap, rfl, _⟩ := hs
  simp only [List.length_map] at hp hs' ⊢
  simp -implicitDefEqProofs [c_codec_Writer_Ints_F1, hp]
  refine call_of (number_ok c hc (by omega) (by omega) hb hB (by omega) fun v1 H1 o1 k1 => ?_)
  have hp1 := (k1.get p hpB).trans hp
  have hn : (l ++ encI m.length).length ≤ 1000010 := by
    have := encI_len (n := m.length) (by omega) (by omega)
    simp; omega
  simp -implicitDefEqProofs [hp1]
  refine loop_nat c.mono (fun k T H' => ∃ (i : Nat) (v' : Value), i ≤ m.length ∧ k = m.length - i ∧ T 0 = v' ∧ T 12 = .int .i64 i ∧ T 10 = .slice a m.length cap ∧ T 11 = .int .i64 m.length ∧ Own H' B 1 v' ((l ++ (encI m.length ++ encInts (m.take i))).map rowU) ∧ IHeap.keep B H H') m.length ?_ ?_
  · refine ⟨0, v1, by omega, rfl, ?_⟩
    simp -implicitDefEqProofs []
    exact ⟨by simpa [encInts] using o1, k1⟩
  · rintro k T H' ⟨i, v', hi, rfl, t0, t12, t10, t11, hb', hk⟩
    have hll : (l ++ (encI m.length ++ encInts (m.take i))).length ≤ 1000010 + i * 10 := by
      have : (encInts (m.take i)).length ≤ i * 10 := by
        have hq : ∀ q : List Int, (∀ n ∈ q, -9223372036854775808 ≤ n ∧ n < 9223372036854775808) → (encInts q).length ≤ q.length * 10 := fun q => by
          induction q with
          | nil => simp [encInts]
          | cons x q ih =>
            intro h
            have h1 := encI_len (h x (by simp)).1 (h x (by simp)).2
            have h2 := ih fun n hn => h n (by simp [hn])
            simp only [encInts, List.map_cons, List.flatten_cons, List.length_append, List.length_cons] at *
            omega
        have := hq (m.take i) fun n hn => hm n (List.mem_of_mem_take hn)
        simp only [List.length_take] at this
        omega
      simp only [List.length_append] at *
      omega
    by_cases him : i < m.length
    · have hic : (i : Int) < (m.length : Int) := by omega
      obtain ⟨b, o, cap', cs, ro', e, hb1, hget, hat⟩ := hs'.at1 (i := i) (x := .int .i64 m[i]) (by simp [him])
      simp only [Value.slice.injEq] at e
      obtain ⟨rfl, -, rfl⟩ := e
      have hget' := (hk.get b (by omega)).trans hget
      have hw : IntKind.i64.wrap ((i : Int) + 1) = (i : Int) + 1 := wrap64 (by omega) (by omega)
      have hmi := hm m[i] (by simp)
      simp -implicitDefEqProofs [t0, t12, t10, t11, hic, him, hget', hat]
      refine call_of (number_ok c hc hmi.1 hmi.2 (.inr (.inr hb')) (Nat.le_trans hB hk.next) (by omega) fun v2 H2 o2 k2 => ?_)
      simp -implicitDefEqProofs [t0, t12, t10, t11, hw]
      refine ⟨m.length - (i + 1), by omega, i + 1, by omega, rfl, by simp, ?_, hk.trans k2⟩
      have : encInts (m.take (i + 1)) = encInts (m.take i) ++ encI m[i] := by
        simp only [encInts, List.take_add_one, List.getElem?_eq_getElem him, List.map_append, List.flatten_append, Option.toList_some, List.map_cons, List.map_nil, List.flatten_cons, List.flatten_nil, List.append_nil]
      rw [this]
      simpa using o2
    · have hie : i = m.length := by omega
      subst hie
      simp -implicitDefEqProofs [t0, t12, t10, t11]
      rw [List.take_length] at hb'
      exact hK _ _ hb' hk


omit hc in
theorem flat_take_le {α : Type} : ∀ (l : List (List α)) (i : Nat), (l.take i).flatten.length ≤ l.flatten.length
  | [], _ => by simp
  | x :: l, 0 => by simp
  | x :: l, i + 1 => by have := flat_take_le l i; simp only [List.take_succ_cons, List.flatten_cons, List.length_append]; omega
omit hc in
theorem flat_mem_le {α : Type} {x : List α} : ∀ {l : List (List α)}, x ∈ l → x.length ≤ l.flatten.length
  | [], h => by simp at h
  | y :: l, h => by
    rcases List.mem_cons.1 h with rfl | h
    · simp
    · have := flat_mem_le h
      simp only [List.flatten_cons, List.length_append]; omega

end

/-! ### a writer -/

structure Wr where
  most : Int
  b : List UInt8
  e : Int
def Wr.lay (w : Wr) (x : List UInt8) : Wr := if w.e ≠ 0 then w else if w.most < (w.b ++ x).length then { w with e := 2 } else { w with b := w.b ++ x }
def Wr.ok (w : Wr) : Prop := 0 ≤ w.most ∧ w.most ≤ 65536 ∧ (w.b.length : Int) ≤ w.most
theorem Wr.ok.lay {w : Wr} (h : w.ok) (x : List UInt8) : (w.lay x).ok := by
  unfold Wr.lay
  split
  · exact h
  · split
    · exact h
    · exact ⟨h.1, h.2.1, by simp only; omega⟩

/-- A writer, where it stands. -/
def IsW (H : IHeap) (p : Nat) (w : Wr) : Prop :=
  p < H.next ∧ w.ok ∧ ∃ v, H.get p = some (.cells [.int .i64 w.most, v, .int .i64 w.e] false) ∧ ((w.b = [] ∧ v = .slice none 0 0) ∨ Own H 0 1 v (w.b.map rowU))

theorem Own.off {H : IHeap} {B p : Nat} {v : Value} {x : Int} {cs : List Value} {l : List UInt8} {ro : Bool} (h : Own H B 1 v (l.map rowU)) (hp : H.get p = some (.cells (.int .i64 x :: cs) ro)) (o : IObj) : Own (H.set p o) B 1 v (l.map rowU) := by
  obtain ⟨h0, blk, h1, h2, h3, h4⟩ := h
  refine ⟨h0, blk, h1, h2, h3, ?_⟩
  rw [YW, if_neg]
  · exact h4
  · rintro rfl
    rw [hp] at h4
    simp only [Option.some.injEq, IObj.cells.injEq] at h4
    cases l with
    | nil => simp at h4
    | cons a l => simp [rowU, u8V] at h4

theorem IsW.le {H H' : IHeap} {p : Nat} {w : Wr} (h : IsW H p w) (hl : H.le H') : IsW H' p w := by
  obtain ⟨h1, h2, v, h3, h4⟩ := h
  exact ⟨Nat.lt_of_lt_of_le h1 hl.next, h2, v, (hl.get p h1).trans h3, h4.imp id fun h => h.le hl⟩

/-- The whole of a writer's bytes, with no room behind it. -/
theorem IsW.cut {H : IHeap} {v : Value} {l : List UInt8} (h : (l = [] ∧ v = .slice none 0 0) ∨ Own H 0 1 v (l.map rowU)) (hl : l.length < UNK) :
    ∃ a cap v', v = .slice a l.length cap ∧ sliceI H 1 a l.length cap 0 l.length (some l.length) = some v' ∧ Buf H H.next 1 v' (l.map rowU) := by
  rcases h with ⟨rfl, rfl⟩ | ⟨h0, blk, h1, h2, rfl, h4⟩
  · exact ⟨none, 0, .slice none 0 0, rfl, by simp [sliceI, UNK], .inl ⟨rfl, rfl⟩⟩
  · refine ⟨_, _, .slice (some ⟨blk, 0, none⟩) l.length l.length, by rw [List.length_map], ?_, .inr (.inl ⟨h0, blk, 0, _, false, h2, by simpa using hl, by rw [List.length_map], h4, ?_, ?_⟩)⟩
    · have hU : ¬ (UNK + 1 < UNK) := by omega
      simp [sliceI, hU, hl]
    · have := flat_len (l.map rowU) 1 h0
      rw [List.drop_zero, List.take_of_length_le (by omega)]
    · have := flat_len (l.map rowU) 1 h0
      omega

section
variable (c : Ctx) (hc : HasCodec c) {H : IHeap} {K : Value → IHeap → Prop}
include hc

theorem lay_ok {p : Nat} {w : Wr} {g : FuncId} {cap : Value} {x : List UInt8} (hw : IsW H p w) (hx : x.length ≤ 1000000000)
    (hf : ∀ (v : Value) (K' : Value → IHeap → Prop), Buf H H.next 1 v (w.b.map rowU) → (∀ v' H2, Own H2 H.next 1 v' ((w.b ++ x).map rowU) → IHeap.keep H.next H H2 → K' v' H2) → c.C g [v, cap] H K')
    (hK : ∀ H', IHeap.upd [p] H H' → IsW H' p (w.lay x) → K (.tuple #[]) H') : c.C (c.F n_codec_Writer_lay) [.pointer (some ⟨p, 0, none⟩), .func (.func g) #[] #[cap]] H K := by
  refine c.enter hc.codec_Writer_lay rfl ?_
  have hw' := hw
  obtain ⟨h1, ⟨m1, m2, m3⟩, v, h3, h4⟩ := hw
  by_cases he : w.e = 0
  · obtain ⟨a, cp, v', rfl, hsl, hb⟩ := IsW.cut h4 (by unfold UNK; omega)
    simp -implicitDefEqProofs [c_codec_Writer_lay, h3, he, nilOf, boundsI, natI, hsl]
    refine dcall_of c.mono (hf v' _ hb fun v2 H2 o2 k2 => ?_)
    have h3' := (k2.get p h1).trans h3
    have hk2 := k2.next
    obtain ⟨a2, c2, rfl⟩ := o2.len
    simp only [List.length_map] at o2 ⊢
    have hlay : w.lay x = if w.most < (w.b ++ x).length then { w with e := 2 } else { w with b := w.b ++ x } := by
      unfold Wr.lay; rw [if_neg (by simpa using he)]
    by_cases hlen : w.most < (w.b.length : Int) + x.length
    · simp -implicitDefEqProofs [h3', hlen]
      refine hK _ ((k2.upd (Nat.le_refl _)).set (.inr (by simp)) _) ?_
      rw [hlay, if_pos (by simpa using hlen)]
      refine ⟨Nat.lt_of_lt_of_le h1 hk2, ⟨m1, m2, m3⟩, _, by rw [YW, if_pos rfl], ?_⟩
      exact h4.imp id fun h => (h.le (k2.le (Nat.le_refl _))).off h3' _
    · simp -implicitDefEqProofs [h3', hlen]
      refine hK _ ((k2.upd (Nat.le_refl _)).set (.inr (by simp)) _) ?_
      rw [hlay, if_neg (by simpa using hlen)]
      refine ⟨Nat.lt_of_lt_of_le h1 hk2, ⟨m1, m2, by simp only [List.length_append]; omega⟩, _, by rw [YW, if_pos rfl, he], .inr ?_⟩
      have := (o2.weak (Nat.zero_le _)).off h3' (.cells [.int .i64 w.most, .slice a2 (w.b ++ x).length c2, .int .i64 0] false)
      simpa [he] using this
  · simp -implicitDefEqProofs [c_codec_Writer_lay, h3, he, nilOf]
    refine hK _ (IHeap.upd_refl _ _) ?_
    unfold Wr.lay
    rw [if_pos he]; exact hw'


theorem WInt_ok {p : Nat} {w : Wr} {n : Int} (hw : IsW H p w) (h1 : -9223372036854775808 ≤ n) (h2 : n < 9223372036854775808)
    (hK : ∀ H', IHeap.upd [p] H H' → IsW H' p (w.lay (encI n)) → K (.tuple #[]) H') : c.C (c.F n_codec_Writer_Int) [.pointer (some ⟨p, 0, none⟩), .int .i64 n] H K := by
  refine c.enter hc.codec_Writer_Int rfl ?_
  have hl := encI_len h1 h2
  have hb := hw.2.1
  simp -implicitDefEqProofs [c_codec_Writer_Int]
  refine call_of (lay_ok c hc (x := encI n) (hw.le (H.le_alloc _)) (by omega) (fun v K' hv hK' => IntF_ok c hc (p := H.next) (ro := false) (by simp -implicitDefEqProofs []) h1 h2 hv (Nat.le_refl _) (by have := hb.2.2; have := hb.2.1; omega) hK') fun H' u' w' => ?_)
  simp -implicitDefEqProofs []
  exact hK _ ((H.le_alloc _).updTrans u') w'

omit hc in
theorem encInts_len : ∀ q : List Int, (∀ n ∈ q, -9223372036854775808 ≤ n ∧ n < 9223372036854775808) → (encInts q).length ≤ q.length * 10
  | [], _ => by simp [encInts]
  | x :: q, h => by
    have h1 := encI_len (h x (by simp)).1 (h x (by simp)).2
    have h2 := encInts_len q fun n hn => h n (by simp [hn])
    simp only [encInts, List.map_cons, List.flatten_cons, List.length_append, List.length_cons] at *
    omega

theorem WInts_ok {p : Nat} {w : Wr} {m : List Int} {u : Value} (hw : IsW H p w) (hs : SlR H 1 u (m.map fun n => [.int .i64 n])) (hm : ∀ n ∈ m, -9223372036854775808 ≤ n ∧ n < 9223372036854775808) (hml : m.length ≤ 1000000)
    (hK : ∀ H', IHeap.upd [p] H H' → IsW H' p (w.lay (encI m.length ++ encInts m)) → K (.tuple #[]) H') : c.C (c.F n_codec_Writer_Ints) [.pointer (some ⟨p, 0, none⟩), u] H K := by
  refine c.enter hc.codec_Writer_Ints rfl ?_
  have hl := encI_len (n := m.length) (by omega) (by omega)
  have hl2 := encInts_len m hm
  have hb := hw.2.1
  have hs' := hs
  obtain ⟨a, cap, rfl, _⟩ := hs
  simp -implicitDefEqProofs [c_codec_Writer_Ints]
  refine call_of (lay_ok c hc (x := encI m.length ++ encInts m) (hw.le (H.le_alloc _)) (by simp; omega) (fun v K' hv hK' => IntsF_ok c hc (p := H.next) (u := .slice a m.length cap) (ro := false) (by simp -implicitDefEqProofs []) (by simp [YX]) (by simpa using hs'.le (H.le_alloc _)) rfl hm hml hv (Nat.le_refl _) (by have := hb.2.2; have := hb.2.1; omega) hK') fun H' u' w' => ?_)
  simp -implicitDefEqProofs []
  exact hK _ ((H.le_alloc _).updTrans u') w'

omit hc in
def Wr.byte (w : Wr) (n : Int) : Wr := (if w.e = 0 ∧ (n < 0 ∨ 255 < n) then { w with e := 1 } else w).lay [UInt8.ofNat (n % 256).toNat]

theorem WByte_ok {p : Nat} {w : Wr} {n : Int} (hw : IsW H p w)
    (hK : ∀ H', IHeap.upd [p] H H' → IsW H' p (w.byte n) → K (.tuple #[]) H') : c.C (c.F n_codec_Writer_Byte) [.pointer (some ⟨p, 0, none⟩), .int .i64 n] H K := by
  refine c.enter hc.codec_Writer_Byte rfl ?_
  have hw' := hw
  obtain ⟨h1, ⟨m1, m2, m3⟩, v, h3, h4⟩ := hw
  have hpn : p ≠ H.next := by omega
  unfold Wr.byte at hK
  by_cases he : w.e = 0 ∧ (n < 0 ∨ 255 < n)
  · have hbad : (decide (n < 0) || decide (255 < n)) = true := by simpa using he.2
    have key : IsW ((H.alloc (.cells [.int .i64 n] false)).set p (.cells [.int .i64 w.most, v, .int .i64 1] false)) p { w with e := 1 } :=
      ⟨by simp only [YY, YX]; omega, ⟨m1, m2, m3⟩, v, by rw [YW, if_pos rfl], h4.imp id fun h => (h.le (H.le_alloc _)).off (p := p) (x := w.most) (by rw [YV, if_neg hpn]; exact h3) _⟩
    rw [if_pos he] at hK
    have he0 := he.1
    by_cases hn : n < 0
    · simp -implicitDefEqProofs [c_codec_Writer_Byte, h3, he0, nilOf, hn, hpn]
      refine call_of (lay_ok c hc (x := [UInt8.ofNat (n % 256).toNat]) key (by simp) (fun v K' hv hK' => ByteF_ok c hc (n := n) (ro := false) (p := H.next) (by rw [YW, if_neg (Ne.symm hpn), YV, if_pos rfl]) (by simp [YY, YX]) hv (Nat.le_refl _) (by simp only; omega) hK') fun H' u' w' => ?_)
      simp -implicitDefEqProofs []
      exact hK _ (((H.le_alloc _).upd [p] |>.set (.inr (by simp)) _).trans u') w'
    · have hn2 : 255 < n := he.2.resolve_left hn
      simp -implicitDefEqProofs [c_codec_Writer_Byte, h3, he0, nilOf, hn, hn2, hpn]
      refine call_of (lay_ok c hc (x := [UInt8.ofNat (n % 256).toNat]) key (by simp) (fun v K' hv hK' => ByteF_ok c hc (n := n) (ro := false) (p := H.next) (by rw [YW, if_neg (Ne.symm hpn), YV, if_pos rfl]) (by simp [YY, YX]) hv (Nat.le_refl _) (by simp only; omega) hK') fun H' u' w' => ?_)
      simp -implicitDefEqProofs []
      exact hK _ (((H.le_alloc _).upd [p] |>.set (.inr (by simp)) _).trans u') w'
  · rw [if_neg he] at hK
    by_cases he0 : w.e = 0
    · have hn : ¬ n < 0 := fun h => he ⟨he0, .inl h⟩
      have hn2 : ¬ 255 < n := fun h => he ⟨he0, .inr h⟩
      simp -implicitDefEqProofs [c_codec_Writer_Byte, h3, he0, nilOf, hn, hn2, hpn]
      refine call_of (lay_ok c hc (x := [UInt8.ofNat (n % 256).toNat]) (hw'.le (H.le_alloc _)) (by simp) (fun v K' hv hK' => ByteF_ok c hc (n := n) (ro := false) (p := H.next) (by rw [YV, if_pos rfl]) (by simp [YX]) hv (Nat.le_refl _) (by omega) hK') fun H' u' w' => ?_)
      simp -implicitDefEqProofs []
      exact hK _ ((H.le_alloc _).updTrans u') w'
    · simp -implicitDefEqProofs [c_codec_Writer_Byte, h3, he0, nilOf, hpn]
      refine call_of (lay_ok c hc (x := [UInt8.ofNat (n % 256).toNat]) (hw'.le (H.le_alloc _)) (by simp) (fun v K' hv hK' => ByteF_ok c hc (n := n) (ro := false) (p := H.next) (by rw [YV, if_pos rfl]) (by simp [YX]) hv (Nat.le_refl _) (by omega) hK') fun H' u' w' => ?_)
      simp -implicitDefEqProofs []
      exact hK _ ((H.le_alloc _).updTrans u') w'

theorem NewWriter_ok {n : Int} (hK : ∀ p H', H.next ≤ p → H.le H' → IsW H' p ⟨if 65536 < (if 0 > n then 0 else n) then 65536 else (if 0 > n then 0 else n), [], 0⟩ → K (.pointer (some ⟨p, 0, none⟩)) H') : c.C (c.F n_codec_NewWriter) [.int .i64 n] H K := by
  refine c.enter hc.codec_NewWriter rfl ?_
  simp -implicitDefEqProofs [c_codec_NewWriter]
  refine hK _ _ (Nat.le_refl _) (H.le_alloc _) ⟨by simp [YX], ⟨?_, ?_, ?_⟩, .slice none 0 0, ?_, .inl ⟨rfl, rfl⟩⟩
  · simp only; split <;> (try split) <;> omega
  · simp only; split <;> (try split) <;> omega
  · simp only [List.length_nil]; split <;> (try split) <;> omega
  · simp -implicitDefEqProofs []

def Wr.done (w : Wr) : Value := .tuple #[strV (if w.e = 0 then w.b else []), .int .i64 w.e]

omit hc in
theorem bytesL_row : ∀ l : List UInt8, bytesL ((l.map rowU).flatten) = some l
  | [] => rfl
  | x :: l => by
    have ih := bytesL_row l
    simp only [List.map_cons, List.flatten_cons, rowU, u8V, List.cons_append, List.nil_append, bytesL] at *
    rw [ih]
    simp

theorem WDone_ok {p : Nat} {w : Wr} (hw : IsW H p w) (hK : K w.done H) : c.C (c.F n_codec_Writer_Done) [.pointer (some ⟨p, 0, none⟩)] H K := by
  refine c.enter hc.codec_Writer_Done rfl ?_
  obtain ⟨h1, ⟨m1, m2, m3⟩, v, h3, h4⟩ := hw
  unfold Wr.done at hK
  by_cases he : w.e = 0
  · rw [if_pos he] at hK
    rcases h4 with ⟨e1, rfl⟩ | ⟨h0, blk, k1, k2, rfl, k4⟩
    · simp -implicitDefEqProofs [c_codec_Writer_Done, h3, he, nilOf]
      rw [e1, he] at hK; exact hK
    · have hfl := flat_len (w.b.map rowU) 1 h0
      have hbl : bytesL (List.take w.b.length (w.b.map rowU).flatten) = some w.b := by
        rw [List.take_of_length_le (by simpa using Nat.le_of_eq hfl)]; exact bytesL_row w.b
      simp -implicitDefEqProofs [c_codec_Writer_Done, h3, he, nilOf, k4, hbl, hfl]
      rw [he] at hK; exact hK
  · rw [if_neg he] at hK
    simp -implicitDefEqProofs [c_codec_Writer_Done, h3, he, nilOf]
    exact hK


/-! no writer -/
theorem lay_none {g : FuncId} {a b : Array Value} (hK : K (.tuple #[]) H) : c.C (c.F n_codec_Writer_lay) [.pointer none, .func (.func g) a b] H K := by
  refine c.enter hc.codec_Writer_lay rfl ?_
  simp -implicitDefEqProofs [c_codec_Writer_lay, nilOf]
  exact hK
theorem WInt_none {v : Value} (hK : ∀ H', H.le H' → K (.tuple #[]) H') : c.C (c.F n_codec_Writer_Int) [.pointer none, v] H K := by
  refine c.enter hc.codec_Writer_Int rfl ?_
  simp -implicitDefEqProofs [c_codec_Writer_Int]
  refine call_of (lay_none c hc ?_)
  simp -implicitDefEqProofs []
  exact hK _ (by (repeat' first | exact IHeap.le_refl _ | assumption | apply IHeap.le.alloc | (refine IHeap.le.set ?_ (by (try simp only [YX, YY]); omega) _) | (refine IHeap.le.trans ?_ (by assumption))))
theorem WInts_none {v : Value} (hK : ∀ H', H.le H' → K (.tuple #[]) H') : c.C (c.F n_codec_Writer_Ints) [.pointer none, v] H K := by
  refine c.enter hc.codec_Writer_Ints rfl ?_
  simp -implicitDefEqProofs [c_codec_Writer_Ints]
  refine call_of (lay_none c hc ?_)
  simp -implicitDefEqProofs []
  exact hK _ (by (repeat' first | exact IHeap.le_refl _ | assumption | apply IHeap.le.alloc | (refine IHeap.le.set ?_ (by (try simp only [YX, YY]); omega) _) | (refine IHeap.le.trans ?_ (by assumption))))
theorem WByte_none {v : Value} (hK : ∀ H', H.le H' → K (.tuple #[]) H') : c.C (c.F n_codec_Writer_Byte) [.pointer none, v] H K := by
  refine c.enter hc.codec_Writer_Byte rfl ?_
  simp -implicitDefEqProofs [c_codec_Writer_Byte, nilOf]
  refine call_of (lay_none c hc ?_)
  simp -implicitDefEqProofs []
  exact hK _ (by (repeat' first | exact IHeap.le_refl _ | assumption | apply IHeap.le.alloc | (refine IHeap.le.set ?_ (by (try simp only [YX, YY]); omega) _) | (refine IHeap.le.trans ?_ (by assumption))))
theorem WDone_none (hK : K (.tuple #[strV [], .int .i64 1]) H) : c.C (c.F n_codec_Writer_Done) [.pointer none] H K := by
  refine c.enter hc.codec_Writer_Done rfl ?_
  simp -implicitDefEqProofs [c_codec_Writer_Done, nilOf]
  exact hK

end
end Go.Proofs.YtndndcdblfejnaaGreatRI
