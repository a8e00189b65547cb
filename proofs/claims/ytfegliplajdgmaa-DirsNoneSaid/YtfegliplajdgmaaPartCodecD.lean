/- PRINTED by gen.py (this session's own): the intermediate form of some functions, and a context's having them. -/
import Derived.Test.YtfegliplajdgmaaIdealY
namespace Go.Proofs.YtfegliplajdgmaaI
set_option linter.unusedSimpArgs false
set_option linter.unusedVariables false
open Go

/-- hurdle/codec.NewReader -/
abbrev n_codec_NewReader : Nat := 26
/-- (*hurdle/codec.Reader).Text -/
abbrev n_codec_Reader_Text : Nat := 28
/-- (*hurdle/codec.Reader).Int -/
abbrev n_codec_Reader_Int : Nat := 29
/-- (*hurdle/codec.Reader).Done -/
abbrev n_codec_Reader_Done : Nat := 30
/-- hurdle/codec.NewWriter -/
abbrev n_codec_NewWriter : Nat := 31
/-- (*hurdle/codec.Writer).Text -/
abbrev n_codec_Writer_Text : Nat := 33
/-- (*hurdle/codec.Writer).Int -/
abbrev n_codec_Writer_Int : Nat := 34
/-- (*hurdle/codec.Writer).Done -/
abbrev n_codec_Writer_Done : Nat := 35
/-- (*hurdle/codec.Reader).Left -/
abbrev n_codec_Reader_Left : Nat := 36
/-- (*hurdle/codec.Reader).take -/
abbrev n_codec_Reader_take : Nat := 40
/-- hurdle/codec.groups -/
abbrev n_codec_groups : Nat := 41
/-- (*hurdle/codec.Reader).fail -/
abbrev n_codec_Reader_fail : Nat := 42
/-- (*hurdle/codec.Writer).lay -/
abbrev n_codec_Writer_lay : Nat := 43
/-- hurdle/codec.number -/
abbrev n_codec_number : Nat := 45
/-- (*hurdle/codec.Writer).Text$1 -/
abbrev n_codec_Writer_Text_F1 : Nat := 46
/-- hurdle/codec.text -/
abbrev n_codec_text : Nat := 47
/-- (*hurdle/codec.Writer).Int$1 -/
abbrev n_codec_Writer_Int_F1 : Nat := 48
/-- hurdle/codec.NewReader -/
def c_codec_NewReader (F : Nat → FuncId) (Ty : Nat → TypeId) : IFunc := ⟨6, [.tmp 2],
 .seq (.ops [⟨some 2, .move (.const (.pointer none)), none⟩])
 (.seq (.ops [⟨some 3, .move (.tmp 0), none⟩,
 ⟨some 4, .build [.string ⟨#[]⟩, .bool false] [((0, 1), .tmp 3)], none⟩,
 ⟨some 5, .box (.tmp 4), none⟩,
 ⟨some 2, .move (.tmp 5), none⟩])
 (.ret))⟩
/-- (*hurdle/codec.Reader).Text -/
def c_codec_Reader_Text (F : Nat → FuncId) (Ty : Nat → TypeId) : IFunc := ⟨13, [.tmp 2],
 .seq (.ops [⟨some 2, .move (.const (.string ⟨#[]⟩)), none⟩])
 (.seq (.ops [⟨some 6, .move (.tmp 0), none⟩,
 ⟨some 7, .move (.tmp 0), none⟩,
 ⟨some 8, .call (F 29) [.tmp 7], none⟩,
 ⟨some 9, .call (F 40) [.tmp 6, .tmp 8], none⟩,
 ⟨some 5, .move (.tmp 9), none⟩,
 ⟨some 10, .extract (.tmp 5) 0, none⟩,
 ⟨some 11, .extract (.tmp 5) 1, none⟩,
 ⟨some 3, .move (.tmp 10), none⟩,
 ⟨some 4, .move (.tmp 11), none⟩])
 (.seq (.ops [⟨some 12, .move (.tmp 3), none⟩,
 ⟨some 2, .move (.tmp 12), none⟩])
 (.ret)))⟩
/-- (*hurdle/codec.Reader).Int -/
def c_codec_Reader_Int (F : Nat → FuncId) (Ty : Nat → TypeId) : IFunc := ⟨30, [.tmp 2],
 .seq (.ops [⟨some 2, .move (.const (.int .i64 0)), none⟩])
 (.seq (.seq (.ops [⟨some 5, .move (.tmp 0), none⟩,
 ⟨some 6, .eqNil 0 false (.tmp 5), none⟩])
 (.cond (.tmp 6)
 (.seq (.ops [⟨some 2, .move (.const (.int .i64 0)), none⟩])
 (.ret))
 (.skip)))
 (.seq (.ops [⟨some 8, .move (.tmp 0), none⟩,
 ⟨some 9, .nilCheck (.tmp 8), none⟩,
 ⟨some 10, .fieldAddr 0 (.tmp 9), none⟩,
 ⟨some 11, .load1 (.tmp 10), none⟩,
 ⟨some 12, .call (F 41) [.tmp 11], none⟩,
 ⟨some 7, .move (.tmp 12), none⟩,
 ⟨some 13, .extract (.tmp 7) 0, none⟩,
 ⟨some 14, .extract (.tmp 7) 1, none⟩,
 ⟨some 3, .move (.tmp 13), none⟩,
 ⟨some 4, .move (.tmp 14), none⟩])
 (.seq (.seq (.ops [⟨some 15, .move (.tmp 4), none⟩,
 ⟨some 16, .bin .eql (.tmp 15) (.const (.int .i64 0)), none⟩])
 (.cond (.tmp 16)
 (.seq (.ops [⟨some 17, .move (.tmp 0), none⟩,
 ⟨some 18, .call (F 42) [.tmp 17], none⟩])
 (.seq (.ops [⟨some 2, .move (.const (.int .i64 0)), none⟩])
 (.ret)))
 (.skip)))
 (.seq (.ops [⟨some 19, .move (.tmp 0), none⟩,
 ⟨some 20, .move (.tmp 4), none⟩,
 ⟨some 21, .call (F 40) [.tmp 19, .tmp 20], none⟩])
 (.seq (.ops [⟨some 22, .move (.tmp 3), none⟩,
 ⟨some 23, .bin .shr (.tmp 22) (.const (.int .u64 1)), none⟩,
 ⟨some 24, .conv .i64 (.tmp 23), none⟩,
 ⟨some 25, .move (.tmp 3), none⟩,
 ⟨some 26, .bin .and (.tmp 25) (.const (.int .u64 1)), none⟩,
 ⟨some 27, .conv .i64 (.tmp 26), none⟩,
 ⟨some 28, .un .neg (.tmp 27), none⟩,
 ⟨some 29, .bin .xor (.tmp 24) (.tmp 28), none⟩,
 ⟨some 2, .move (.tmp 29), none⟩])
 (.ret))))))⟩
/-- (*hurdle/codec.Reader).Done -/
def c_codec_Reader_Done (F : Nat → FuncId) (Ty : Nat → TypeId) : IFunc := ⟨18, [.tmp 2],
 .seq (.ops [⟨some 2, .move (.const (.int .i64 0)), none⟩])
 (.seq (.block 0 (.seq (.ops [⟨some 4, .move (.tmp 0), none⟩,
 ⟨some 5, .eqNil 0 false (.tmp 4), none⟩,
 ⟨some 3, .move (.tmp 5), none⟩])
 (.cond (.tmp 3)
 (.seq (.ops [⟨some 2, .move (.const (.int .i64 1)), none⟩])
 (.ret))
 (.seq (.ops [⟨some 7, .move (.tmp 0), none⟩,
 ⟨some 8, .nilCheck (.tmp 7), none⟩,
 ⟨some 9, .fieldAddr 1 (.tmp 8), none⟩,
 ⟨some 10, .load1 (.tmp 9), none⟩,
 ⟨some 11, .move (.tmp 10), none⟩,
 ⟨some 12, .move (.tmp 0), some (11, false)⟩,
 ⟨some 13, .nilCheck (.tmp 12), some (11, false)⟩,
 ⟨some 14, .fieldAddr 0 (.tmp 13), some (11, false)⟩,
 ⟨some 15, .load1 (.tmp 14), some (11, false)⟩,
 ⟨some 16, .bin .neq (.tmp 15) (.const (.string ⟨#[]⟩)), some (11, false)⟩,
 ⟨some 17, .pick (.tmp 11) (.const (.bool true)) (.tmp 16), none⟩,
 ⟨some 6, .move (.tmp 17), none⟩])
 (.cond (.tmp 6)
 (.seq (.ops [⟨some 2, .move (.const (.int .i64 3)), none⟩])
 (.ret))
 (.skip))))))
 (.seq (.ops [⟨some 2, .move (.const (.int .i64 0)), none⟩])
 (.ret)))⟩
/-- hurdle/codec.NewWriter -/
def c_codec_NewWriter (F : Nat → FuncId) (Ty : Nat → TypeId) : IFunc := ⟨8, [.tmp 2],
 .seq (.ops [⟨some 2, .move (.const (.pointer none)), none⟩])
 (.seq (.ops [⟨some 3, .move (.tmp 0), none⟩,
 ⟨some 4, .mxn true (.tmp 3) (.const (.int .i64 0)), none⟩,
 ⟨some 5, .mxn false (.tmp 4) (.const (.int .i64 65536)), none⟩,
 ⟨some 6, .build [.int .i64 0, .slice none 0 0, .int .i64 0] [((0, 1), .tmp 5)], none⟩,
 ⟨some 7, .box (.tmp 6), none⟩,
 ⟨some 2, .move (.tmp 7), none⟩])
 (.ret))⟩
/-- (*hurdle/codec.Writer).Text -/
def c_codec_Writer_Text (F : Nat → FuncId) (Ty : Nat → TypeId) : IFunc := ⟨7, [],
 .seq (.ops [⟨some 3, .box (.tmp 1), none⟩])
 (.ops [⟨some 4, .move (.tmp 0), none⟩,
 ⟨some 5, .mkFunc (F 46) [] [.tmp 3], none⟩,
 ⟨some 6, .call (F 43) [.tmp 4, .tmp 5], none⟩])⟩
/-- (*hurdle/codec.Writer).Int -/
def c_codec_Writer_Int (F : Nat → FuncId) (Ty : Nat → TypeId) : IFunc := ⟨7, [],
 .seq (.ops [⟨some 3, .box (.tmp 1), none⟩])
 (.ops [⟨some 4, .move (.tmp 0), none⟩,
 ⟨some 5, .mkFunc (F 48) [] [.tmp 3], none⟩,
 ⟨some 6, .call (F 43) [.tmp 4, .tmp 5], none⟩])⟩
/-- (*hurdle/codec.Writer).Done -/
def c_codec_Writer_Done (F : Nat → FuncId) (Ty : Nat → TypeId) : IFunc := ⟨22, [.tmp 2, .tmp 3],
 .seq (.ops [⟨some 2, .move (.const (.string ⟨#[]⟩)), none⟩,
 ⟨some 3, .move (.const (.int .i64 0)), none⟩])
 (.seq (.block 0 (.seq (.ops [⟨some 5, .move (.tmp 0), none⟩,
 ⟨some 6, .eqNil 0 false (.tmp 5), none⟩,
 ⟨some 4, .move (.tmp 6), none⟩])
 (.cond (.tmp 4)
 (.seq (.ops [⟨some 2, .move (.const (.string ⟨#[]⟩)), none⟩,
 ⟨some 3, .move (.const (.int .i64 1)), none⟩])
 (.ret))
 (.seq (.ops [⟨some 8, .move (.tmp 0), none⟩,
 ⟨some 9, .nilCheck (.tmp 8), none⟩,
 ⟨some 10, .fieldAddr 2 (.tmp 9), none⟩,
 ⟨some 11, .load1 (.tmp 10), none⟩,
 ⟨some 12, .bin .neq (.tmp 11) (.const (.int .i64 0)), none⟩,
 ⟨some 7, .move (.tmp 12), none⟩])
 (.cond (.tmp 7)
 (.seq (.draw [(⟨some 13, .move (.tmp 0), none⟩, []),
 (⟨some 14, .nilCheck (.tmp 13), none⟩, []),
 (⟨some 15, .fieldAddr 2 (.tmp 14), none⟩, []),
 (⟨some 16, .load1 (.tmp 15), none⟩, []),
 (⟨some 2, .move (.const (.string ⟨#[]⟩)), none⟩, []),
 (⟨some 3, .move (.tmp 16), none⟩, [])])
 (.ret))
 (.skip))))))
 (.seq (.ops [⟨some 17, .move (.tmp 0), none⟩,
 ⟨some 18, .nilCheck (.tmp 17), none⟩,
 ⟨some 19, .fieldAddr 1 (.tmp 18), none⟩,
 ⟨some 20, .load1 (.tmp 19), none⟩,
 ⟨some 21, .bytesStr (.tmp 20), none⟩,
 ⟨some 2, .move (.tmp 21), none⟩,
 ⟨some 3, .move (.const (.int .i64 0)), none⟩])
 (.ret)))⟩
/-- (*hurdle/codec.Reader).Left -/
def c_codec_Reader_Left (F : Nat → FuncId) (Ty : Nat → TypeId) : IFunc := ⟨10, [.tmp 2],
 .seq (.ops [⟨some 2, .move (.const (.int .i64 0)), none⟩])
 (.seq (.seq (.ops [⟨some 3, .move (.tmp 0), none⟩,
 ⟨some 4, .eqNil 0 false (.tmp 3), none⟩])
 (.cond (.tmp 4)
 (.seq (.ops [⟨some 2, .move (.const (.int .i64 0)), none⟩])
 (.ret))
 (.skip)))
 (.seq (.ops [⟨some 5, .move (.tmp 0), none⟩,
 ⟨some 6, .nilCheck (.tmp 5), none⟩,
 ⟨some 7, .fieldAddr 0 (.tmp 6), none⟩,
 ⟨some 8, .load1 (.tmp 7), none⟩,
 ⟨some 9, .strLen (.tmp 8), none⟩,
 ⟨some 2, .move (.tmp 9), none⟩])
 (.ret)))⟩
/-- (*hurdle/codec.Reader).take -/
def c_codec_Reader_take (F : Nat → FuncId) (Ty : Nat → TypeId) : IFunc := ⟨46, [.tmp 4, .tmp 5],
 .seq (.ops [⟨some 4, .move (.const (.string ⟨#[]⟩)), none⟩,
 ⟨some 5, .move (.const (.bool false)), none⟩])
 (.seq (.seq (.ops [⟨some 7, .move (.tmp 0), none⟩,
 ⟨some 8, .eqNil 0 false (.tmp 7), none⟩,
 ⟨some 9, .move (.tmp 8), none⟩,
 ⟨some 10, .move (.tmp 0), some (9, false)⟩,
 ⟨some 11, .nilCheck (.tmp 10), some (9, false)⟩,
 ⟨some 12, .fieldAddr 1 (.tmp 11), some (9, false)⟩,
 ⟨some 13, .load1 (.tmp 12), some (9, false)⟩,
 ⟨some 14, .pick (.tmp 9) (.const (.bool true)) (.tmp 13), none⟩,
 ⟨some 15, .move (.tmp 14), none⟩,
 ⟨some 16, .move (.tmp 1), some (15, false)⟩,
 ⟨some 17, .bin .lss (.tmp 16) (.const (.int .i64 0)), some (15, false)⟩,
 ⟨some 18, .pick (.tmp 15) (.const (.bool true)) (.tmp 17), none⟩,
 ⟨some 19, .move (.tmp 18), none⟩,
 ⟨some 20, .move (.tmp 1), some (19, false)⟩,
 ⟨some 21, .move (.tmp 0), some (19, false)⟩,
 ⟨some 22, .nilCheck (.tmp 21), some (19, false)⟩,
 ⟨some 23, .fieldAddr 0 (.tmp 22), some (19, false)⟩,
 ⟨some 24, .load1 (.tmp 23), some (19, false)⟩,
 ⟨some 25, .strLen (.tmp 24), some (19, false)⟩,
 ⟨some 26, .bin .gtr (.tmp 20) (.tmp 25), some (19, false)⟩,
 ⟨some 27, .pick (.tmp 19) (.const (.bool true)) (.tmp 26), none⟩])
 (.cond (.tmp 27)
 (.seq (.ops [⟨some 28, .move (.tmp 0), none⟩,
 ⟨some 29, .call (F 42) [.tmp 28], none⟩])
 (.seq (.ops [⟨some 4, .move (.const (.string ⟨#[]⟩)), none⟩,
 ⟨some 5, .move (.const (.bool false)), none⟩])
 (.ret)))
 (.skip)))
 (.seq (.ops [⟨some 30, .move (.tmp 0), none⟩,
 ⟨some 31, .nilCheck (.tmp 30), none⟩,
 ⟨some 32, .fieldAddr 0 (.tmp 31), none⟩,
 ⟨some 33, .load1 (.tmp 32), none⟩,
 ⟨some 34, .move (.tmp 1), none⟩,
 ⟨some 35, .strSl (.tmp 33) none (some (.tmp 34)), none⟩,
 ⟨some 6, .move (.tmp 35), none⟩])
 (.seq (.ops [⟨some 36, .move (.tmp 0), none⟩,
 ⟨some 37, .move (.tmp 0), none⟩,
 ⟨some 38, .nilCheck (.tmp 37), none⟩,
 ⟨some 39, .fieldAddr 0 (.tmp 38), none⟩,
 ⟨some 40, .load1 (.tmp 39), none⟩,
 ⟨some 41, .move (.tmp 1), none⟩,
 ⟨some 42, .strSl (.tmp 40) (some (.tmp 41)) none, none⟩,
 ⟨some 43, .nilCheck (.tmp 36), none⟩,
 ⟨some 44, .fieldAddr 0 (.tmp 43), none⟩,
 ⟨none, .store 1 (.tmp 44) (.tmp 42), none⟩])
 (.seq (.ops [⟨some 45, .move (.tmp 6), none⟩,
 ⟨some 4, .move (.tmp 45), none⟩,
 ⟨some 5, .move (.const (.bool true)), none⟩])
 (.ret)))))⟩
/-- hurdle/codec.groups -/
def c_codec_groups (F : Nat → FuncId) (Ty : Nat → TypeId) : IFunc := ⟨44, [.tmp 2, .tmp 3],
 .seq (.ops [⟨some 2, .move (.const (.int .u64 0)), none⟩,
 ⟨some 3, .move (.const (.int .i64 0)), none⟩])
 (.seq (.ops [⟨some 4, .move (.const (.int .u64 0)), none⟩])
 (.seq (.seq (.ops [⟨some 7, .move (.tmp 0), none⟩,
 ⟨some 8, .strLen (.tmp 7), none⟩,
 ⟨some 9, .mxn false (.tmp 8) (.const (.int .i64 10)), none⟩,
 ⟨some 10, .move (.const (.int .i64 0)), none⟩])
 (.block 0 (.loop (.seq (.ops [⟨some 11, .bin .lss (.tmp 10) (.tmp 9), none⟩])
 (.seq (.cond (.tmp 11)
 (.skip)
 (.exit 0))
 (.seq (.block 1 (.seq (.ops [⟨some 12, .move (.tmp 10), none⟩,
 ⟨some 5, .move (.tmp 12), none⟩])
 (.seq (.ops [⟨some 13, .move (.tmp 0), none⟩,
 ⟨some 14, .move (.tmp 5), none⟩,
 ⟨some 15, .strIdx (.tmp 13) (.tmp 14), none⟩,
 ⟨some 16, .conv .u64 (.tmp 15), none⟩,
 ⟨some 6, .move (.tmp 16), none⟩])
 (.seq (.ops [⟨some 17, .move (.tmp 4), none⟩,
 ⟨some 18, .move (.tmp 6), none⟩,
 ⟨some 19, .bin .and (.tmp 18) (.const (.int .u64 127)), none⟩,
 ⟨some 20, .move (.tmp 5), none⟩,
 ⟨some 21, .bin .mul (.const (.int .i64 7)) (.tmp 20), none⟩,
 ⟨some 22, .bin .shl (.tmp 19) (.tmp 21), none⟩,
 ⟨some 23, .bin .or (.tmp 17) (.tmp 22), none⟩,
 ⟨some 4, .move (.tmp 23), none⟩])
 (.seq (.seq (.ops [⟨some 24, .move (.tmp 6), none⟩,
 ⟨some 25, .bin .geq (.tmp 24) (.const (.int .u64 128)), none⟩])
 (.cond (.tmp 25)
 (.exit 1)
 (.skip)))
 (.seq (.seq (.ops [⟨some 26, .move (.tmp 5), none⟩,
 ⟨some 27, .bin .gtr (.tmp 26) (.const (.int .i64 0)), none⟩,
 ⟨some 28, .move (.tmp 27), none⟩,
 ⟨some 29, .move (.tmp 6), some (28, true)⟩,
 ⟨some 30, .bin .eql (.tmp 29) (.const (.int .u64 0)), some (28, true)⟩,
 ⟨some 31, .pick (.tmp 28) (.tmp 30) (.const (.bool false)), none⟩,
 ⟨some 32, .move (.tmp 31), none⟩,
 ⟨some 33, .move (.tmp 5), some (32, false)⟩,
 ⟨some 34, .bin .eql (.tmp 33) (.const (.int .i64 9)), some (32, false)⟩,
 ⟨some 35, .move (.tmp 34), some (32, false)⟩,
 ⟨some 36, .move (.tmp 6), some (35, true)⟩,
 ⟨some 37, .bin .gtr (.tmp 36) (.const (.int .u64 1)), some (35, true)⟩,
 ⟨some 38, .pick (.tmp 35) (.tmp 37) (.const (.bool false)), some (32, false)⟩,
 ⟨some 39, .pick (.tmp 32) (.const (.bool true)) (.tmp 38), none⟩])
 (.cond (.tmp 39)
 (.seq (.ops [⟨some 2, .move (.const (.int .u64 0)), none⟩,
 ⟨some 3, .move (.const (.int .i64 0)), none⟩])
 (.ret))
 (.skip)))
 (.seq (.ops [⟨some 40, .move (.tmp 4), none⟩,
 ⟨some 41, .move (.tmp 5), none⟩,
 ⟨some 42, .bin .add (.tmp 41) (.const (.int .i64 1)), none⟩,
 ⟨some 2, .move (.tmp 40), none⟩,
 ⟨some 3, .move (.tmp 42), none⟩])
 (.ret))))))))
 (.ops [⟨some 43, .bin .add (.tmp 10) (.const (.int .i64 1)), none⟩,
 ⟨some 10, .move (.tmp 43), none⟩])))))))
 (.seq (.ops [⟨some 2, .move (.const (.int .u64 0)), none⟩,
 ⟨some 3, .move (.const (.int .i64 0)), none⟩])
 (.ret))))⟩
/-- (*hurdle/codec.Reader).fail -/
def c_codec_Reader_fail (F : Nat → FuncId) (Ty : Nat → TypeId) : IFunc := ⟨10, [],
 .seq (.ops [⟨some 2, .move (.tmp 0), none⟩,
 ⟨some 3, .eqNil 0 true (.tmp 2), none⟩])
 (.cond (.tmp 3)
 (.ops [⟨some 4, .move (.tmp 0), none⟩,
 ⟨some 5, .move (.tmp 0), none⟩,
 ⟨some 6, .nilCheck (.tmp 4), none⟩,
 ⟨some 7, .fieldAddr 0 (.tmp 6), none⟩,
 ⟨none, .store 1 (.tmp 7) (.const (.string ⟨#[]⟩)), none⟩,
 ⟨some 8, .nilCheck (.tmp 5), none⟩,
 ⟨some 9, .fieldAddr 1 (.tmp 8), none⟩,
 ⟨none, .store 1 (.tmp 9) (.const (.bool true)), none⟩])
 (.skip))⟩
/-- (*hurdle/codec.Writer).lay -/
def c_codec_Writer_lay (F : Nat → FuncId) (Ty : Nat → TypeId) : IFunc := ⟨45, [],
 .seq (.seq (.ops [⟨some 5, .move (.tmp 0), none⟩,
 ⟨some 6, .eqNil 0 false (.tmp 5), none⟩,
 ⟨some 7, .move (.tmp 6), none⟩,
 ⟨some 8, .move (.tmp 0), some (7, false)⟩,
 ⟨some 9, .nilCheck (.tmp 8), some (7, false)⟩,
 ⟨some 10, .fieldAddr 2 (.tmp 9), some (7, false)⟩,
 ⟨some 11, .load1 (.tmp 10), some (7, false)⟩,
 ⟨some 12, .bin .neq (.tmp 11) (.const (.int .i64 0)), some (7, false)⟩,
 ⟨some 13, .pick (.tmp 7) (.const (.bool true)) (.tmp 12), none⟩])
 (.cond (.tmp 13)
 (.ret)
 (.skip)))
 (.seq (.draw [(⟨some 14, .move (.tmp 1), none⟩, []),
 (⟨some 15, .move (.tmp 0), none⟩, []),
 (⟨some 16, .nilCheck (.tmp 15), none⟩, []),
 (⟨some 17, .fieldAddr 1 (.tmp 16), none⟩, []),
 (⟨some 18, .load1 (.tmp 17), none⟩, []),
 (⟨some 19, .move (.tmp 0), none⟩, []),
 (⟨some 20, .nilCheck (.tmp 19), none⟩, []),
 (⟨some 21, .fieldAddr 1 (.tmp 20), none⟩, []),
 (⟨some 22, .load1 (.tmp 21), none⟩, []),
 (⟨some 23, .lenSl (.tmp 22), none⟩, []),
 (⟨some 24, .move (.tmp 0), none⟩, []),
 (⟨some 25, .nilCheck (.tmp 24), none⟩, []),
 (⟨some 26, .fieldAddr 1 (.tmp 25), none⟩, []),
 (⟨some 27, .load1 (.tmp 26), none⟩, []),
 (⟨some 28, .lenSl (.tmp 27), none⟩, []),
 (⟨some 29, .sliceSl 1 (.tmp 18) none (some (.tmp 23)) (some (.tmp 28)), none⟩, []),
 (⟨some 30, .callDyn (.tmp 14) [.tmp 29], none⟩, []),
 (⟨some 4, .move (.tmp 30), none⟩, [])])
 (.seq (.seq (.ops [⟨some 31, .move (.tmp 4), none⟩,
 ⟨some 32, .lenSl (.tmp 31), none⟩,
 ⟨some 33, .move (.tmp 0), none⟩,
 ⟨some 34, .nilCheck (.tmp 33), none⟩,
 ⟨some 35, .fieldAddr 0 (.tmp 34), none⟩,
 ⟨some 36, .load1 (.tmp 35), none⟩,
 ⟨some 37, .bin .gtr (.tmp 32) (.tmp 36), none⟩])
 (.cond (.tmp 37)
 (.seq (.ops [⟨some 38, .move (.tmp 0), none⟩,
 ⟨some 39, .nilCheck (.tmp 38), none⟩,
 ⟨some 40, .fieldAddr 2 (.tmp 39), none⟩,
 ⟨none, .store 1 (.tmp 40) (.const (.int .i64 2)), none⟩])
 (.ret))
 (.skip)))
 (.ops [⟨some 41, .move (.tmp 0), none⟩,
 ⟨some 42, .move (.tmp 4), none⟩,
 ⟨some 43, .nilCheck (.tmp 41), none⟩,
 ⟨some 44, .fieldAddr 1 (.tmp 43), none⟩,
 ⟨none, .store 1 (.tmp 44) (.tmp 42), none⟩])))⟩
/-- hurdle/codec.number -/
def c_codec_number (F : Nat → FuncId) (Ty : Nat → TypeId) : IFunc := ⟨28, [.tmp 4],
 .seq (.ops [⟨some 4, .move (.const (.slice none 0 0)), none⟩])
 (.seq (.ops [⟨some 6, .move (.tmp 1), none⟩,
 ⟨some 7, .conv .u64 (.tmp 6), none⟩,
 ⟨some 8, .bin .shl (.tmp 7) (.const (.int .u64 1)), none⟩,
 ⟨some 9, .move (.tmp 1), none⟩,
 ⟨some 10, .bin .shr (.tmp 9) (.const (.int .u64 63)), none⟩,
 ⟨some 11, .conv .u64 (.tmp 10), none⟩,
 ⟨some 12, .bin .xor (.tmp 8) (.tmp 11), none⟩,
 ⟨some 5, .move (.tmp 12), none⟩])
 (.seq (.block 0 (.loop (.seq (.seq (.ops [⟨some 13, .move (.tmp 5), none⟩,
 ⟨some 14, .bin .geq (.tmp 13) (.const (.int .u64 128)), none⟩])
 (.cond (.tmp 14)
 (.skip)
 (.exit 0)))
 (.seq (.block 1 (.ops [⟨some 17, .move (.tmp 0), none⟩,
 ⟨some 18, .move (.tmp 5), none⟩,
 ⟨some 19, .conv .u8 (.tmp 18), none⟩,
 ⟨some 20, .bin .or (.tmp 19) (.const (.int .u8 128)), none⟩,
 ⟨some 21, .buildSlice 1 [.int .u8 0] [((0, 1), .tmp 20)], none⟩,
 ⟨some 22, .append 1 1 (.tmp 17) (.tmp 21), none⟩,
 ⟨some 0, .move (.tmp 22), none⟩]))
 (.ops [⟨some 15, .move (.tmp 5), none⟩,
 ⟨some 16, .bin .shr (.tmp 15) (.const (.int .u64 7)), none⟩,
 ⟨some 5, .move (.tmp 16), none⟩])))))
 (.seq (.ops [⟨some 23, .move (.tmp 0), none⟩,
 ⟨some 24, .move (.tmp 5), none⟩,
 ⟨some 25, .conv .u8 (.tmp 24), none⟩,
 ⟨some 26, .buildSlice 1 [.int .u8 0] [((0, 1), .tmp 25)], none⟩,
 ⟨some 27, .append 1 1 (.tmp 23) (.tmp 26), none⟩,
 ⟨some 4, .move (.tmp 27), none⟩])
 (.ret))))⟩
/-- (*hurdle/codec.Writer).Text$1 -/
def c_codec_Writer_Text_F1 (F : Nat → FuncId) (Ty : Nat → TypeId) : IFunc := ⟨7, [.tmp 3],
 .seq (.ops [⟨some 3, .move (.const (.slice none 0 0)), none⟩])
 (.seq (.ops [⟨some 4, .move (.tmp 0), none⟩,
 ⟨some 5, .load1 (.tmp 1), none⟩,
 ⟨some 6, .call (F 47) [.tmp 4, .tmp 5], none⟩,
 ⟨some 3, .move (.tmp 6), none⟩])
 (.ret))⟩
/-- hurdle/codec.text -/
def c_codec_text (F : Nat → FuncId) (Ty : Nat → TypeId) : IFunc := ⟨11, [.tmp 4],
 .seq (.ops [⟨some 4, .move (.const (.slice none 0 0)), none⟩])
 (.seq (.ops [⟨some 5, .move (.tmp 0), none⟩,
 ⟨some 6, .move (.tmp 1), none⟩,
 ⟨some 7, .strLen (.tmp 6), none⟩,
 ⟨some 8, .call (F 45) [.tmp 5, .tmp 7], none⟩,
 ⟨some 9, .move (.tmp 1), none⟩,
 ⟨some 10, .appendStr (.tmp 8) (.tmp 9), none⟩,
 ⟨some 4, .move (.tmp 10), none⟩])
 (.ret))⟩
/-- (*hurdle/codec.Writer).Int$1 -/
def c_codec_Writer_Int_F1 (F : Nat → FuncId) (Ty : Nat → TypeId) : IFunc := ⟨7, [.tmp 3],
 .seq (.ops [⟨some 3, .move (.const (.slice none 0 0)), none⟩])
 (.seq (.ops [⟨some 4, .move (.tmp 0), none⟩,
 ⟨some 5, .load1 (.tmp 1), none⟩,
 ⟨some 6, .call (F 45) [.tmp 4, .tmp 5], none⟩,
 ⟨some 3, .move (.tmp 6), none⟩])
 (.ret))⟩
/-- A context has these functions. -/
structure HasCodec (c : Ctx) : Prop where
 codec_NewReader : c.IP (c.F 26) = some (c_codec_NewReader c.F c.Ty)
 codec_Reader_Text : c.IP (c.F 28) = some (c_codec_Reader_Text c.F c.Ty)
 codec_Reader_Int : c.IP (c.F 29) = some (c_codec_Reader_Int c.F c.Ty)
 codec_Reader_Done : c.IP (c.F 30) = some (c_codec_Reader_Done c.F c.Ty)
 codec_NewWriter : c.IP (c.F 31) = some (c_codec_NewWriter c.F c.Ty)
 codec_Writer_Text : c.IP (c.F 33) = some (c_codec_Writer_Text c.F c.Ty)
 codec_Writer_Int : c.IP (c.F 34) = some (c_codec_Writer_Int c.F c.Ty)
 codec_Writer_Done : c.IP (c.F 35) = some (c_codec_Writer_Done c.F c.Ty)
 codec_Reader_Left : c.IP (c.F 36) = some (c_codec_Reader_Left c.F c.Ty)
 codec_Reader_take : c.IP (c.F 40) = some (c_codec_Reader_take c.F c.Ty)
 codec_groups : c.IP (c.F 41) = some (c_codec_groups c.F c.Ty)
 codec_Reader_fail : c.IP (c.F 42) = some (c_codec_Reader_fail c.F c.Ty)
 codec_Writer_lay : c.IP (c.F 43) = some (c_codec_Writer_lay c.F c.Ty)
 codec_number : c.IP (c.F 45) = some (c_codec_number c.F c.Ty)
 codec_Writer_Text_F1 : c.IP (c.F 46) = some (c_codec_Writer_Text_F1 c.F c.Ty)
 codec_text : c.IP (c.F 47) = some (c_codec_text c.F c.Ty)
 codec_Writer_Int_F1 : c.IP (c.F 48) = some (c_codec_Writer_Int_F1 c.F c.Ty)

end Go.Proofs.YtfegliplajdgmaaI
