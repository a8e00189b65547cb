/- strings.Repeat by the contract of the shelf, laid at this program (written by the kit's lay-shelf and lay-plain). -/
import Derived.Shelf.Strings.Repeat
import Derived.Test.YtofpmkhcbijilaaGreatDoorProg
namespace Go.Proofs.YtofpmkhcbijilaaGreatDoorU
set_option linter.unusedSimpArgs false
set_option linter.unusedVariables false
open Go.Shelf
def HZ:Go.Shelf.Ren:=⟨fun|105=>270|212=>309|99=>310|165=>311|166=>312|170=>313|169=>314|263=>344|264=>345|206=>346|240=>347|241=>348|276=>363|277=>364|n=>n,fun|9=>9|3=>3|4=>4|20=>20|0=>0|46=>142|109=>422|5=>5|72=>426|76=>429|51=>358|146=>455|53=>29|148=>457|70=>424|37=>71|75=>428|127=>459|164=>473|80=>33|n=>n,fun|n=>n⟩
theorem qcF:Go.Proofs.Lays.n105 Tryz.prog HZ:={
 mixed:=by kernel_rfl
 f99:=Tryz.func310.trans (congrArg some (by kernel_rfl))
 f105:=Tryz.func270.trans (congrArg some (by kernel_rfl))
 f165:=Tryz.func311.trans (congrArg some (by kernel_rfl))
 f166:=Tryz.func312.trans (congrArg some (by kernel_rfl))
 f169:=Tryz.func314.trans (congrArg some (by kernel_rfl))
 f170:=Tryz.func313.trans (congrArg some (by kernel_rfl))
 f206:=Tryz.func346.trans (congrArg some (by kernel_rfl))
 f212:=Tryz.func309.trans (congrArg some (by kernel_rfl))
 f240:=Tryz.func347.trans (congrArg some (by kernel_rfl))
 f241:=Tryz.func348.trans (congrArg some (by kernel_rfl))
 f263:=Tryz.func344.trans (congrArg some (by kernel_rfl))
 f264:=Tryz.func345.trans (congrArg some (by kernel_rfl))
 f276:=Tryz.func363.trans (congrArg some (by kernel_rfl))
 f277:=Tryz.func364.trans (congrArg some (by kernel_rfl))
 t0:=Tryz.underlying0
 a0:=Tryz.isAgg0
 z0:=Tryz.sizeOf0
 v0:=Tryz.zeroValue0
 t3:=Tryz.underlying3
 a3:=Tryz.isAgg3
 z3:=Tryz.sizeOf3
 v3:=Tryz.zeroValue3
 t4:=Tryz.underlying4
 a4:=Tryz.isAgg4
 z4:=Tryz.sizeOf4
 v4:=Tryz.zeroValue4
 t5:=Tryz.underlying5
 a5:=Tryz.isAgg5
 z5:=Tryz.sizeOf5
 v5:=Tryz.zeroValue5
 t9:=Tryz.underlying9
 a9:=Tryz.isAgg9
 z9:=Tryz.sizeOf9
 v9:=Tryz.zeroValue9
 t20:=Tryz.underlying20
 a20:=Tryz.isAgg20
 z20:=Tryz.sizeOf20
 v20:=Tryz.zeroValue20
 t37:=Tryz.underlying71
 a37:=Tryz.isAgg71
 z37:=Tryz.sizeOf71
 v37:=Tryz.zeroValue71
 t46:=Tryz.underlying142
 a46:=Tryz.isAgg142
 z46:=Tryz.sizeOf142
 v46:=Tryz.zeroValue142
 t51:=Tryz.underlying358
 a51:=Tryz.isAgg358
 z51:=Tryz.sizeOf358
 v51:=Tryz.zeroValue358
 t53:=Tryz.underlying29
 a53:=Tryz.isAgg29
 z53:=Tryz.sizeOf29
 v53:=Tryz.zeroValue29
 t70:=Tryz.underlying424
 a70:=Tryz.isAgg424
 z70:=Tryz.sizeOf424
 v70:=Tryz.zeroValue424
 t72:=Tryz.underlying426
 a72:=Tryz.isAgg426
 z72:=Tryz.sizeOf426
 v72:=Tryz.zeroValue426
 t75:=Tryz.underlying428
 a75:=Tryz.isAgg428
 z75:=Tryz.sizeOf428
 v75:=Tryz.zeroValue428
 t76:=Tryz.underlying429
 a76:=Tryz.isAgg429
 z76:=Tryz.sizeOf429
 v76:=Tryz.zeroValue429
 t109:=Tryz.underlying422
 a109:=Tryz.isAgg422
 z109:=Tryz.sizeOf422
 v109:=Tryz.zeroValue422
 t127:=Tryz.underlying459
 a127:=Tryz.isAgg459
 z127:=Tryz.sizeOf459
 v127:=Tryz.zeroValue459
 t146:=Tryz.underlying455
 a146:=Tryz.isAgg455
 z146:=Tryz.sizeOf455
 v146:=Tryz.zeroValue455
 t148:=Tryz.underlying457
 a148:=Tryz.isAgg457
 z148:=Tryz.sizeOf457
 v148:=Tryz.zeroValue457
 t164:=Tryz.underlying473
 a164:=Tryz.isAgg473
 z164:=Tryz.sizeOf473
 v164:=Tryz.zeroValue473}
theorem Ed:Builder.Extra Tryz.prog HZ:={
 sizeBuilder:=by kernel_rfl
 liesBuilder:=by kernel_rfl
 t5:=Tryz.underlying5
 a5:=Tryz.isAgg5
 z5:=Tryz.sizeOf5
 v5:=Tryz.zeroValue5
 infoByte:=by kernel_rfl
 cellsByte:=by kernel_rfl
 sizeByte:=by kernel_rfl
 neB5:=by decide}
open Go.RowKit Go.Lib in
theorem strings_Repeat (s:ByteArray)(c:Nat)(w:World)(hc:c≤9223372036854775807)(hlen:s.size*c≤140737488355328):
 Calls Tryz.prog 270 #[.string s,.int .i64 c] w fun e w'=>e = .returned (.string ⟨(Lib.repeatL s.data.toList c).toArray⟩)∧Below w.heap.size w w':=Any.strings_Repeat qcF Ed s c w hc hlen
end Go.Proofs.YtofpmkhcbijilaaGreatDoorU
