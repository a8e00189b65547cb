/- PRINTED by gen.py (this session's own): the intermediate form of some functions, and a context's having them. / A node: notes; who accepts and who learns, with their blocks. / A node: who accepts and who learns, each call with its blocks. -/
import Derived.Test.YtpbbjfighohokaaGreatProD
import Derived.Test.YtpbbjfighohokaaGreatInsW
import Derived.Test.YtpbbjfighohokaaGreatPartLearner
import Derived.Test.YtpbbjfighohokaaGreatLearner
namespace Go.Proofs.YtpbbjfighohokaaGreatI
open Go
set_option linter.unusedSimpArgs false
set_option linter.unusedVariables false
abbrev MF:Nat:=288
abbrev xJ:Nat:=289
abbrev vP:Nat:=290
abbrev xK:Nat:=291
abbrev tN:Nat:=292
abbrev yw:Nat:=293
abbrev yx:Nat:=295
abbrev vQ:Nat:=297
abbrev xL:Nat:=298
abbrev tO:Nat:=299
abbrev tQ:Nat:=300
abbrev xM:Nat:=301
abbrev xN:Nat:=302
abbrev yz:Nat:=303
abbrev LD:Nat:=304
def uL (F:Nat→FuncId)(Ty:Nat→TypeId):aA:=⟨29,[.tmp 4],.seq (.ops [⟨some 4,.move (.const (.pointer none)),none⟩]) (.seq (.ops [⟨some 6,.move (.tmp 0),none⟩,⟨some 7,.move (.tmp 1),none⟩,⟨some 8,.call (F 177) [],none⟩,⟨some 9,.move (.tmp 0),none⟩,⟨some 10,.move (.tmp 1),none⟩,⟨some 11,.call (F 275) [.tmp 9,.tmp 10],none⟩,⟨some 12,.move (.tmp 0),none⟩,⟨some 13,.call (F 81) [.tmp 12],none⟩,⟨some 14,.build [.int .i64 0,.int .i64 0,.pointer none,.pointer none,.pointer none] [((0,1),.tmp 6),((1,1),.tmp 7),((2,1),.tmp 8),((3,1),.tmp 11),((4,1),.tmp 13)],none⟩,⟨some 15,.box (.tmp 14),none⟩,⟨some 5,.move (.tmp 15),none⟩]) (.seq (.seq (.ops [⟨some 16,.move (.tmp 5),none⟩,⟨some 17,.nilCheck (.tmp 16),none⟩,⟨some 18,.fieldAddr 3 (.tmp 17),none⟩,⟨some 19,.ah (.tmp 18),none⟩,⟨some 20,.fC 0 false (.tmp 19),none⟩,⟨some 21,.move (.tmp 20),none⟩,⟨some 22,.move (.tmp 5),some (21,false)⟩,⟨some 23,.nilCheck (.tmp 22),some (21,false)⟩,⟨some 24,.fieldAddr 4 (.tmp 23),some (21,false)⟩,⟨some 25,.ah (.tmp 24),some (21,false)⟩,⟨some 26,.fC 0 false (.tmp 25),some (21,false)⟩,⟨some 27,.pick (.tmp 21) (.const (.bool true)) (.tmp 26),none⟩]) (.cond (.tmp 27) (.seq (.ops [⟨some 4,.move (.const (.pointer none)),none⟩]) (.ret)) (.skip))) (.seq (.ops [⟨some 28,.move (.tmp 5),none⟩,⟨some 4,.move (.tmp 28),none⟩]) (.ret))))⟩
def jK (F:Nat→FuncId)(Ty:Nat→TypeId):aA:=⟨104,[.tmp 4],.seq (.ops [⟨some 3,.box (.tmp 1),none⟩,⟨some 4,.move (.const (.slice none 0 0)),none⟩]) (.seq (.seq (.draw [(⟨some 13,.move (.tmp 0),none⟩,[]),(⟨some 14,.fieldAddr 1 (.tmp 3),none⟩,[]),(⟨some 15,.ah (.tmp 14),none⟩,[]),(⟨some 16,.call (F 298) [.tmp 13,.tmp 15],none⟩,[]),(⟨some 17,.un .not (.tmp 16),none⟩,[]),(⟨some 18,.move (.tmp 17),none⟩,[]),(⟨some 19,.fieldAddr 2 (.tmp 3),some (18,false)⟩,[]),(⟨some 20,.ah (.tmp 19),some (18,false)⟩,[]),(⟨some 21,.move (.tmp 0),some (18,false)⟩,[]),(⟨some 22,.nilCheck (.tmp 21),some (18,false)⟩,[]),(⟨some 23,.fieldAddr 1 (.tmp 22),some (18,false)⟩,[]),(⟨some 24,.ah (.tmp 23),some (18,false)⟩,[]),(⟨some 25,.bin .neq (.tmp 20) (.tmp 24),some (18,false)⟩,[]),(⟨some 26,.pick (.tmp 18) (.const (.bool true)) (.tmp 25),none⟩,[])]) (.cond (.tmp 26) (.seq (.ops [⟨some 4,.move (.const (.slice none 0 0)),none⟩]) (.ret)) (.skip))) (.seq (.seq (.ops [⟨some 27,.ak 7 (.tmp 3),none⟩,⟨some 28,.call (F 304) [.tmp 27],none⟩]) (.block 0 (.seq (.ops [⟨some 29,.qW (Ty 7) (.agg #[.int .i64 0,.int .i64 0,.int .i64 0,.int .i64 0,.int .i64 0,.int .i64 0,.slice none 0 0]) true (.tmp 28),none⟩,⟨some 30,.extract (.tmp 29) 1,none⟩,⟨some 31,.extract (.tmp 29) 0,none⟩]) (.cond (.tmp 30) (.seq (.ops [⟨some 5,.alloc [.int .i64 0,.int .i64 0,.int .i64 0,.int .i64 0,.int .i64 0,.int .i64 0,.slice none 0 0],none⟩,⟨none,.store 7 (.tmp 5) (.tmp 31),none⟩]) (.seq (.ops [⟨some 32,.move (.tmp 0),none⟩,⟨some 33,.fieldAddr 0 (.tmp 5),none⟩,⟨some 34,.ak 7 (.tmp 33),none⟩,⟨some 35,.call (F 299) [.tmp 32,.tmp 34],none⟩,⟨some 4,.move (.tmp 35),none⟩]) (.ret))) (.seq (.ops [⟨some 36,.qW (Ty 8) (.agg #[.int .i64 0,.int .i64 0,.int .i64 0,.int .i64 0,.int .i64 0,.int .i64 0,.slice none 0 0]) true (.tmp 28),none⟩,⟨some 37,.extract (.tmp 36) 1,none⟩,⟨some 38,.extract (.tmp 36) 0,none⟩]) (.cond (.tmp 37) (.seq (.ops [⟨some 6,.alloc [.int .i64 0,.int .i64 0,.int .i64 0,.int .i64 0,.int .i64 0,.int .i64 0,.slice none 0 0],none⟩,⟨none,.store 7 (.tmp 6) (.tmp 38),none⟩]) (.seq (.ops [⟨some 39,.move (.tmp 0),none⟩,⟨some 40,.fieldAddr 0 (.tmp 6),none⟩,⟨some 41,.ak 7 (.tmp 40),none⟩,⟨some 42,.call (F 300) [.tmp 39,.tmp 41],none⟩,⟨some 4,.move (.tmp 42),none⟩]) (.ret))) (.seq (.ops [⟨some 43,.qW (Ty 9) (.agg #[.int .i64 0,.int .i64 0,.int .i64 0,.string ⟨#[]⟩]) true (.tmp 28),none⟩,⟨some 44,.extract (.tmp 43) 1,none⟩,⟨some 45,.extract (.tmp 43) 0,none⟩]) (.cond (.tmp 44) (.seq (.ops [⟨some 7,.alloc [.int .i64 0,.int .i64 0,.int .i64 0,.string ⟨#[]⟩],none⟩,⟨none,.store 4 (.tmp 7) (.tmp 45),none⟩]) (.seq (.draw [(⟨some 46,.move (.tmp 0),none⟩,[]),(⟨some 47,.nilCheck (.tmp 46),none⟩,[]),(⟨some 48,.fieldAddr 3 (.tmp 47),none⟩,[]),(⟨some 49,.ah (.tmp 48),none⟩,[]),(⟨some 50,.fieldAddr 0 (.tmp 7),none⟩,[]),(⟨some 51,.fieldAddr 1 (.tmp 50),none⟩,[]),(⟨some 52,.ak 2 (.tmp 51),none⟩,[]),(⟨some 53,.call (F 283) [.tmp 49,.tmp 52],none⟩,[])]) (.seq (.draw [(⟨some 54,.move (.tmp 0),none⟩,[]),(⟨some 55,.nilCheck (.tmp 54),none⟩,[]),(⟨some 56,.fieldAddr 2 (.tmp 55),none⟩,[]),(⟨some 57,.ah (.tmp 56),none⟩,[]),(⟨some 58,.fieldAddr 0 (.tmp 7),none⟩,[]),(⟨some 59,.ak 4 (.tmp 58),none⟩,[]),(⟨some 60,.call (F 182) [.tmp 57,.tmp 59],none⟩,[])]) (.cond (.tmp 60) (.seq (.ops [⟨some 61,.move (.tmp 0),none⟩,⟨some 62,.fieldAddr 0 (.tmp 7),none⟩,⟨some 63,.ak 4 (.tmp 62),none⟩,⟨some 64,.call (F 301) [.tmp 61,.const (.int .i64 4),.tmp 63],none⟩,⟨some 4,.move (.tmp 64),none⟩]) (.ret)) (.skip))))) (.seq (.ops [⟨some 65,.qW (Ty 10) (.agg #[.int .i64 0,.int .i64 0,.int .i64 0,.int .i64 0,.string ⟨#[]⟩]) true (.tmp 28),none⟩,⟨some 66,.extract (.tmp 65) 1,none⟩,⟨some 67,.extract (.tmp 65) 0,none⟩]) (.cond (.tmp 66) (.seq (.ops [⟨some 8,.alloc [.int .i64 0,.int .i64 0,.int .i64 0,.int .i64 0,.string ⟨#[]⟩],none⟩,⟨none,.store 5 (.tmp 8) (.tmp 67),none⟩]) (.draw [(⟨some 68,.move (.tmp 0),none⟩,[]),(⟨some 69,.nilCheck (.tmp 68),none⟩,[]),(⟨some 70,.fieldAddr 4 (.tmp 69),none⟩,[]),(⟨some 71,.ah (.tmp 70),none⟩,[]),(⟨some 72,.fieldAddr 0 (.tmp 8),none⟩,[]),(⟨some 73,.ah (.tmp 72),none⟩,[]),(⟨some 74,.fieldAddr 1 (.tmp 8),none⟩,[]),(⟨some 75,.ak 4 (.tmp 74),none⟩,[]),(⟨some 76,.call (F 83) [.tmp 71,.tmp 73,.tmp 75],none⟩,[])])) (.seq (.ops [⟨some 77,.qW (Ty 11) (.agg #[.int .i64 0,.int .i64 0,.int .i64 0,.int .i64 0,.int .i64 0,.int .i64 0,.slice none 0 0]) true (.tmp 28),none⟩,⟨some 78,.extract (.tmp 77) 1,none⟩,⟨some 79,.extract (.tmp 77) 0,none⟩]) (.cond (.tmp 78) (.seq (.ops [⟨some 9,.alloc [.int .i64 0,.int .i64 0,.int .i64 0,.int .i64 0,.int .i64 0,.int .i64 0,.slice none 0 0],none⟩,⟨none,.store 7 (.tmp 9) (.tmp 79),none⟩]) (.seq (.ops [⟨some 80,.move (.tmp 0),none⟩,⟨some 81,.fieldAddr 0 (.tmp 9),none⟩,⟨some 82,.ak 7 (.tmp 81),none⟩,⟨some 83,.call (F 302) [.tmp 80,.tmp 82],none⟩,⟨some 4,.move (.tmp 83),none⟩]) (.ret))) (.seq (.ops [⟨some 84,.qW (Ty 12) (.agg #[.slice none 0 0]) true (.tmp 28),none⟩,⟨some 85,.extract (.tmp 84) 1,none⟩,⟨some 86,.extract (.tmp 84) 0,none⟩]) (.cond (.tmp 85) (.seq (.ops [⟨some 10,.alloc [.slice none 0 0],none⟩,⟨none,.store 1 (.tmp 10) (.tmp 86),none⟩]) (.seq (.ops [⟨some 87,.fieldAddr 0 (.tmp 10),none⟩,⟨some 88,.ah (.tmp 87),none⟩,⟨some 89,.bR (.tmp 88),none⟩,⟨some 90,.move (.const (.int .i64 0)),none⟩]) (.block 1 (.loop (.seq (.ops [⟨some 91,.bin .lss (.tmp 90) (.tmp 89),none⟩]) (.seq (.cond (.tmp 91) (.skip) (.exit 1)) (.seq (.block 2 (.seq (.ops [⟨some 92,.bg 4 (.tmp 88) (.tmp 90),none⟩,⟨some 93,.ak 4 (.tmp 92),none⟩,⟨some 12,.alloc [.int .i64 0,.int .i64 0,.int .i64 0,.string ⟨#[]⟩],none⟩,⟨none,.store 4 (.tmp 12) (.tmp 93),none⟩]) (.draw [(⟨some 94,.move (.tmp 0),none⟩,[]),(⟨some 95,.nilCheck (.tmp 94),none⟩,[]),(⟨some 96,.fieldAddr 4 (.tmp 95),none⟩,[]),(⟨some 97,.ah (.tmp 96),none⟩,[]),(⟨some 98,.fieldAddr 0 (.tmp 12),none⟩,[]),(⟨some 99,.ah (.tmp 98),none⟩,[]),(⟨some 100,.fieldAddr 3 (.tmp 12),none⟩,[]),(⟨some 101,.ah (.tmp 100),none⟩,[]),(⟨some 102,.call (F 84) [.tmp 97,.tmp 99,.tmp 101],none⟩,[])]))) (.ops [⟨some 103,.bin .add (.tmp 90) (.const (.int .i64 1)),none⟩,⟨some 90,.move (.tmp 103),none⟩])))))))) (.skip))))))))))))))) (.seq (.ops [⟨some 4,.move (.const (.slice none 0 0)),none⟩]) (.ret))))⟩
def jk (F:Nat→FuncId)(Ty:Nat→TypeId):aA:=⟨50,[],.seq (.seq (.ops [⟨some 3,.move (.tmp 0),none⟩,⟨some 4,.fC 0 false (.tmp 3),none⟩]) (.cond (.tmp 4) (.ret) (.skip))) (.seq (.draw [(⟨some 5,.move (.tmp 0),none⟩,[]),(⟨some 6,.move (.tmp 0),none⟩,[]),(⟨some 7,.move (.tmp 0),none⟩,[]),(⟨some 8,.nilCheck (.tmp 7),none⟩,[]),(⟨some 9,.fieldAddr 0 (.tmp 8),none⟩,[]),(⟨some 10,.ah (.tmp 9),none⟩,[]),(⟨some 11,.move (.tmp 0),none⟩,[]),(⟨some 12,.nilCheck (.tmp 11),none⟩,[]),(⟨some 13,.fieldAddr 1 (.tmp 12),none⟩,[]),(⟨some 14,.ah (.tmp 13),none⟩,[]),(⟨some 16,.move (.tmp 0),none⟩,[]),(⟨some 17,.nilCheck (.tmp 16),none⟩,[]),(⟨some 18,.fieldAddr 0 (.tmp 17),none⟩,[]),(⟨some 19,.ah (.tmp 18),none⟩,[]),(⟨some 15,.call (F 275) [.tmp 10,.tmp 14],none⟩,[⟨some 19,.ah (.tmp 18),none⟩]),(⟨some 20,.call (F 81) [.tmp 19],none⟩,[]),(⟨some 21,.nilCheck (.tmp 5),none⟩,[]),(⟨some 22,.fieldAddr 3 (.tmp 21),none⟩,[]),(⟨none,.store 1 (.tmp 22) (.tmp 15),none⟩,[]),(⟨some 23,.nilCheck (.tmp 6),none⟩,[]),(⟨some 24,.fieldAddr 4 (.tmp 23),none⟩,[]),(⟨none,.store 1 (.tmp 24) (.tmp 20),none⟩,[])]) (.seq (.seq (.ops [⟨some 25,.move (.tmp 0),none⟩,⟨some 26,.nilCheck (.tmp 25),none⟩,⟨some 27,.fieldAddr 2 (.tmp 26),none⟩,⟨some 28,.ah (.tmp 27),none⟩,⟨some 29,.call (F 186) [.tmp 28],none⟩,⟨some 30,.move (.const (.int .i64 0)),none⟩]) (.block 0 (.loop (.seq (.ops [⟨some 31,.bin .lss (.tmp 30) (.tmp 29),none⟩]) (.seq (.cond (.tmp 31) (.skip) (.exit 0)) (.seq (.block 1 (.seq (.ops [⟨some 32,.move (.tmp 30),none⟩,⟨some 2,.move (.tmp 32),none⟩]) (.ops [⟨some 33,.move (.tmp 0),none⟩,⟨some 34,.nilCheck (.tmp 33),none⟩,⟨some 35,.fieldAddr 4 (.tmp 34),none⟩,⟨some 36,.ah (.tmp 35),none⟩,⟨some 37,.move (.tmp 2),none⟩,⟨some 38,.call (F 84) [.tmp 36,.tmp 37,.const (.string ⟨#[]⟩)],none⟩]))) (.ops [⟨some 39,.bin .add (.tmp 30) (.const (.int .i64 1)),none⟩,⟨some 30,.move (.tmp 39),none⟩]))))))) (.draw [(⟨some 40,.move (.tmp 0),none⟩,[]),(⟨some 41,.nilCheck (.tmp 40),none⟩,[]),(⟨some 42,.fieldAddr 4 (.tmp 41),none⟩,[]),(⟨some 43,.ah (.tmp 42),none⟩,[]),(⟨some 44,.move (.tmp 0),none⟩,[]),(⟨some 45,.nilCheck (.tmp 44),none⟩,[]),(⟨some 46,.fieldAddr 2 (.tmp 45),none⟩,[]),(⟨some 47,.ah (.tmp 46),none⟩,[]),(⟨some 48,.call (F 186) [.tmp 47],none⟩,[⟨some 43,.ah (.tmp 42),none⟩]),(⟨some 49,.call (F 85) [.tmp 43,.tmp 48],none⟩,[])])))⟩
def jL (F:Nat→FuncId)(Ty:Nat→TypeId):aA:=⟨41,[.tmp 2],.seq (.ops [⟨some 2,.move (.const (.slice none 0 0)),none⟩]) (.seq (.seq (.ops [⟨some 6,.move (.tmp 0),none⟩,⟨some 7,.fC 0 false (.tmp 6),none⟩]) (.cond (.tmp 7) (.seq (.ops [⟨some 2,.move (.const (.slice none 0 0)),none⟩]) (.ret)) (.skip))) (.seq (.ops [⟨some 8,.move (.tmp 0),none⟩,⟨some 9,.nilCheck (.tmp 8),none⟩,⟨some 10,.fieldAddr 4 (.tmp 9),none⟩,⟨some 11,.ah (.tmp 10),none⟩,⟨some 12,.call (F 88) [.tmp 11],none⟩,⟨some 3,.move (.tmp 12),none⟩]) (.seq (.draw [(⟨some 14,.move (.tmp 0),none⟩,[]),(⟨some 15,.nilCheck (.tmp 14),none⟩,[]),(⟨some 16,.fieldAddr 3 (.tmp 15),none⟩,[]),(⟨some 17,.ah (.tmp 16),none⟩,[]),(⟨some 18,.move (.tmp 0),none⟩,[]),(⟨some 19,.nilCheck (.tmp 18),none⟩,[]),(⟨some 20,.fieldAddr 2 (.tmp 19),none⟩,[]),(⟨some 21,.ah (.tmp 20),none⟩,[]),(⟨some 23,.move (.tmp 3),none⟩,[]),(⟨some 4,.alloc [.int .i64 0,.int .i64 0],none⟩,[]),(⟨some 22,.call (F 184) [.tmp 21],none⟩,[⟨some 17,.ah (.tmp 16),none⟩]),(⟨some 24,.call (F 276) [.tmp 17,.tmp 22,.tmp 23],none⟩,[]),(⟨some 13,.move (.tmp 24),none⟩,[]),(⟨some 25,.extract (.tmp 13) 0,none⟩,[]),(⟨some 26,.extract (.tmp 13) 1,none⟩,[]),(⟨none,.store 2 (.tmp 4) (.tmp 25),none⟩,[]),(⟨some 5,.move (.tmp 26),none⟩,[])]) (.seq (.seq (.ops [⟨some 27,.move (.tmp 5),none⟩,⟨some 28,.bin .neq (.tmp 27) (.const (.int .i64 0)),none⟩]) (.cond (.tmp 28) (.seq (.ops [⟨some 2,.move (.const (.slice none 0 0)),none⟩]) (.ret)) (.skip))) (.seq (.draw [(⟨some 29,.move (.tmp 0),none⟩,[]),(⟨some 30,.nilCheck (.tmp 29),none⟩,[]),(⟨some 31,.fieldAddr 2 (.tmp 30),none⟩,[]),(⟨some 32,.ah (.tmp 31),none⟩,[]),(⟨some 33,.ak 2 (.tmp 4),none⟩,[]),(⟨some 34,.move (.tmp 3),none⟩,[]),(⟨some 35,.call (F 181) [.tmp 32,.tmp 33,.tmp 34],none⟩,[])]) (.seq (.ops [⟨some 36,.move (.tmp 0),none⟩,⟨some 37,.move (.tmp 3),none⟩,⟨some 38,.ak 2 (.tmp 4),none⟩,⟨some 39,.build [.int .i64 0,.int .i64 0,.int .i64 0,.int .i64 0,.int .i64 0,.int .i64 0,.slice none 0 0] [((0,1),.const (.int .i64 1)),((3,1),.tmp 37),((4,2),.tmp 38)],none⟩,⟨some 40,.call (F 303) [.tmp 36,.tmp 39],none⟩,⟨some 2,.move (.tmp 40),none⟩]) (.ret)))))))⟩
def gW (F:Nat→FuncId)(Ty:Nat→TypeId):aA:=⟨25,[.tmp 4,.tmp 5],.seq (.ops [⟨some 4,.move (.const (.slice none 0 0)),none⟩,⟨some 5,.move (.const (.int .i64 0)),none⟩]) (.seq (.seq (.ops [⟨some 8,.move (.tmp 0),none⟩,⟨some 9,.fC 0 false (.tmp 8),none⟩]) (.cond (.tmp 9) (.seq (.ops [⟨some 4,.move (.const (.slice none 0 0)),none⟩,⟨some 5,.move (.const (.int .i64 1)),none⟩]) (.ret)) (.skip))) (.seq (.ops [⟨some 11,.move (.tmp 0),none⟩,⟨some 12,.nilCheck (.tmp 11),none⟩,⟨some 13,.fieldAddr 3 (.tmp 12),none⟩,⟨some 14,.ah (.tmp 13),none⟩,⟨some 15,.move (.tmp 1),none⟩,⟨some 16,.call (F 282) [.tmp 14,.tmp 15],none⟩,⟨some 10,.move (.tmp 16),none⟩,⟨some 17,.extract (.tmp 10) 0,none⟩,⟨some 18,.extract (.tmp 10) 1,none⟩,⟨some 6,.alloc [.int .i64 0,.int .i64 0,.int .i64 0,.string ⟨#[]⟩],none⟩,⟨none,.store 4 (.tmp 6) (.tmp 17),none⟩,⟨some 7,.move (.tmp 18),none⟩]) (.seq (.seq (.ops [⟨some 19,.move (.tmp 7),none⟩,⟨some 20,.bin .neq (.tmp 19) (.const (.int .i64 0)),none⟩]) (.cond (.tmp 20) (.seq (.ops [⟨some 21,.move (.tmp 7),none⟩,⟨some 4,.move (.const (.slice none 0 0)),none⟩,⟨some 5,.move (.tmp 21),none⟩]) (.ret)) (.skip))) (.seq (.ops [⟨some 22,.move (.tmp 0),none⟩,⟨some 23,.ak 4 (.tmp 6),none⟩,⟨some 24,.call (F 301) [.tmp 22,.const (.int .i64 3),.tmp 23],none⟩,⟨some 4,.move (.tmp 24),none⟩,⟨some 5,.move (.const (.int .i64 0)),none⟩]) (.ret)))))⟩
def jX (F:Nat→FuncId)(Ty:Nat→TypeId):aA:=⟨21,[.tmp 4],.seq (.ops [⟨some 4,.move (.const (.slice none 0 0)),none⟩]) (.seq (.seq (.ops [⟨some 5,.move (.tmp 0),none⟩,⟨some 6,.move (.tmp 1),none⟩,⟨some 7,.call (F 298) [.tmp 5,.tmp 6],none⟩,⟨some 8,.un .not (.tmp 7),none⟩]) (.cond (.tmp 8) (.seq (.ops [⟨some 4,.move (.const (.slice none 0 0)),none⟩]) (.ret)) (.skip))) (.seq (.draw [(⟨some 9,.move (.tmp 0),none⟩,[]),(⟨some 10,.nilCheck (.tmp 9),none⟩,[]),(⟨some 11,.fieldAddr 1 (.tmp 10),none⟩,[]),(⟨some 12,.ah (.tmp 11),none⟩,[]),(⟨some 13,.move (.tmp 1),none⟩,[]),(⟨some 14,.move (.tmp 0),none⟩,[]),(⟨some 15,.nilCheck (.tmp 14),none⟩,[]),(⟨some 16,.fieldAddr 4 (.tmp 15),none⟩,[]),(⟨some 17,.ah (.tmp 16),none⟩,[]),(⟨some 18,.call (F 88) [.tmp 17],none⟩,[⟨some 12,.ah (.tmp 11),none⟩]),(⟨some 19,.build [.int .i64 0,.int .i64 0,.int .i64 0,.int .i64 0,.int .i64 0,.int .i64 0,.slice none 0 0] [((0,1),.const (.int .i64 5)),((1,1),.tmp 12),((2,1),.tmp 13),((3,1),.tmp 18)],none⟩,[]),(⟨some 20,.buildSlice 1 [.int .i64 0,.int .i64 0,.int .i64 0,.int .i64 0,.int .i64 0,.int .i64 0,.slice none 0 0] [((0,7),.tmp 19)],none⟩,[]),(⟨some 4,.move (.tmp 20),none⟩,[])]) (.ret)))⟩
def jY (F:Nat→FuncId)(Ty:Nat→TypeId):aA:=⟨10,[.tmp 2],.seq (.ops [⟨some 2,.move (.const (.slice none 0 0)),none⟩]) (.seq (.seq (.ops [⟨some 3,.move (.tmp 0),none⟩,⟨some 4,.fC 0 false (.tmp 3),none⟩]) (.cond (.tmp 4) (.seq (.ops [⟨some 2,.move (.const (.slice none 0 0)),none⟩]) (.ret)) (.skip))) (.seq (.ops [⟨some 5,.move (.tmp 0),none⟩,⟨some 6,.nilCheck (.tmp 5),none⟩,⟨some 7,.fieldAddr 4 (.tmp 6),none⟩,⟨some 8,.ah (.tmp 7),none⟩,⟨some 9,.call (F 87) [.tmp 8,.const (.int .i64 0)],none⟩,⟨some 2,.move (.tmp 9),none⟩]) (.ret)))⟩
def jl (F:Nat→FuncId)(Ty:Nat→TypeId):aA:=⟨12,[.tmp 2],.seq (.ops [⟨some 2,.move (.const (.bool false)),none⟩]) (.seq (.ops [⟨some 3,.move (.tmp 0),none⟩,⟨some 4,.fC 0 true (.tmp 3),none⟩,⟨some 5,.move (.tmp 4),none⟩,⟨some 6,.move (.tmp 0),some (5,true)⟩,⟨some 7,.nilCheck (.tmp 6),some (5,true)⟩,⟨some 8,.fieldAddr 3 (.tmp 7),some (5,true)⟩,⟨some 9,.ah (.tmp 8),some (5,true)⟩,⟨some 10,.call (F 279) [.tmp 9],some (5,true)⟩,⟨some 11,.pick (.tmp 5) (.tmp 10) (.const (.bool false)),none⟩,⟨some 2,.move (.tmp 11),none⟩]) (.ret))⟩
def gz (F:Nat→FuncId)(Ty:Nat→TypeId):aA:=⟨19,[.tmp 4],.seq (.ops [⟨some 4,.move (.const (.bool false)),none⟩]) (.seq (.ops [⟨some 5,.move (.tmp 0),none⟩,⟨some 6,.fC 0 true (.tmp 5),none⟩,⟨some 7,.move (.tmp 6),none⟩,⟨some 8,.move (.tmp 1),some (7,true)⟩,⟨some 9,.bin .geq (.tmp 8) (.const (.int .i64 0)),some (7,true)⟩,⟨some 10,.pick (.tmp 7) (.tmp 9) (.const (.bool false)),none⟩,⟨some 11,.move (.tmp 10),none⟩,⟨some 12,.move (.tmp 1),some (11,true)⟩,⟨some 13,.move (.tmp 0),some (11,true)⟩,⟨some 14,.nilCheck (.tmp 13),some (11,true)⟩,⟨some 15,.fieldAddr 0 (.tmp 14),some (11,true)⟩,⟨some 16,.ah (.tmp 15),some (11,true)⟩,⟨some 17,.bin .lss (.tmp 12) (.tmp 16),some (11,true)⟩,⟨some 18,.pick (.tmp 11) (.tmp 17) (.const (.bool false)),none⟩,⟨some 4,.move (.tmp 18),none⟩]) (.ret))⟩
def gY (F:Nat→FuncId)(Ty:Nat→TypeId):aA:=⟨47,[.tmp 4],.seq (.ops [⟨some 3,.box (.tmp 1),none⟩,⟨some 4,.move (.const (.slice none 0 0)),none⟩]) (.seq (.draw [(⟨some 7,.move (.tmp 0),none⟩,[]),(⟨some 8,.nilCheck (.tmp 7),none⟩,[]),(⟨some 9,.fieldAddr 3 (.tmp 8),none⟩,[]),(⟨some 10,.ah (.tmp 9),none⟩,[]),(⟨some 11,.fieldAddr 4 (.tmp 3),none⟩,[]),(⟨some 12,.ak 2 (.tmp 11),none⟩,[]),(⟨some 13,.call (F 283) [.tmp 10,.tmp 12],none⟩,[])]) (.seq (.seq (.ops [⟨some 14,.fieldAddr 3 (.tmp 3),none⟩,⟨some 15,.ah (.tmp 14),none⟩,⟨some 16,.bin .lss (.tmp 15) (.const (.int .i64 0)),none⟩,⟨some 17,.move (.tmp 16),none⟩,⟨some 18,.fieldAddr 3 (.tmp 3),some (17,false)⟩,⟨some 19,.ah (.tmp 18),some (17,false)⟩,⟨some 20,.bin .geq (.tmp 19) (.const (.int .i64 1024)),some (17,false)⟩,⟨some 21,.pick (.tmp 17) (.const (.bool true)) (.tmp 20),none⟩]) (.cond (.tmp 21) (.seq (.ops [⟨some 4,.move (.const (.slice none 0 0)),none⟩]) (.ret)) (.skip))) (.seq (.draw [(⟨some 23,.move (.tmp 0),none⟩,[]),(⟨some 24,.nilCheck (.tmp 23),none⟩,[]),(⟨some 25,.fieldAddr 2 (.tmp 24),none⟩,[]),(⟨some 26,.ah (.tmp 25),none⟩,[]),(⟨some 27,.fieldAddr 4 (.tmp 3),none⟩,[]),(⟨some 28,.ak 2 (.tmp 27),none⟩,[]),(⟨some 29,.fieldAddr 3 (.tmp 3),none⟩,[]),(⟨some 30,.ah (.tmp 29),none⟩,[]),(⟨some 31,.call (F 181) [.tmp 26,.tmp 28,.tmp 30],none⟩,[]),(⟨some 22,.move (.tmp 31),none⟩,[]),(⟨some 32,.extract (.tmp 22) 0,none⟩,[]),(⟨some 33,.extract (.tmp 22) 1,none⟩,[]),(⟨some 5,.move (.tmp 32),none⟩,[]),(⟨some 6,.move (.tmp 33),none⟩,[])]) (.seq (.seq (.ops [⟨some 34,.move (.tmp 6),none⟩,⟨some 35,.un .not (.tmp 34),none⟩]) (.cond (.tmp 35) (.seq (.ops [⟨some 4,.move (.const (.slice none 0 0)),none⟩]) (.ret)) (.skip))) (.seq (.draw [(⟨some 36,.move (.tmp 0),none⟩,[]),(⟨some 37,.nilCheck (.tmp 36),none⟩,[]),(⟨some 38,.fieldAddr 1 (.tmp 37),none⟩,[]),(⟨some 39,.ah (.tmp 38),none⟩,[]),(⟨some 40,.fieldAddr 1 (.tmp 3),none⟩,[]),(⟨some 41,.ah (.tmp 40),none⟩,[]),(⟨some 42,.fieldAddr 4 (.tmp 3),none⟩,[]),(⟨some 43,.ak 2 (.tmp 42),none⟩,[]),(⟨some 44,.move (.tmp 5),none⟩,[]),(⟨some 45,.build [.int .i64 0,.int .i64 0,.int .i64 0,.int .i64 0,.int .i64 0,.int .i64 0,.slice none 0 0] [((0,1),.const (.int .i64 2)),((1,1),.tmp 39),((2,1),.tmp 41),((4,2),.tmp 43),((6,1),.tmp 44)],none⟩,[]),(⟨some 46,.buildSlice 1 [.int .i64 0,.int .i64 0,.int .i64 0,.int .i64 0,.int .i64 0,.int .i64 0,.slice none 0 0] [((0,7),.tmp 45)],none⟩,[]),(⟨some 4,.move (.tmp 46),none⟩,[])]) (.ret))))))⟩
def gZ (F:Nat→FuncId)(Ty:Nat→TypeId):aA:=⟨37,[.tmp 4],.seq (.ops [⟨some 3,.box (.tmp 1),none⟩,⟨some 4,.move (.const (.slice none 0 0)),none⟩]) (.seq (.seq (.draw [(⟨some 8,.move (.tmp 0),none⟩,[]),(⟨some 9,.nilCheck (.tmp 8),none⟩,[]),(⟨some 10,.fieldAddr 3 (.tmp 9),none⟩,[]),(⟨some 11,.ah (.tmp 10),none⟩,[]),(⟨some 12,.fieldAddr 1 (.tmp 3),none⟩,[]),(⟨some 13,.ah (.tmp 12),none⟩,[]),(⟨some 14,.fieldAddr 4 (.tmp 3),none⟩,[]),(⟨some 15,.ak 2 (.tmp 14),none⟩,[]),(⟨some 16,.fieldAddr 6 (.tmp 3),none⟩,[]),(⟨some 17,.ah (.tmp 16),none⟩,[]),(⟨some 18,.call (F 278) [.tmp 11,.tmp 13,.tmp 15,.tmp 17],none⟩,[]),(⟨some 19,.un .not (.tmp 18),none⟩,[])]) (.cond (.tmp 19) (.seq (.ops [⟨some 4,.move (.const (.slice none 0 0)),none⟩]) (.ret)) (.skip))) (.seq (.ops [⟨some 5,.move (.const (.slice none 0 0)),none⟩]) (.seq (.seq (.ops [⟨some 20,.move (.tmp 0),none⟩,⟨some 21,.nilCheck (.tmp 20),none⟩,⟨some 22,.fieldAddr 3 (.tmp 21),none⟩,⟨some 23,.ah (.tmp 22),none⟩,⟨some 24,.call (F 281) [.tmp 23],none⟩,⟨some 25,.bR (.tmp 24),none⟩,⟨some 26,.move (.const (.int .i64 0)),none⟩]) (.block 0 (.loop (.seq (.ops [⟨some 27,.bin .lss (.tmp 26) (.tmp 25),none⟩]) (.seq (.cond (.tmp 27) (.skip) (.exit 0)) (.seq (.block 1 (.seq (.ops [⟨some 28,.bg 4 (.tmp 24) (.tmp 26),none⟩,⟨some 29,.ak 4 (.tmp 28),none⟩,⟨some 7,.alloc [.int .i64 0,.int .i64 0,.int .i64 0,.string ⟨#[]⟩],none⟩,⟨none,.store 4 (.tmp 7) (.tmp 29),none⟩]) (.ops [⟨some 30,.move (.tmp 5),none⟩,⟨some 31,.move (.tmp 0),none⟩,⟨some 32,.ak 4 (.tmp 7),none⟩,⟨some 33,.call (F 301) [.tmp 31,.const (.int .i64 3),.tmp 32],none⟩,⟨some 34,.append 7 72 (.tmp 30) (.tmp 33),none⟩,⟨some 5,.move (.tmp 34),none⟩]))) (.ops [⟨some 35,.bin .add (.tmp 26) (.const (.int .i64 1)),none⟩,⟨some 26,.move (.tmp 35),none⟩]))))))) (.seq (.ops [⟨some 36,.move (.tmp 5),none⟩,⟨some 4,.move (.tmp 36),none⟩]) (.ret)))))⟩
def jM (F:Nat→FuncId)(Ty:Nat→TypeId):aA:=⟨13,[.tmp 6],.seq (.ops [⟨some 5,.box (.tmp 2),none⟩,⟨some 6,.move (.const (.slice none 0 0)),none⟩]) (.seq (.ops [⟨some 7,.move (.tmp 0),none⟩,⟨some 8,.move (.tmp 1),none⟩,⟨some 9,.ak 4 (.tmp 5),none⟩,⟨some 10,.buildSlice 1 [.int .i64 0,.int .i64 0,.int .i64 0,.string ⟨#[]⟩] [((0,4),.tmp 9)],none⟩,⟨some 11,.build [.int .i64 0,.int .i64 0,.int .i64 0,.int .i64 0,.int .i64 0,.int .i64 0,.slice none 0 0] [((0,1),.tmp 8),((6,1),.tmp 10)],none⟩,⟨some 12,.call (F 303) [.tmp 7,.tmp 11],none⟩,⟨some 6,.move (.tmp 12),none⟩]) (.ret))⟩
def jN (F:Nat→FuncId)(Ty:Nat→TypeId):aA:=⟨53,[.tmp 4],.seq (.ops [⟨some 3,.box (.tmp 1),none⟩,⟨some 4,.move (.const (.slice none 0 0)),none⟩]) (.seq (.seq (.draw [(⟨some 8,.fieldAddr 3 (.tmp 3),none⟩,[]),(⟨some 9,.ah (.tmp 8),none⟩,[]),(⟨some 10,.move (.tmp 0),none⟩,[]),(⟨some 11,.nilCheck (.tmp 10),none⟩,[]),(⟨some 12,.fieldAddr 4 (.tmp 11),none⟩,[]),(⟨some 13,.ah (.tmp 12),none⟩,[]),(⟨some 14,.call (F 86) [.tmp 13],none⟩,[⟨some 9,.ah (.tmp 8),none⟩]),(⟨some 15,.bin .lss (.tmp 9) (.tmp 14),none⟩,[])]) (.cond (.tmp 15) (.seq (.ops [⟨some 4,.move (.const (.slice none 0 0)),none⟩]) (.ret)) (.skip))) (.seq (.ops [⟨some 5,.move (.const (.slice none 0 0)),none⟩]) (.seq (.seq (.draw [(⟨some 16,.move (.tmp 0),none⟩,[]),(⟨some 17,.nilCheck (.tmp 16),none⟩,[]),(⟨some 18,.fieldAddr 4 (.tmp 17),none⟩,[]),(⟨some 19,.ah (.tmp 18),none⟩,[]),(⟨some 20,.fieldAddr 3 (.tmp 3),none⟩,[]),(⟨some 21,.ah (.tmp 20),none⟩,[]),(⟨some 24,.move (.const (.int .i64 0)),none⟩,[]),(⟨some 22,.call (F 87) [.tmp 19,.tmp 21],none⟩,[]),(⟨some 23,.bR (.tmp 22),none⟩,[])]) (.block 0 (.loop (.seq (.ops [⟨some 25,.bin .lss (.tmp 24) (.tmp 23),none⟩]) (.seq (.cond (.tmp 25) (.skip) (.exit 0)) (.seq (.block 1 (.seq (.ops [⟨some 26,.move (.tmp 24),none⟩,⟨some 27,.bg 1 (.tmp 22) (.tmp 24),none⟩,⟨some 28,.ah (.tmp 27),none⟩,⟨some 6,.move (.tmp 26),none⟩,⟨some 7,.move (.tmp 28),none⟩]) (.seq (.ops [⟨some 29,.move (.tmp 6),none⟩,⟨some 30,.bin .lss (.tmp 29) (.const (.int .i64 8)),none⟩]) (.cond (.tmp 30) (.ops [⟨some 31,.move (.tmp 5),none⟩,⟨some 32,.fieldAddr 3 (.tmp 3),none⟩,⟨some 33,.ah (.tmp 32),none⟩,⟨some 34,.move (.tmp 6),none⟩,⟨some 35,.bin .add (.tmp 33) (.tmp 34),none⟩,⟨some 36,.move (.tmp 7),none⟩,⟨some 37,.build [.int .i64 0,.int .i64 0,.int .i64 0,.string ⟨#[]⟩] [((0,1),.tmp 35),((3,1),.tmp 36)],none⟩,⟨some 38,.buildSlice 1 [.int .i64 0,.int .i64 0,.int .i64 0,.string ⟨#[]⟩] [((0,4),.tmp 37)],none⟩,⟨some 39,.append 4 40 (.tmp 31) (.tmp 38),none⟩,⟨some 5,.move (.tmp 39),none⟩]) (.skip))))) (.ops [⟨some 40,.bin .add (.tmp 24) (.const (.int .i64 1)),none⟩,⟨some 24,.move (.tmp 40),none⟩]))))))) (.seq (.seq (.ops [⟨some 41,.move (.tmp 5),none⟩,⟨some 42,.bR (.tmp 41),none⟩,⟨some 43,.bin .eql (.tmp 42) (.const (.int .i64 0)),none⟩]) (.cond (.tmp 43) (.seq (.ops [⟨some 4,.move (.const (.slice none 0 0)),none⟩]) (.ret)) (.skip))) (.seq (.draw [(⟨some 44,.move (.tmp 0),none⟩,[]),(⟨some 45,.nilCheck (.tmp 44),none⟩,[]),(⟨some 46,.fieldAddr 1 (.tmp 45),none⟩,[]),(⟨some 47,.ah (.tmp 46),none⟩,[]),(⟨some 48,.fieldAddr 1 (.tmp 3),none⟩,[]),(⟨some 49,.ah (.tmp 48),none⟩,[]),(⟨some 50,.move (.tmp 5),none⟩,[]),(⟨some 51,.build [.int .i64 0,.int .i64 0,.int .i64 0,.int .i64 0,.int .i64 0,.int .i64 0,.slice none 0 0] [((0,1),.const (.int .i64 6)),((1,1),.tmp 47),((2,1),.tmp 49),((6,1),.tmp 50)],none⟩,[]),(⟨some 52,.buildSlice 1 [.int .i64 0,.int .i64 0,.int .i64 0,.int .i64 0,.int .i64 0,.int .i64 0,.slice none 0 0] [((0,7),.tmp 51)],none⟩,[]),(⟨some 4,.move (.tmp 52),none⟩,[])]) (.ret))))))⟩
def jZ (F:Nat→FuncId)(Ty:Nat→TypeId):aA:=⟨43,[.tmp 4],.seq (.ops [⟨some 3,.box (.tmp 1),none⟩,⟨some 4,.move (.const (.slice none 0 0)),none⟩]) (.seq (.ops [⟨some 7,.move (.tmp 0),none⟩,⟨some 8,.nilCheck (.tmp 7),none⟩,⟨some 9,.fieldAddr 0 (.tmp 8),none⟩,⟨some 10,.ah (.tmp 9),none⟩,⟨some 11,.mkSlice 72 [.int .i64 0,.int .i64 0,.int .i64 0,.int .i64 0,.int .i64 0,.int .i64 0,.slice none 0 0] (.tmp 10) (.tmp 10),none⟩,⟨some 5,.move (.tmp 11),none⟩]) (.seq (.seq (.ops [⟨some 12,.move (.tmp 5),none⟩,⟨some 13,.bR (.tmp 12),none⟩,⟨some 14,.move (.const (.int .i64 0)),none⟩]) (.block 0 (.loop (.seq (.ops [⟨some 15,.bin .lss (.tmp 14) (.tmp 13),none⟩]) (.seq (.cond (.tmp 15) (.skip) (.exit 0)) (.seq (.block 1 (.seq (.ops [⟨some 16,.move (.tmp 14),none⟩,⟨some 6,.move (.tmp 16),none⟩]) (.seq (.ops [⟨some 17,.move (.tmp 5),none⟩,⟨some 18,.move (.tmp 6),none⟩,⟨some 19,.ak 7 (.tmp 3),none⟩,⟨some 20,.bg 7 (.tmp 17) (.tmp 18),none⟩,⟨none,.store 7 (.tmp 20) (.tmp 19),none⟩]) (.seq (.ops [⟨some 21,.move (.tmp 5),none⟩,⟨some 22,.move (.tmp 6),none⟩,⟨some 23,.move (.tmp 5),none⟩,⟨some 24,.move (.tmp 6),none⟩,⟨some 25,.move (.tmp 0),none⟩,⟨some 26,.nilCheck (.tmp 25),none⟩,⟨some 27,.fieldAddr 1 (.tmp 26),none⟩,⟨some 28,.ah (.tmp 27),none⟩,⟨some 29,.move (.tmp 6),none⟩,⟨some 30,.bg 7 (.tmp 21) (.tmp 22),none⟩,⟨some 31,.fieldAddr 1 (.tmp 30),none⟩,⟨none,.store 1 (.tmp 31) (.tmp 28),none⟩,⟨some 32,.bg 7 (.tmp 23) (.tmp 24),none⟩,⟨some 33,.fieldAddr 2 (.tmp 32),none⟩,⟨none,.store 1 (.tmp 33) (.tmp 29),none⟩]) (.ops [⟨some 34,.move (.tmp 5),none⟩,⟨some 35,.move (.tmp 6),none⟩,⟨some 36,.fieldAddr 6 (.tmp 3),none⟩,⟨some 37,.ah (.tmp 36),none⟩,⟨some 38,.append 4 40 (.const (.slice none 0 0)) (.tmp 37),none⟩,⟨some 39,.bg 7 (.tmp 34) (.tmp 35),none⟩,⟨some 40,.fieldAddr 6 (.tmp 39),none⟩,⟨none,.store 1 (.tmp 40) (.tmp 38),none⟩]))))) (.ops [⟨some 41,.bin .add (.tmp 14) (.const (.int .i64 1)),none⟩,⟨some 14,.move (.tmp 41),none⟩]))))))) (.seq (.ops [⟨some 42,.move (.tmp 5),none⟩,⟨some 4,.move (.tmp 42),none⟩]) (.ret))))⟩
def bY (F:Nat→FuncId)(Ty:Nat→TypeId):aA:=⟨65,[.tmp 2],.seq (.ops [⟨some 1,.box (.tmp 0),none⟩,⟨some 2,.move (.const (.nilIface)),none⟩]) (.seq (.ops [⟨some 4,.fieldAddr 6 (.tmp 1),none⟩,⟨some 5,.ah (.tmp 4),none⟩,⟨some 6,.bR (.tmp 5),none⟩,⟨some 7,.bin .eql (.tmp 6) (.const (.int .i64 1)),none⟩,⟨some 3,.move (.tmp 7),none⟩]) (.seq (.block 0 (.seq (.ops [⟨some 9,.fieldAddr 0 (.tmp 1),none⟩,⟨some 10,.ah (.tmp 9),none⟩,⟨some 11,.bin .eql (.tmp 10) (.const (.int .i64 1)),none⟩,⟨some 8,.move (.tmp 11),none⟩]) (.cond (.tmp 8) (.seq (.ops [⟨some 12,.ak 7 (.tmp 1),none⟩,⟨some 13,.build [.int .i64 0,.int .i64 0,.int .i64 0,.int .i64 0,.int .i64 0,.int .i64 0,.slice none 0 0] [((0,7),.tmp 12)],none⟩,⟨some 14,.p9 (Ty 7) (.tmp 13),none⟩,⟨some 2,.move (.tmp 14),none⟩]) (.ret)) (.seq (.ops [⟨some 16,.fieldAddr 0 (.tmp 1),none⟩,⟨some 17,.ah (.tmp 16),none⟩,⟨some 18,.bin .eql (.tmp 17) (.const (.int .i64 2)),none⟩,⟨some 15,.move (.tmp 18),none⟩]) (.cond (.tmp 15) (.seq (.ops [⟨some 19,.ak 7 (.tmp 1),none⟩,⟨some 20,.build [.int .i64 0,.int .i64 0,.int .i64 0,.int .i64 0,.int .i64 0,.int .i64 0,.slice none 0 0] [((0,7),.tmp 19)],none⟩,⟨some 21,.p9 (Ty 8) (.tmp 20),none⟩,⟨some 2,.move (.tmp 21),none⟩]) (.ret)) (.seq (.ops [⟨some 23,.fieldAddr 0 (.tmp 1),none⟩,⟨some 24,.ah (.tmp 23),none⟩,⟨some 25,.bin .eql (.tmp 24) (.const (.int .i64 3)),none⟩,⟨some 26,.move (.tmp 25),none⟩,⟨some 27,.move (.tmp 3),some (26,true)⟩,⟨some 28,.pick (.tmp 26) (.tmp 27) (.const (.bool false)),none⟩,⟨some 22,.move (.tmp 28),none⟩]) (.cond (.tmp 22) (.seq (.ops [⟨some 29,.fieldAddr 6 (.tmp 1),none⟩,⟨some 30,.ah (.tmp 29),none⟩,⟨some 31,.bg 4 (.tmp 30) (.const (.int .i64 0)),none⟩,⟨some 32,.ak 4 (.tmp 31),none⟩,⟨some 33,.build [.int .i64 0,.int .i64 0,.int .i64 0,.string ⟨#[]⟩] [((0,4),.tmp 32)],none⟩,⟨some 34,.p9 (Ty 9) (.tmp 33),none⟩,⟨some 2,.move (.tmp 34),none⟩]) (.ret)) (.seq (.ops [⟨some 36,.fieldAddr 0 (.tmp 1),none⟩,⟨some 37,.ah (.tmp 36),none⟩,⟨some 38,.bin .eql (.tmp 37) (.const (.int .i64 4)),none⟩,⟨some 39,.move (.tmp 38),none⟩,⟨some 40,.move (.tmp 3),some (39,true)⟩,⟨some 41,.pick (.tmp 39) (.tmp 40) (.const (.bool false)),none⟩,⟨some 35,.move (.tmp 41),none⟩]) (.cond (.tmp 35) (.seq (.draw [(⟨some 42,.fieldAddr 1 (.tmp 1),none⟩,[]),(⟨some 43,.ah (.tmp 42),none⟩,[]),(⟨some 44,.fieldAddr 6 (.tmp 1),none⟩,[]),(⟨some 45,.ah (.tmp 44),none⟩,[]),(⟨some 46,.bg 4 (.tmp 45) (.const (.int .i64 0)),none⟩,[]),(⟨some 47,.ak 4 (.tmp 46),none⟩,[]),(⟨some 48,.build [.int .i64 0,.int .i64 0,.int .i64 0,.int .i64 0,.string ⟨#[]⟩] [((0,1),.tmp 43),((1,4),.tmp 47)],none⟩,[]),(⟨some 49,.p9 (Ty 10) (.tmp 48),none⟩,[]),(⟨some 2,.move (.tmp 49),none⟩,[])]) (.ret)) (.seq (.ops [⟨some 51,.fieldAddr 0 (.tmp 1),none⟩,⟨some 52,.ah (.tmp 51),none⟩,⟨some 53,.bin .eql (.tmp 52) (.const (.int .i64 5)),none⟩,⟨some 50,.move (.tmp 53),none⟩]) (.cond (.tmp 50) (.seq (.ops [⟨some 54,.ak 7 (.tmp 1),none⟩,⟨some 55,.build [.int .i64 0,.int .i64 0,.int .i64 0,.int .i64 0,.int .i64 0,.int .i64 0,.slice none 0 0] [((0,7),.tmp 54)],none⟩,⟨some 56,.p9 (Ty 11) (.tmp 55),none⟩,⟨some 2,.move (.tmp 56),none⟩]) (.ret)) (.seq (.ops [⟨some 58,.fieldAddr 0 (.tmp 1),none⟩,⟨some 59,.ah (.tmp 58),none⟩,⟨some 60,.bin .eql (.tmp 59) (.const (.int .i64 6)),none⟩,⟨some 57,.move (.tmp 60),none⟩]) (.cond (.tmp 57) (.seq (.ops [⟨some 61,.fieldAddr 6 (.tmp 1),none⟩,⟨some 62,.ah (.tmp 61),none⟩,⟨some 63,.build [.slice none 0 0] [((0,1),.tmp 62)],none⟩,⟨some 64,.p9 (Ty 12) (.tmp 63),none⟩,⟨some 2,.move (.tmp 64),none⟩]) (.ret)) (.skip)))))))))))))) (.seq (.ops [⟨some 2,.move (.const (.nilIface)),none⟩]) (.ret))))⟩
structure OD (c:Ctx):Prop where
 QC:c.IP (c.F 288)=some (uL c.F c.Ty)
 zI:c.IP (c.F 289)=some (jK c.F c.Ty)
 yA:c.IP (c.F 290)=some (jk c.F c.Ty)
 zJ:c.IP (c.F 291)=some (jL c.F c.Ty)
 vR:c.IP (c.F 292)=some (gW c.F c.Ty)
 AY:c.IP (c.F 293)=some (jX c.F c.Ty)
 AZ:c.IP (c.F 295)=some (jY c.F c.Ty)
 yB:c.IP (c.F 297)=some (jl c.F c.Ty)
 zK:c.IP (c.F 298)=some (gz c.F c.Ty)
 vS:c.IP (c.F 299)=some (gY c.F c.Ty)
 vT:c.IP (c.F 300)=some (gZ c.F c.Ty)
 zL:c.IP (c.F 301)=some (jM c.F c.Ty)
 zM:c.IP (c.F 302)=some (jN c.F c.Ty)
 A7:c.IP (c.F 303)=some (jZ c.F c.Ty)
 OE:c.IP (c.F 304)=some (bY c.F c.Ty)
structure az where
 kind:Int
 fr:Int
 to:Int
 slot:Int
 ba:Int
 bn:Int
 ai:List ay
 deriving DecidableEq
def aC (x:az)(u:Value):List Value:=[.int .i64 x.kind,.int .i64 x.fr,.int .i64 x.to,.int .i64 x.slot,.int .i64 x.ba,.int .i64 x.bn,u]
def eP (D:Nat→Prop)(H:aa)(size:Nat)(v:Value)(rows:List (List Value)):Prop:=Py D H size v rows∧qZ H size v rows
theorem eP.le {D:Nat→Prop}{H H':aa}{size:Nat}{v:Value}{rows:List (List Value)}(h:eP D H size v rows)(k:H.le H'):eP D H' size v rows:=⟨h.1.le k,h.2.le k⟩
theorem eP.weak {D D':Nat→Prop}{H:aa}{size:Nat}{v:Value}{rows:List (List Value)}(h:eP D H size v rows)(hd: ∀b,D b→D' b):eP D' H size v rows:=⟨h.1.weak hd,h.2⟩
theorem eP.fr {B D:Nat→Prop}{H H':aa}{size:Nat}{v:Value}{rows:List (List Value)}(h:eP D H size v rows)(k:Fr B H H')(hd: ∀b,D b→¬ B b):eP D H' size v rows:=
 ⟨h.1.fr k hd,(h.1.fr k hd).1,h.2.2⟩
theorem eP.nil (D:Nat→Prop)(H:aa)(size:Nat):eP D H size (.slice none 0 0) []:=⟨⟨⟨none,0,rfl,fun h=>absurd rfl h⟩,fun _ _ _ _ _ h=>absurd rfl h⟩,qZ.nil H size⟩
theorem Grow.QD {H:aa}{B size:Nat}{v:Value}{rows:List (List Value)}(h:Grow H B size v rows):eP (fun b=>B≤b∧b<H.next) H size v rows:=⟨h.slD,h.Rx⟩
def GrowAt (o:Option Nat)(H:aa)(size:Nat)(v:Value)(rows:List (List Value)):Prop:=match o with
 |none=>rows=[]∧v = .slice none 0 0
 |some b=>b<H.next∧(∀r ∈ rows,r.length=size)∧v = .slice (some ⟨b,0,none⟩) rows.length (dY+size)∧H.get b=some (.cells rows.flatten false)
theorem GrowAt.fr {o:Option Nat}{B:Nat→Prop}{H H':aa}{size:Nat}{v:Value}{rows:List (List Value)}(h:GrowAt o H size v rows)(k:Fr B H H')(hd: ∀b,o=some b→¬ B b):GrowAt o H' size v rows:=by
 cases o with
 |none=>exact h
 |some b=>exact⟨Nat.lt_of_lt_of_le h.1 k.next,h.2.1,h.2.2.1,(k.get b h.1 (hd b rfl)).trans h.2.2.2⟩
def QE (H:aa)(size:Nat)(v:Value)(rows:List (List Value)):Prop:=
 (rows=[]∧v = .slice none 0 0)∨(rows≠[]∧(Dc H size v rows∨∃b,GrowAt (some b) H size v rows))
theorem QE.fr {D B:Nat→Prop}{H H':aa}{size:Nat}{v:Value}{rows:List (List Value)}(h:QE H size v rows)(hs:Py D H size v rows)(k:Fr B H H')(hd: ∀b,D b→¬ B b):QE H' size v rows:=by
 rcases h with h|⟨hne,h|⟨b,h⟩⟩
 ·exact .inl h
 ·refine .inr ⟨hne,.inl ?_⟩
  obtain⟨h0,blk,o,cs,ro,h1,h2,h3,h4,h5,h6⟩:=h
  exact⟨h0,blk,o,cs,ro,Nat.lt_of_lt_of_le h1 k.next,h2,h3,(k.get blk h1 (hd blk (hs.2 blk o _ _ h3 hne))).trans h4,h5,h6⟩
 ·exact .inr ⟨hne,.inr ⟨b,h.fr k fun b' e=>by
   injection e with e
   subst e
   exact hd b (hs.2 b 0 _ _ h.2.2.1 hne)⟩⟩
theorem QE.le {H H':aa}{size:Nat}{v:Value}{rows:List (List Value)}(h:QE H size v rows)(k:H.le H'):QE H' size v rows:=by
 rcases h with h|⟨hne,h|⟨b,h⟩⟩
 ·exact .inl h
 ·exact .inr ⟨hne,.inl (h.le k)⟩
 ·exact .inr ⟨hne,.inr ⟨b,h.fr (k.fr fun _=>False) fun _ _ h=>h⟩⟩
def gB (D:Nat→Prop)(H:aa)(v:Value)(l:List az):Prop:=
 ∃us:List Value,us.length=l.length∧eP D H 7 v (List.zipWith aC l us)∧(∀(i:Nat) (x:az) (u:Value),l[i]? =some x→us[i]? =some u→eP D H 4 u (x.ai.map aG))∧QE H 7 v (List.zipWith aC l us)
theorem gB.le {D:Nat→Prop}{H H':aa}{v:Value}{l:List az}(h:gB D H v l)(k:H.le H'):gB D H' v l:=by
 obtain⟨us,h1,h2,h3,h4⟩:=h
 exact⟨us,h1,h2.le k,fun i x u a b=>(h3 i x u a b).le k,h4.le k⟩
theorem gB.weak {D D':Nat→Prop}{H:aa}{v:Value}{l:List az}(h:gB D H v l)(hd: ∀b,D b→D' b):gB D' H v l:=by
 obtain⟨us,h1,h2,h3,h4⟩:=h
 exact⟨us,h1,h2.weak hd,fun i x u a b=>(h3 i x u a b).weak hd,h4⟩
theorem gB.fr {B D:Nat→Prop}{H H':aa}{v:Value}{l:List az}(h:gB D H v l)(k:Fr B H H')(hd: ∀b,D b→¬ B b):gB D H' v l:=by
 obtain⟨us,h1,h2,h3,h4⟩:=h
 exact⟨us,h1,h2.fr k hd,fun i x u a b=>(h3 i x u a b).fr k hd,h4.fr h2.1 k hd⟩
theorem gB.nil (D:Nat→Prop)(H:aa):gB D H (.slice none 0 0) []:=⟨[],rfl,eP.nil D H 7,by simp,.inl ⟨rfl,rfl⟩⟩
theorem eX {l:List az}{us:List Value}(h:us.length=l.length):(List.zipWith aC l us).length=l.length:=by rw[List.length_zipWith,h,Nat.min_self]
theorem gB.len {D:Nat→Prop}{H:aa}{v:Value}{l:List az}(h:gB D H v l): ∃a cap,v = .slice a l.length cap:=by
 obtain⟨us,h1,⟨⟨⟨a,cap,e,_⟩,_⟩,_⟩,_,_⟩:=h
 rw[eX h1]at e
 exact⟨a,cap,e⟩
theorem gB.at {D:Nat→Prop}{H:aa}{v:Value}{l:List az}(h:gB D H v l){i:Nat}{x:az}(hi:l[i]? =some x):
 ∃b o cap cs ro u,v = .slice (some ⟨b,o,none⟩) l.length cap∧b<H.next∧H.get b=some (.cells cs ro)∧(cs.drop (o+i*7)).take 7=aC x u∧o+i*7+7≤cs.length∧eP D H 4 u (x.ai.map aG)∧D b:=by
 obtain⟨us,h1,h2,h3,_⟩:=h
 have hl:=(List.getElem?_eq_some_iff.1 hi).1
 have hu:us[i]? =some us[i]:=List.getElem?_eq_getElem (by omega)
 have hz:(List.zipWith aC l us)[i]? =some (aC x us[i]):=by rw[List.getElem?_zipWith,hi,hu]
 obtain⟨b,o,cap,cs,ro,e,hb,hg,_,hr,hbd⟩:=h2.1.sl.at hz
 have e':=e
 rw[eX h1]at e
 exact⟨b,o,cap,cs,ro,us[i],e,hb,hg,hr,hbd,h3 i x _ hi hu,h2.1.2 b o _ _ e' (by intro h;rw[h]at hz;simp at hz)⟩
theorem Iu.far {H H':aa}{p q:Nat}{A:Acc}(h:Iu H p q A)(hq:H.next≤q)(q':Nat)(hn:p≠q'):Iu H p q' A:=by
 obtain⟨h1,h2,⟨u,g1,g2⟩,h4⟩:=h
 refine⟨h1,hn,⟨u,g1,?_⟩,h4⟩
 rcases g2 with g2|⟨cs,g2,_⟩
 ·exact .inl g2
 ·omega
structure Ni (B:Nat→Prop)(H:aa)(p:Nat)(A:Acc):Prop where
 lt: ∀b,B b→b<H.next
 own:B p
 rep: ∃q,Iu H p q A∧(B q∨H.next≤q)
theorem Ni.fr {B C:Nat→Prop}{H H':aa}{p:Nat}{A:Acc}(h:Ni B H p A)(k:Fr C H H')(hd: ∀b,B b→¬ C b):Ni B H' p A:=by
 obtain⟨h1,h2,q,h3,h4⟩:=h
 have hn:=k.next
 refine⟨fun b hb=>Nat.lt_of_lt_of_le (h1 b hb) k.next,h2,?_⟩
 have hp:=h1 p h2
 obtain⟨q',i',hq'⟩: ∃q',Iu H p q' A∧(B q'∨H'.next≤q'):=by
  rcases h4 with h4|h4
  ·exact⟨q,h3,.inl h4⟩
  ·exact⟨H'.next,h3.far (H':=H) h4 _ (by omega),.inr (Nat.le_refl _)⟩
 refine⟨q',?_,hq'⟩
 obtain⟨a1,a2,⟨u,g1,g2⟩,a4⟩:=i'
 refine⟨Nat.lt_of_lt_of_le a1 hn,a2,⟨u,(k.get p hp (hd p h2)).trans g1,?_⟩,a4⟩
 rcases g2 with g2|⟨cs,g2,g3,g4,g5⟩
 ·exact .inl g2
 ·have:B q':=hq'.resolve_right (by omega)
  exact .inr ⟨cs,by omega,g3,(k.get q' g2 (hd q' this)).trans g4,g5⟩
theorem Ni.le {B:Nat→Prop}{H H':aa}{p:Nat}{A:Acc}(h:Ni B H p A)(k:H.le H'):Ni B H' p A:=h.fr (k.fr fun _=>False) fun _ _ h=>h
theorem Ni.turn {B:Nat→Prop}{H H':aa}{p q q':Nat}{A A':Acc}(h:Ni B H p A)(hq:B q∨H.next≤q)(hu: ∀b,b<H.next→b≠p→b≠q→H'.get b=H.get b)(hn:H.next≤H'.next)
 (hi:Iu H' p q' A') (hq':q'=q∨H.next≤q'):Fr B H H'∧Ni (fun b=>B b∨(b=q'∧q'<H'.next)) H' p A':=by
 refine⟨⟨hn,fun b hb hnb=>hu b hb (fun e=>hnb (e▸h.own)) fun e=> ?_⟩,⟨fun b hb=> ?_,.inl h.own,⟨q',hi,?_⟩⟩⟩
 ·rcases hq with hq|hq
  ·exact hnb (e▸hq)
  ·omega
 ·rcases hb with hb|⟨rfl,hb⟩
  ·exact Nat.lt_of_lt_of_le (h.lt b hb) hn
  ·exact hb
 ·by_cases hl:q'<H'.next
  ·exact .inl (.inr ⟨rfl,hl⟩)
  ·exact .inr (by omega)
theorem Ni.sorted {B:Nat→Prop}{H:aa}{p:Nat}{A:Acc}(h:Ni B H p A):Sorted A.L:=h.rep.elim fun _ h=>h.1.sorted
structure Nj (B:Nat→Prop)(H:aa)(p:Nat)(l:Lr):Prop where
 lt: ∀b,B b→b<H.next
 own:B p
 rep: ∃r1 r2,B r1∧B r2∧IM H p r1 r2 l
theorem Nj.fr {B C:Nat→Prop}{H H':aa}{p:Nat}{l:Lr}(h:Nj B H p l)(k:Fr C H H')(hd: ∀b,B b→¬ C b):Nj B H' p l:=by
 obtain⟨h1,h2,r1,r2,h3,h4,h5⟩:=h
 refine⟨fun b hb=>Nat.lt_of_lt_of_le (h1 b hb) k.next,h2,r1,r2,h3,h4,?_⟩
 have g:=fun b hb=>k.get b (h1 b hb) (hd b hb)
 exact⟨Nat.lt_of_lt_of_le h5.lt k.next,h5.ok,(g p h2).trans h5.get,h5.told.same k.next (g r1 h3),h5.ai.same k.next (g r2 h4),h5.ne⟩
theorem Nj.le {B:Nat→Prop}{H H':aa}{p:Nat}{l:Lr}(h:Nj B H p l)(k:H.le H'):Nj B H' p l:=h.fr (k.fr fun _=>False) fun _ _ h=>h
theorem Nj.ok {B:Nat→Prop}{H:aa}{p:Nat}{l:Lr}(h:Nj B H p l):l.ok:=by obtain⟨_,_,_,_,h⟩:=h.rep;exact h.ok
def scanDown (f:Int→Bool)(fr:Int):Nat→Int
 |0=>fr
 |k+1=>if f (fr+k)then fr+k+1 else scanDown f fr k
theorem scanDown_le (f:Int→Bool)(fr:Int): ∀k,fr≤scanDown f fr k∧scanDown f fr k≤fr+k∧(∀s,fr≤s→s<fr+k→f s=true→s<scanDown f fr k)∧(scanDown f fr k=fr∨f (scanDown f fr k-1)=true)
 |0=>⟨Int.le_refl _,by simp[scanDown],fun s h1 h2=>by omega,.inl rfl⟩
 |k+1=>by
  obtain⟨h1,h2,h3,h4⟩:=scanDown_le f fr k
  simp only[scanDown]
  cases hf:f (fr+k)with
  |true=>exact⟨by simp;omega,by simp;omega,fun s a b _=>by simp;omega,.inr (by simp only[if_true];rw[show fr+(k:Int)+1-1=fr+k by omega];exact hf)⟩
  |false=>
   refine⟨h1,by simp only[Bool.false_eq_true,if_false];omega,fun s a b c=> ?_,h4⟩
   simp only[Bool.false_eq_true,if_false]
   by_cases hs:s=fr+k
   ·rw[hs,hf]at c;cases c
   ·exact h3 s a (by omega) c
def LF (P:bC):Int:=scanDown (fun s=>(P.best s).isSome) P.fr (P.next-P.fr).toNat
theorem TH {P:bC}(h:P.ok):LA P (LF P):=by
 obtain⟨_,_,_,h4,h5,h6,_,h8⟩:=h
 obtain⟨a1,a2,a3,a4⟩:=scanDown_le (fun s=>(P.best s).isSome) P.fr (P.next-P.fr).toNat
 refine⟨a1,fun s v hs=> ?_,a4.imp id fun h=> ?_⟩
 ·obtain⟨_,b1,b2,_⟩:=h8 s v hs
  exact a3 s b1 (by omega) (by rw[hs];rfl)
 ·exact Option.isSome_iff_exists.1 h
theorem TI {P:bC}(h:P.ok):P.fr≤LF P∧LF P≤P.next:=by
 obtain⟨_,_,_,h4,h5,h6,_,h8⟩:=h
 obtain⟨a1,a2,_⟩:=scanDown_le (fun s=>(P.best s).isSome) P.fr (P.next-P.fr).toNat
 exact⟨a1,by show scanDown _ _ _≤_;omega⟩
def scanUp (f:Int→Bool)(s:Int):Nat→Int
 |0=>s
 |k+1=>if f s then scanUp f (s+1) k else s
theorem GI (f:Int→Bool): ∀(k:Nat) (s:Int),s≤scanUp f s k∧scanUp f s k≤s+k∧(∀t,s≤t→t<scanUp f s k→f t=true)∧(scanUp f s k<s+k→f (scanUp f s k)=false)
 |0,s=>⟨Int.le_refl _,by simp[scanUp],fun t h1 h2=>by simp[scanUp]at h2;omega,fun h=>by simp[scanUp]at h⟩
 |k+1,s=>by
  obtain⟨h1,h2,h3,h4⟩:=GI f k (s+1)
  simp only[scanUp]
  cases hf:f s with
  |true=>
   simp only[if_true]
   refine⟨by omega,by omega,fun t a b=> ?_,fun h=>h4 (by omega)⟩
   by_cases hs:t=s
   ·rw[hs];exact hf
   ·exact h3 t (by omega) b
  |false=>simp only[Bool.false_eq_true,if_false];exact⟨Int.le_refl _,by omega,fun t a b=>by omega,fun _=>hf⟩
def gD (l:Lr):Int:=scanUp (fun s=>(l.told s).isSome) l.base (1024-l.base).toNat
theorem E5 {l:Lr}(h:l.ok):zH l (gD l):=by
 obtain⟨_,_,h3,h4,h5⟩:=h
 obtain⟨a1,a2,a3,a4⟩:=GI (fun s=>(l.told s).isSome) (1024-l.base).toNat l.base
 refine⟨a1,by show scanUp _ _ _≤1024;omega,?_,fun t b1 b2=> ?_⟩
 ·cases ht:l.told (gD l)with
  |none=>rfl
  |some x=>
   have:=h5 (gD l) (by rw[ht];simp)
   have hlt:gD l<l.base+(1024-l.base).toNat:=by omega
   have:=a4 hlt
   rw[show scanUp (fun s=>(l.told s).isSome) l.base (1024-l.base).toNat=gD l from rfl,ht]at this
   cases this
 ·have:=a3 t b1 b2
  intro hn
  rw[hn]at this
  cases this
def DF (l:Lr)(u:Int):List ByteArray:=(List.range (gD l-(if u<l.base then l.base else u)).toNat).map fun(i:Nat)=>(l.told ((if u<l.base then l.base else u)+i)).getD Pz
section
theorem qZ.QD {H:aa}{n size:Nat}{v:Value}{rows:List (List Value)}(h:qZ H size v rows)(f:uj n v):eP (fun b=>n≤b∧b<H.next) H size v rows:=by
 refine⟨⟨h.1,fun b o m c e hr=>⟨f b o m c e,?_⟩⟩,h⟩
 obtain⟨a,cap,e2,h2⟩:=h.1
 obtain⟨b',o',cs,ro,rfl,hb,_⟩:=h2 hr
 rw[e]at e2
 simp only[Value.slice.injEq,Option.some.injEq,Addr.mk.injEq]at e2
 obtain⟨⟨rfl,-⟩,-⟩:=e2
 exact hb
def DI (l:Lr)(u:Int):Int:=if (if gD l<u then gD l else u)<l.base then l.base else (if gD l<u then gD l else u)
section
variable (c:Ctx) {H:aa} {K:Value→aa→Prop} {B:Nat→Prop} {p:Nat}
theorem qbs (hc:pW c)(hK: ∀p B H',H.le H'→(∀b,B b→H.next≤b)→Ni B H' p ⟨0,0,0,[]⟩→K (.pointer (some ⟨p,0,none⟩)) H'):c.C (c.F zy) [] H K:=by
 refine Zf c hc fun H' k i=>hK _ (fun b=>H.next≤b∧b<H'.next) H' k (fun b hb=>hb.1) ⟨fun b hb=>hb.2,⟨Nat.le_refl _,i.lt⟩,H.next+1,i,?_⟩
 by_cases hb:H.next+1<H'.next
 ·exact .inl ⟨by omega,hb⟩
 ·exact .inr (by omega)
theorem Sy (hc:pW c){A:Acc}(h:Ni B H p A)(hK: ∀H',H.le H'→K (vB A.pa A.pn) H'):c.C (c.F jS) [.pointer (some ⟨p,0,none⟩)] H K:=
 h.rep.elim fun _ h=>OB c hc h.1 hK
theorem WA (hc:pW c){A:Acc}(h:Ni B H p A)(hK:K (.int .i64 A.base) H):c.C (c.F mF) [.pointer (some ⟨p,0,none⟩)] H K:=
 h.rep.elim fun _ h=>Wv c hc h.1 hK
theorem Nk (hc:pW c)(hB:iG c){A:Acc}{a n s:Int}(h:Ni B H p A)(hl:A.L.length≤1000000)
 (hK: ∀v' H',Fr B H H'→Ni B H' p (A.promise a n s).1→eP (fun b=>H.next≤b∧b<H'.next) H' 4 v' ((A.promise a n s).2.1.map aG)→K (.tuple #[v',.bool (A.promise a n s).2.2]) H'):
 c.C (c.F kN) [.pointer (some ⟨p,0,none⟩),vB a n,.int .i64 s] H K:=by
 obtain⟨q,i,hq⟩:=h.rep
 refine QA c hc hB i hl fun v' H' u f s' f'=>hK v' H' (u.fr (by simpa using h.own)) ⟨fun b hb=>Nat.lt_of_lt_of_le (h.lt b hb) u.next,h.own,?_⟩ (s'.QD f')
 rcases hq with hq|hq
 ·exact⟨q,f q i,.inl hq⟩
 ·exact⟨H'.next,f _ (i.far (H':=H) hq _ (by have:=i.lt;have:=u.next;omega)),.inr (Nat.le_refl _)⟩
theorem WB (hc:pW c)(hB:iG c)(hI:TD c){A:Acc}{v:ay}(h:Ni B H p A)(hl:A.L.length≤1000000)
 (hK: ∀H' B',Fr B H H'→(∀b,B' b→B b∨H.next≤b)→Ni B' H' p (A.accept v).1→K (.bool (A.accept v).2) H'):
 c.C (c.F lF) [.pointer (some ⟨p,0,none⟩),vV v] H K:=by
 obtain⟨q,i,hq⟩:=h.rep
 refine Su c hc hB hI i hl fun q' H' u e i'=> ?_
 obtain⟨f1,f2⟩:=h.turn hq (fun b hb h1 h2=>u.get b hb (by simp[h1,h2])) u.next i' e
 refine hK H' _ f1 (fun b hb=> ?_) f2
 rcases hb with hb|⟨rfl,hb⟩
 ·exact .inl hb
 ·rcases e with rfl|e
  ·exact hq
  ·exact .inr e
variable (hl:sF c) (hT:LB c)
include hl
theorem WC (hB:bN c){n:Int}(h0:aO n=0→K (.pointer none) H)(h1:aO n≠0→∀p B H',H.le H'→(∀b,B b→H.next≤b)→Nj B H' p ⟨n,0,fun _=>none,fun _=>none⟩→K (.pointer (some ⟨p,0,none⟩)) H'):
 c.C (c.F De) [.int .i64 n] H K:=by
 refine Zi c hl hB h0 fun hq p r1 r2 H' a1 a2 a3 k i=>h1 hq p (fun b=>b=p∨b=r1∨b=r2) H' k (fun b hb=>by omega) ⟨fun b hb=> ?_,.inl rfl,r1,r2,.inr (.inl rfl),.inr (.inr rfl),i⟩
 rcases hb with rfl|rfl|rfl
 ·exact i.lt
 ·exact i.told.lt
 ·exact i.ai.lt
theorem qay {l:Lr}(h:Nj B H p l)(hK:K (.int .i64 l.base) H):c.C (c.F oh) [.pointer (some ⟨p,0,none⟩)] H K:=by
 obtain⟨_,_,_,_,i⟩:=h.rep
 exact Wx c hl i hK
include hT
theorem WE {l:Lr}(h:Nj B H p l)(hK:K (.int .i64 (gD l)) H):c.C (c.F om) [.pointer (some ⟨p,0,none⟩)] H K:=by
 obtain⟨_,_,_,_,i⟩:=h.rep
 exact LC c hl hT i fun s hs=>by rw[hs.uniq (E5 i.ok)];exact hK
theorem WG {l:Lr}{s:Int}{v:ByteArray}(h:Nj B H p l)(hK: ∀H',Fr B H H'→Nj B H' p (if mQ l s v=true then l.tell s v else l)→K (.bool (mQ l s v)) H'):
 c.C (c.F nZ) [.pointer (some ⟨p,0,none⟩),.int .i64 s,.string v] H K:=by
 obtain⟨r1,r2,b1,b2,i⟩:=h.rep
 refine TE c hl hT i fun H' u i'=>hK H' (u.fr ?_) ⟨fun b hb=>Nat.lt_of_lt_of_le (h.lt b hb) u.next,h.own,r1,r2,b1,b2,i'⟩
 intro b hb
 simp only[List.mem_cons,List.not_mem_nil,or_false]at hb
 rcases hb with rfl|rfl|rfl
 ·exact h.own
 ·exact b1
 ·exact b2
theorem qaz {l:Lr}{s:Int}(h:Nj B H p l)(hK: ∀H',Fr B H H'→Nj B H' p (l.trim (DI l s))→K (.int .i64 (DI l s-l.base)) H'):
 c.C (c.F og) [.pointer (some ⟨p,0,none⟩),.int .i64 s] H K:=by
 obtain⟨r1,r2,b1,b2,i⟩:=h.rep
 refine Zg c hl hT i fun H' b u q1 q2 q3 i'=> ?_
 have e:b=DI l s:=q3 _ (E5 i.ok)
 subst e
 refine hK H' (u.fr ?_) ⟨fun b hb=>Nat.lt_of_lt_of_le (h.lt b hb) u.next,h.own,r1,r2,b1,b2,i'⟩
 intro b hb
 simp only[List.mem_cons,List.not_mem_nil,or_false]at hb
 rcases hb with rfl|rfl|rfl
 ·exact h.own
 ·exact b1
 ·exact b2
theorem qaA (hN:OC c)(hA:iG c)(hB:bN c){l:Lr}{fr:Int}{v:ay}(h:Nj B H p l)(hK: ∀H',Fr B H H'→Nj B H' p (l.hear fr v).1→K (.bool (l.hear fr v).2) H'):
 c.C (c.F nY) [.pointer (some ⟨p,0,none⟩),.int .i64 fr,vV v] H K:=by
 obtain⟨r1,r2,b1,b2,i⟩:=h.rep
 refine Zh c hl hT hN hA hB i fun H' u i'=>hK H' (u.fr ?_) ⟨fun b hb=>Nat.lt_of_lt_of_le (h.lt b hb) u.next,h.own,r1,r2,b1,b2,i'⟩
 intro b hb
 simp only[List.mem_cons,List.not_mem_nil,or_false]at hb
 rcases hb with rfl|rfl|rfl
 ·exact h.own
 ·exact b1
 ·exact b2
theorem Z5 {l:Lr}{u:Int}(h:Nj B H p l)(hK: ∀v H',H.le H'→Grow H' H.next 1 v ((DF l u).map fun x=>[.string x])→K v H'):
 c.C (c.F pz) [.pointer (some ⟨p,0,none⟩),.int .i64 u] H K:=by
 obtain⟨_,_,_,_,i⟩:=h.rep
 refine qax c hl hT i fun nx v vals H' hn k g e1 e2=> ?_
 have hnx:=hn.uniq (E5 i.ok)
 subst hnx
 have:vals=DF l u:=by
  refine List.ext_getElem? fun j=> ?_
  unfold DF
  rw[List.getElem?_map]
  by_cases hj:j<vals.length
  ·rw[List.getElem?_eq_getElem hj,List.getElem?_range (by omega),Option.map_some,e2 j hj]
   rfl
  ·rw[List.getElem?_eq_none (by omega),List.getElem?_eq_none (by simp;omega)]
   rfl
 subst this
 exact hK v H' k g
end
end
end Go.Proofs.YtpbbjfighohokaaGreatI
