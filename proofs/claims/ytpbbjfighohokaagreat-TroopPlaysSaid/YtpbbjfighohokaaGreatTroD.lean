/- PRINTED by gen.py (this session's own): the intermediate form of some functions, and a context's having them. / Notes under way: an own slice; one is taken out. / Notes under way: more of them; the place of one. / Notes under way: what is done with them. / Nodes, and notes under way: how they stand. -/
import Derived.Test.YtpbbjfighohokaaGreatIdealZ
import Derived.Test.YtpbbjfighohokaaGreatRpO
namespace Go.Proofs.YtpbbjfighohokaaGreatI
open Go
set_option linter.unusedSimpArgs false
set_option linter.unusedVariables false
abbrev QO:Nat:=311
abbrev aD:Nat:=312
abbrev DN:Nat:=313
abbrev yC:Nat:=314
abbrev Fb:Nat:=315
abbrev yD:Nat:=316
abbrev DU:Nat:=317
abbrev zQ:Nat:=318
abbrev A8:Nat:=319
abbrev Fe:Nat:=320
abbrev yE:Nat:=321
abbrev A9:Nat:=322
abbrev DV:Nat:=323
abbrev yl:Nat:=324
abbrev LU:Nat:=325
abbrev IQ:Nat:=326
abbrev nM:Nat:=327
def zR (F:Nat→FuncId)(Ty:Nat→TypeId):aA:=⟨33,[.tmp 2],.seq (.ops [⟨some 2,.move (.const (.pointer none)),none⟩]) (.seq (.seq (.ops [⟨some 5,.move (.tmp 0),none⟩,⟨some 6,.call (F 288) [.tmp 5,.const (.int .i64 0)],none⟩,⟨some 7,.fC 0 false (.tmp 6),none⟩]) (.cond (.tmp 7) (.seq (.ops [⟨some 2,.move (.const (.pointer none)),none⟩]) (.ret)) (.skip))) (.seq (.ops [⟨some 8,.build [.slice none 0 0,.slice none 0 0,.nilFunc] [],none⟩,⟨some 9,.box (.tmp 8),none⟩,⟨some 3,.alloc [.pointer none],none⟩,⟨none,.store 1 (.tmp 3) (.tmp 9),none⟩]) (.seq (.seq (.ops [⟨some 10,.move (.tmp 0),none⟩,⟨some 11,.move (.const (.int .i64 0)),none⟩]) (.block 0 (.loop (.seq (.ops [⟨some 12,.bin .lss (.tmp 11) (.tmp 10),none⟩]) (.seq (.cond (.tmp 12) (.skip) (.exit 0)) (.seq (.block 1 (.seq (.ops [⟨some 13,.move (.tmp 11),none⟩,⟨some 4,.move (.tmp 13),none⟩]) (.draw [(⟨some 14,.ah (.tmp 3),none⟩,[]),(⟨some 15,.ah (.tmp 3),none⟩,[]),(⟨some 16,.nilCheck (.tmp 15),none⟩,[]),(⟨some 17,.fieldAddr 0 (.tmp 16),none⟩,[]),(⟨some 18,.ah (.tmp 17),none⟩,[]),(⟨some 19,.move (.tmp 0),none⟩,[]),(⟨some 20,.move (.tmp 4),none⟩,[]),(⟨some 21,.call (F 288) [.tmp 19,.tmp 20],none⟩,[⟨some 14,.ah (.tmp 3),none⟩,⟨some 15,.ah (.tmp 3),none⟩,⟨some 18,.ah (.tmp 17),none⟩]),(⟨some 22,.buildSlice 1 [.pointer none] [((0,1),.tmp 21)],none⟩,[]),(⟨some 23,.append 1 8 (.tmp 18) (.tmp 22),none⟩,[⟨some 14,.ah (.tmp 3),none⟩]),(⟨some 24,.nilCheck (.tmp 14),none⟩,[]),(⟨some 25,.fieldAddr 0 (.tmp 24),none⟩,[]),(⟨none,.store 1 (.tmp 25) (.tmp 23),none⟩,[])]))) (.ops [⟨some 26,.bin .add (.tmp 11) (.const (.int .i64 1)),none⟩,⟨some 11,.move (.tmp 26),none⟩]))))))) (.seq (.ops [⟨some 27,.ah (.tmp 3),none⟩,⟨some 28,.Kz (F 312) [] [.tmp 3],none⟩,⟨some 29,.nilCheck (.tmp 27),none⟩,⟨some 30,.fieldAddr 1 (.tmp 29),none⟩,⟨some 31,.fieldAddr 1 (.tmp 30),none⟩,⟨none,.store 1 (.tmp 31) (.tmp 28),none⟩]) (.seq (.ops [⟨some 32,.ah (.tmp 3),none⟩,⟨some 2,.move (.tmp 32),none⟩]) (.ret))))))⟩
def sJ (F:Nat→FuncId)(Ty:Nat→TypeId):aA:=⟨17,[],.seq (.ops [⟨some 2,.box (.tmp 0),none⟩]) (.draw [(⟨some 3,.ah (.tmp 1),none⟩,[]),(⟨some 4,.nilCheck (.tmp 3),none⟩,[]),(⟨some 5,.fieldAddr 1 (.tmp 4),none⟩,[]),(⟨some 6,.ah (.tmp 1),none⟩,[]),(⟨some 7,.nilCheck (.tmp 6),none⟩,[]),(⟨some 8,.fieldAddr 0 (.tmp 7),none⟩,[]),(⟨some 9,.ah (.tmp 8),none⟩,[]),(⟨some 10,.fieldAddr 2 (.tmp 2),none⟩,[]),(⟨some 11,.ah (.tmp 10),none⟩,[]),(⟨some 12,.bg 1 (.tmp 9) (.tmp 11),none⟩,[]),(⟨some 13,.ah (.tmp 12),none⟩,[]),(⟨some 14,.ak 7 (.tmp 2),none⟩,[]),(⟨some 15,.call (F 289) [.tmp 13,.tmp 14],none⟩,[⟨some 3,.ah (.tmp 1),none⟩]),(⟨some 16,.call (F 324) [.tmp 5,.tmp 15],none⟩,[])])⟩
def mR (F:Nat→FuncId)(Ty:Nat→TypeId):aA:=⟨21,[.tmp 4],.seq (.ops [⟨some 4,.move (.const (.bool false)),none⟩]) (.seq (.seq (.ops [⟨some 5,.move (.tmp 0),none⟩,⟨some 6,.move (.tmp 1),none⟩,⟨some 7,.call (F 323) [.tmp 5,.tmp 6],none⟩,⟨some 8,.un .not (.tmp 7),none⟩]) (.cond (.tmp 8) (.seq (.ops [⟨some 4,.move (.const (.bool false)),none⟩]) (.ret)) (.skip))) (.seq (.draw [(⟨some 9,.move (.tmp 0),none⟩,[]),(⟨some 10,.nilCheck (.tmp 9),none⟩,[]),(⟨some 11,.fieldAddr 1 (.tmp 10),none⟩,[]),(⟨some 12,.move (.tmp 0),none⟩,[]),(⟨some 13,.nilCheck (.tmp 12),none⟩,[]),(⟨some 14,.fieldAddr 0 (.tmp 13),none⟩,[]),(⟨some 15,.ah (.tmp 14),none⟩,[]),(⟨some 16,.move (.tmp 1),none⟩,[]),(⟨some 17,.bg 1 (.tmp 15) (.tmp 16),none⟩,[]),(⟨some 18,.ah (.tmp 17),none⟩,[]),(⟨some 19,.call (F 291) [.tmp 18],none⟩,[]),(⟨some 20,.call (F 324) [.tmp 11,.tmp 19],none⟩,[])]) (.seq (.ops [⟨some 4,.move (.const (.bool true)),none⟩]) (.ret))))⟩
def j4 (F:Nat→FuncId)(Ty:Nat→TypeId):aA:=⟨33,[.tmp 6],.seq (.ops [⟨some 6,.move (.const (.int .i64 0)),none⟩]) (.seq (.seq (.ops [⟨some 9,.move (.tmp 0),none⟩,⟨some 10,.move (.tmp 1),none⟩,⟨some 11,.call (F 323) [.tmp 9,.tmp 10],none⟩,⟨some 12,.un .not (.tmp 11),none⟩]) (.cond (.tmp 12) (.seq (.ops [⟨some 6,.move (.const (.int .i64 1)),none⟩]) (.ret)) (.skip))) (.seq (.ops [⟨some 14,.move (.tmp 0),none⟩,⟨some 15,.nilCheck (.tmp 14),none⟩,⟨some 16,.fieldAddr 0 (.tmp 15),none⟩,⟨some 17,.ah (.tmp 16),none⟩,⟨some 18,.move (.tmp 1),none⟩,⟨some 19,.bg 1 (.tmp 17) (.tmp 18),none⟩,⟨some 20,.ah (.tmp 19),none⟩,⟨some 21,.move (.tmp 2),none⟩,⟨some 22,.call (F 292) [.tmp 20,.tmp 21],none⟩,⟨some 13,.move (.tmp 22),none⟩,⟨some 23,.extract (.tmp 13) 0,none⟩,⟨some 24,.extract (.tmp 13) 1,none⟩,⟨some 7,.move (.tmp 23),none⟩,⟨some 8,.move (.tmp 24),none⟩]) (.seq (.seq (.ops [⟨some 25,.move (.tmp 8),none⟩,⟨some 26,.bin .eql (.tmp 25) (.const (.int .i64 0)),none⟩]) (.cond (.tmp 26) (.ops [⟨some 27,.move (.tmp 0),none⟩,⟨some 28,.nilCheck (.tmp 27),none⟩,⟨some 29,.fieldAddr 1 (.tmp 28),none⟩,⟨some 30,.move (.tmp 7),none⟩,⟨some 31,.call (F 324) [.tmp 29,.tmp 30],none⟩]) (.skip))) (.seq (.ops [⟨some 32,.move (.tmp 8),none⟩,⟨some 6,.move (.tmp 32),none⟩]) (.ret)))))⟩
def oq (F:Nat→FuncId)(Ty:Nat→TypeId):aA:=⟨30,[.tmp 6],.seq (.ops [⟨some 6,.move (.const (.bool false)),none⟩]) (.seq (.seq (.ops [⟨some 7,.move (.tmp 0),none⟩,⟨some 8,.move (.tmp 1),none⟩,⟨some 9,.call (F 323) [.tmp 7,.tmp 8],none⟩,⟨some 10,.un .not (.tmp 9),none⟩,⟨some 11,.move (.tmp 10),none⟩,⟨some 12,.move (.tmp 0),some (11,false)⟩,⟨some 13,.move (.tmp 2),some (11,false)⟩,⟨some 14,.call (F 323) [.tmp 12,.tmp 13],some (11,false)⟩,⟨some 15,.un .not (.tmp 14),some (11,false)⟩,⟨some 16,.pick (.tmp 11) (.const (.bool true)) (.tmp 15),none⟩]) (.cond (.tmp 16) (.seq (.ops [⟨some 6,.move (.const (.bool false)),none⟩]) (.ret)) (.skip))) (.seq (.draw [(⟨some 17,.move (.tmp 0),none⟩,[]),(⟨some 18,.nilCheck (.tmp 17),none⟩,[]),(⟨some 19,.fieldAddr 1 (.tmp 18),none⟩,[]),(⟨some 20,.move (.tmp 0),none⟩,[]),(⟨some 21,.nilCheck (.tmp 20),none⟩,[]),(⟨some 22,.fieldAddr 0 (.tmp 21),none⟩,[]),(⟨some 23,.ah (.tmp 22),none⟩,[]),(⟨some 24,.move (.tmp 1),none⟩,[]),(⟨some 25,.bg 1 (.tmp 23) (.tmp 24),none⟩,[]),(⟨some 26,.ah (.tmp 25),none⟩,[]),(⟨some 27,.move (.tmp 2),none⟩,[]),(⟨some 28,.call (F 293) [.tmp 26,.tmp 27],none⟩,[]),(⟨some 29,.call (F 324) [.tmp 19,.tmp 28],none⟩,[])]) (.seq (.ops [⟨some 6,.move (.const (.bool true)),none⟩]) (.ret))))⟩
def j6 (F:Nat→FuncId)(Ty:Nat→TypeId):aA:=⟨26,[.tmp 4],.seq (.ops [⟨some 4,.move (.const (.bool false)),none⟩]) (.seq (.seq (.ops [⟨some 7,.move (.tmp 0),none⟩,⟨some 8,.fC 0 false (.tmp 7),none⟩]) (.cond (.tmp 8) (.seq (.ops [⟨some 4,.move (.const (.bool false)),none⟩]) (.ret)) (.skip))) (.seq (.ops [⟨some 10,.move (.tmp 0),none⟩,⟨some 11,.nilCheck (.tmp 10),none⟩,⟨some 12,.fieldAddr 1 (.tmp 11),none⟩,⟨some 13,.move (.tmp 1),none⟩,⟨some 14,.call (F 326) [.tmp 12,.tmp 13],none⟩,⟨some 9,.move (.tmp 14),none⟩,⟨some 15,.extract (.tmp 9) 0,none⟩,⟨some 16,.extract (.tmp 9) 1,none⟩,⟨some 5,.alloc [.int .i64 0,.int .i64 0,.int .i64 0,.int .i64 0,.int .i64 0,.int .i64 0,.slice none 0 0],none⟩,⟨none,.store 7 (.tmp 5) (.tmp 15),none⟩,⟨some 6,.move (.tmp 16),none⟩]) (.seq (.seq (.ops [⟨some 17,.move (.tmp 6),none⟩]) (.cond (.tmp 17) (.draw [(⟨some 18,.move (.tmp 0),none⟩,[]),(⟨some 19,.nilCheck (.tmp 18),none⟩,[]),(⟨some 20,.fieldAddr 1 (.tmp 19),none⟩,[]),(⟨some 21,.fieldAddr 1 (.tmp 20),none⟩,[]),(⟨some 22,.ah (.tmp 21),none⟩,[]),(⟨some 23,.ak 7 (.tmp 5),none⟩,[]),(⟨some 24,.nO (.tmp 22) [.tmp 23],none⟩,[])]) (.skip))) (.seq (.ops [⟨some 25,.move (.tmp 6),none⟩,⟨some 4,.move (.tmp 25),none⟩]) (.ret)))))⟩
def mU (F:Nat→FuncId)(Ty:Nat→TypeId):aA:=⟨18,[.tmp 4],.seq (.ops [⟨some 4,.move (.const (.bool false)),none⟩]) (.seq (.seq (.ops [⟨some 7,.move (.tmp 0),none⟩,⟨some 8,.fC 0 false (.tmp 7),none⟩]) (.cond (.tmp 8) (.seq (.ops [⟨some 4,.move (.const (.bool false)),none⟩]) (.ret)) (.skip))) (.seq (.ops [⟨some 10,.move (.tmp 0),none⟩,⟨some 11,.nilCheck (.tmp 10),none⟩,⟨some 12,.fieldAddr 1 (.tmp 11),none⟩,⟨some 13,.move (.tmp 1),none⟩,⟨some 14,.call (F 326) [.tmp 12,.tmp 13],none⟩,⟨some 9,.move (.tmp 14),none⟩,⟨some 15,.extract (.tmp 9) 0,none⟩,⟨some 16,.extract (.tmp 9) 1,none⟩,⟨some 5,.alloc [.int .i64 0,.int .i64 0,.int .i64 0,.int .i64 0,.int .i64 0,.int .i64 0,.slice none 0 0],none⟩,⟨none,.store 7 (.tmp 5) (.tmp 15),none⟩,⟨some 6,.move (.tmp 16),none⟩]) (.seq (.ops [⟨some 17,.move (.tmp 6),none⟩,⟨some 4,.move (.tmp 17),none⟩]) (.ret))))⟩
def iK (F:Nat→FuncId)(Ty:Nat→TypeId):aA:=⟨41,[.tmp 4],.seq (.ops [⟨some 4,.move (.const (.bool false)),none⟩]) (.seq (.seq (.ops [⟨some 7,.move (.tmp 0),none⟩,⟨some 8,.fC 0 false (.tmp 7),none⟩,⟨some 9,.move (.tmp 8),none⟩,⟨some 10,.move (.tmp 0),some (9,false)⟩,⟨some 11,.nilCheck (.tmp 10),some (9,false)⟩,⟨some 12,.fieldAddr 1 (.tmp 11),some (9,false)⟩,⟨some 13,.fieldAddr 0 (.tmp 12),some (9,false)⟩,⟨some 14,.ah (.tmp 13),some (9,false)⟩,⟨some 15,.bR (.tmp 14),some (9,false)⟩,⟨some 16,.bin .geq (.tmp 15) (.const (.int .i64 1024)),some (9,false)⟩,⟨some 17,.pick (.tmp 9) (.const (.bool true)) (.tmp 16),none⟩]) (.cond (.tmp 17) (.seq (.ops [⟨some 4,.move (.const (.bool false)),none⟩]) (.ret)) (.skip))) (.seq (.ops [⟨some 19,.move (.tmp 0),none⟩,⟨some 20,.nilCheck (.tmp 19),none⟩,⟨some 21,.fieldAddr 1 (.tmp 20),none⟩,⟨some 22,.move (.tmp 1),none⟩,⟨some 23,.call (F 325) [.tmp 21,.tmp 22],none⟩,⟨some 18,.move (.tmp 23),none⟩,⟨some 24,.extract (.tmp 18) 0,none⟩,⟨some 25,.extract (.tmp 18) 1,none⟩,⟨some 5,.move (.tmp 24),none⟩,⟨some 6,.move (.tmp 25),none⟩]) (.seq (.seq (.ops [⟨some 26,.move (.tmp 6),none⟩]) (.cond (.tmp 26) (.draw [(⟨some 27,.move (.tmp 0),none⟩,[]),(⟨some 28,.nilCheck (.tmp 27),none⟩,[]),(⟨some 29,.fieldAddr 1 (.tmp 28),none⟩,[]),(⟨some 30,.move (.tmp 0),none⟩,[]),(⟨some 31,.nilCheck (.tmp 30),none⟩,[]),(⟨some 32,.fieldAddr 1 (.tmp 31),none⟩,[]),(⟨some 33,.fieldAddr 0 (.tmp 32),none⟩,[]),(⟨some 34,.ah (.tmp 33),none⟩,[]),(⟨some 35,.move (.tmp 5),none⟩,[]),(⟨some 36,.move (.tmp 5),none⟩,[]),(⟨some 37,.bin .add (.tmp 36) (.const (.int .i64 1)),none⟩,[]),(⟨some 38,.dn 7 (.tmp 34) (some (.tmp 35)) (some (.tmp 37)) none,none⟩,[]),(⟨some 39,.call (F 324) [.tmp 29,.tmp 38],none⟩,[])]) (.skip))) (.seq (.ops [⟨some 40,.move (.tmp 6),none⟩,⟨some 4,.move (.tmp 40),none⟩]) (.ret)))))⟩
def l6 (F:Nat→FuncId)(Ty:Nat→TypeId):aA:=⟨17,[.tmp 4],.seq (.ops [⟨some 4,.move (.const (.bool false)),none⟩]) (.seq (.seq (.ops [⟨some 5,.move (.tmp 0),none⟩,⟨some 6,.move (.tmp 1),none⟩,⟨some 7,.call (F 323) [.tmp 5,.tmp 6],none⟩,⟨some 8,.un .not (.tmp 7),none⟩]) (.cond (.tmp 8) (.seq (.ops [⟨some 4,.move (.const (.bool false)),none⟩]) (.ret)) (.skip))) (.seq (.ops [⟨some 9,.move (.tmp 0),none⟩,⟨some 10,.nilCheck (.tmp 9),none⟩,⟨some 11,.fieldAddr 0 (.tmp 10),none⟩,⟨some 12,.ah (.tmp 11),none⟩,⟨some 13,.move (.tmp 1),none⟩,⟨some 14,.bg 1 (.tmp 12) (.tmp 13),none⟩,⟨some 15,.ah (.tmp 14),none⟩,⟨some 16,.call (F 290) [.tmp 15],none⟩]) (.seq (.ops [⟨some 4,.move (.const (.bool true)),none⟩]) (.ret))))⟩
def ow (F:Nat→FuncId)(Ty:Nat→TypeId):aA:=⟨17,[.tmp 4],.seq (.ops [⟨some 4,.move (.const (.slice none 0 0)),none⟩]) (.seq (.seq (.ops [⟨some 5,.move (.tmp 0),none⟩,⟨some 6,.move (.tmp 1),none⟩,⟨some 7,.call (F 323) [.tmp 5,.tmp 6],none⟩,⟨some 8,.un .not (.tmp 7),none⟩]) (.cond (.tmp 8) (.seq (.ops [⟨some 4,.move (.const (.slice none 0 0)),none⟩]) (.ret)) (.skip))) (.seq (.ops [⟨some 9,.move (.tmp 0),none⟩,⟨some 10,.nilCheck (.tmp 9),none⟩,⟨some 11,.fieldAddr 0 (.tmp 10),none⟩,⟨some 12,.ah (.tmp 11),none⟩,⟨some 13,.move (.tmp 1),none⟩,⟨some 14,.bg 1 (.tmp 12) (.tmp 13),none⟩,⟨some 15,.ah (.tmp 14),none⟩,⟨some 16,.call (F 295) [.tmp 15],none⟩,⟨some 4,.move (.tmp 16),none⟩]) (.ret)))⟩
def kg (F:Nat→FuncId)(Ty:Nat→TypeId):aA:=⟨11,[.tmp 2],.seq (.ops [⟨some 2,.move (.const (.int .i64 0)),none⟩]) (.seq (.seq (.ops [⟨some 3,.move (.tmp 0),none⟩,⟨some 4,.fC 0 false (.tmp 3),none⟩]) (.cond (.tmp 4) (.seq (.ops [⟨some 2,.move (.const (.int .i64 0)),none⟩]) (.ret)) (.skip))) (.seq (.ops [⟨some 5,.move (.tmp 0),none⟩,⟨some 6,.nilCheck (.tmp 5),none⟩,⟨some 7,.fieldAddr 1 (.tmp 6),none⟩,⟨some 8,.fieldAddr 0 (.tmp 7),none⟩,⟨some 9,.ah (.tmp 8),none⟩,⟨some 10,.bR (.tmp 9),none⟩,⟨some 2,.move (.tmp 10),none⟩]) (.ret)))⟩
def l7 (F:Nat→FuncId)(Ty:Nat→TypeId):aA:=⟨18,[.tmp 4],.seq (.ops [⟨some 4,.move (.const (.bool false)),none⟩]) (.seq (.ops [⟨some 5,.move (.tmp 0),none⟩,⟨some 6,.move (.tmp 1),none⟩,⟨some 7,.call (F 323) [.tmp 5,.tmp 6],none⟩,⟨some 8,.move (.tmp 7),none⟩,⟨some 9,.move (.tmp 0),some (8,true)⟩,⟨some 10,.nilCheck (.tmp 9),some (8,true)⟩,⟨some 11,.fieldAddr 0 (.tmp 10),some (8,true)⟩,⟨some 12,.ah (.tmp 11),some (8,true)⟩,⟨some 13,.move (.tmp 1),some (8,true)⟩,⟨some 14,.bg 1 (.tmp 12) (.tmp 13),some (8,true)⟩,⟨some 15,.ah (.tmp 14),some (8,true)⟩,⟨some 16,.call (F 297) [.tmp 15],some (8,true)⟩,⟨some 17,.pick (.tmp 8) (.tmp 16) (.const (.bool false)),none⟩,⟨some 4,.move (.tmp 17),none⟩]) (.ret))⟩
def gN (F:Nat→FuncId)(Ty:Nat→TypeId):aA:=⟨20,[.tmp 4],.seq (.ops [⟨some 4,.move (.const (.bool false)),none⟩]) (.seq (.ops [⟨some 5,.move (.tmp 0),none⟩,⟨some 6,.fC 0 true (.tmp 5),none⟩,⟨some 7,.move (.tmp 6),none⟩,⟨some 8,.move (.tmp 1),some (7,true)⟩,⟨some 9,.bin .geq (.tmp 8) (.const (.int .i64 0)),some (7,true)⟩,⟨some 10,.pick (.tmp 7) (.tmp 9) (.const (.bool false)),none⟩,⟨some 11,.move (.tmp 10),none⟩,⟨some 12,.move (.tmp 1),some (11,true)⟩,⟨some 13,.move (.tmp 0),some (11,true)⟩,⟨some 14,.nilCheck (.tmp 13),some (11,true)⟩,⟨some 15,.fieldAddr 0 (.tmp 14),some (11,true)⟩,⟨some 16,.ah (.tmp 15),some (11,true)⟩,⟨some 17,.bR (.tmp 16),some (11,true)⟩,⟨some 18,.bin .lss (.tmp 12) (.tmp 17),some (11,true)⟩,⟨some 19,.pick (.tmp 11) (.tmp 18) (.const (.bool false)),none⟩,⟨some 4,.move (.tmp 19),none⟩]) (.ret))⟩
def qO (F:Nat→FuncId)(Ty:Nat→TypeId):aA:=⟨23,[],.draw [(⟨some 4,.move (.tmp 0),none⟩,[]),(⟨some 5,.move (.tmp 0),none⟩,[]),(⟨some 6,.nilCheck (.tmp 5),none⟩,[]),(⟨some 7,.fieldAddr 0 (.tmp 6),none⟩,[]),(⟨some 8,.ah (.tmp 7),none⟩,[]),(⟨some 9,.move (.tmp 1),none⟩,[]),(⟨some 10,.move (.tmp 1),none⟩,[]),(⟨some 11,.bR (.tmp 10),none⟩,[]),(⟨some 12,.move (.tmp 0),none⟩,[]),(⟨some 13,.nilCheck (.tmp 12),none⟩,[]),(⟨some 14,.fieldAddr 0 (.tmp 13),none⟩,[]),(⟨some 15,.ah (.tmp 14),none⟩,[]),(⟨some 16,.bR (.tmp 15),none⟩,[]),(⟨some 17,.bin .sub (.const (.int .i64 1024)) (.tmp 16),none⟩,[]),(⟨some 18,.PK false (.tmp 11) (.tmp 17),none⟩,[]),(⟨some 19,.dn 7 (.tmp 9) none (some (.tmp 18)) none,none⟩,[]),(⟨some 20,.append 7 72 (.tmp 8) (.tmp 19),none⟩,[]),(⟨some 21,.nilCheck (.tmp 4),none⟩,[]),(⟨some 22,.fieldAddr 0 (.tmp 21),none⟩,[]),(⟨none,.store 1 (.tmp 22) (.tmp 20),none⟩,[])]⟩
def oz (F:Nat→FuncId)(Ty:Nat→TypeId):aA:=⟨21,[.tmp 4,.tmp 5],.seq (.ops [⟨some 4,.move (.const (.int .i64 0)),none⟩,⟨some 5,.move (.const (.bool false)),none⟩]) (.seq (.ops [⟨some 7,.move (.tmp 0),none⟩,⟨some 8,.nilCheck (.tmp 7),none⟩,⟨some 9,.fieldAddr 0 (.tmp 8),none⟩,⟨some 10,.ah (.tmp 9),none⟩,⟨some 11,.bR (.tmp 10),none⟩,⟨some 6,.move (.tmp 11),none⟩]) (.seq (.seq (.ops [⟨some 12,.move (.tmp 6),none⟩,⟨some 13,.bin .eql (.tmp 12) (.const (.int .i64 0)),none⟩]) (.cond (.tmp 13) (.seq (.ops [⟨some 4,.move (.const (.int .i64 0)),none⟩,⟨some 5,.move (.const (.bool false)),none⟩]) (.ret)) (.skip))) (.seq (.ops [⟨some 14,.move (.tmp 1),none⟩,⟨some 15,.move (.tmp 6),none⟩,⟨some 16,.bin .rem (.tmp 14) (.tmp 15),none⟩,⟨some 17,.move (.tmp 6),none⟩,⟨some 18,.bin .add (.tmp 16) (.tmp 17),none⟩,⟨some 19,.move (.tmp 6),none⟩,⟨some 20,.bin .rem (.tmp 18) (.tmp 19),none⟩,⟨some 4,.move (.tmp 20),none⟩,⟨some 5,.move (.const (.bool true)),none⟩]) (.ret))))⟩
def qP (F:Nat→FuncId)(Ty:Nat→TypeId):aA:=⟨37,[.dD 4 7,.tmp 5],.seq (.ops [⟨some 4,.alloc [.int .i64 0,.int .i64 0,.int .i64 0,.int .i64 0,.int .i64 0,.int .i64 0,.slice none 0 0],none⟩,⟨some 5,.move (.const (.bool false)),none⟩]) (.seq (.ops [⟨some 10,.move (.tmp 0),none⟩,⟨some 11,.move (.tmp 1),none⟩,⟨some 12,.call (F 325) [.tmp 10,.tmp 11],none⟩,⟨some 9,.move (.tmp 12),none⟩,⟨some 13,.extract (.tmp 9) 0,none⟩,⟨some 14,.extract (.tmp 9) 1,none⟩,⟨some 6,.move (.tmp 13),none⟩,⟨some 7,.move (.tmp 14),none⟩]) (.seq (.seq (.ops [⟨some 15,.move (.tmp 7),none⟩,⟨some 16,.un .not (.tmp 15),none⟩]) (.cond (.tmp 16) (.seq (.ops [⟨some 17,.build [.int .i64 0,.int .i64 0,.int .i64 0,.int .i64 0,.int .i64 0,.int .i64 0,.slice none 0 0] [],none⟩,⟨none,.store 7 (.tmp 4) (.tmp 17),none⟩,⟨some 5,.move (.const (.bool false)),none⟩]) (.ret)) (.skip))) (.seq (.ops [⟨some 18,.move (.tmp 0),none⟩,⟨some 19,.nilCheck (.tmp 18),none⟩,⟨some 20,.fieldAddr 0 (.tmp 19),none⟩,⟨some 21,.ah (.tmp 20),none⟩,⟨some 22,.move (.tmp 6),none⟩,⟨some 23,.bg 7 (.tmp 21) (.tmp 22),none⟩,⟨some 24,.ak 7 (.tmp 23),none⟩,⟨some 8,.alloc [.int .i64 0,.int .i64 0,.int .i64 0,.int .i64 0,.int .i64 0,.int .i64 0,.slice none 0 0],none⟩,⟨none,.store 7 (.tmp 8) (.tmp 24),none⟩]) (.seq (.ops [⟨some 25,.move (.tmp 0),none⟩,⟨some 26,.move (.tmp 0),none⟩,⟨some 27,.nilCheck (.tmp 26),none⟩,⟨some 28,.fieldAddr 0 (.tmp 27),none⟩,⟨some 29,.ah (.tmp 28),none⟩,⟨some 30,.move (.tmp 6),none⟩,⟨some 31,.move (.tmp 6),none⟩,⟨some 32,.bin .add (.tmp 31) (.const (.int .i64 1)),none⟩,⟨some 33,.call (F 327) [.tmp 29,.tmp 30,.tmp 32],none⟩,⟨some 34,.nilCheck (.tmp 25),none⟩,⟨some 35,.fieldAddr 0 (.tmp 34),none⟩,⟨none,.store 1 (.tmp 35) (.tmp 33),none⟩]) (.seq (.ops [⟨some 36,.ak 7 (.tmp 8),none⟩,⟨none,.store 7 (.tmp 4) (.tmp 36),none⟩,⟨some 5,.move (.const (.bool true)),none⟩]) (.ret))))))⟩
def eH (F:Nat→FuncId)(Ty:Nat→TypeId):aA:=⟨33,[.tmp 6],.seq (.ops [⟨some 6,.move (.const (.slice none 0 0)),none⟩]) (.seq (.ops [⟨some 8,.move (.tmp 0),none⟩,⟨some 9,.move (.tmp 1),none⟩,⟨some 10,.move (.tmp 2),none⟩,⟨some 11,.move (.tmp 0),none⟩,⟨some 12,.bR (.tmp 11),none⟩,⟨some 13,.dn 7 (.tmp 8) (some (.tmp 9)) (some (.tmp 10)) (some (.tmp 12)),none⟩]) (.seq (.seq (.ops [⟨some 14,.move (.tmp 1),none⟩,⟨some 15,.move (.tmp 2),none⟩,⟨some 16,.bin .eql (.tmp 14) (.tmp 15),none⟩]) (.cond (.tmp 16) (.seq (.ops [⟨some 17,.move (.tmp 0),none⟩,⟨some 6,.move (.tmp 17),none⟩]) (.ret)) (.skip))) (.seq (.ops [⟨some 18,.move (.tmp 0),none⟩,⟨some 19,.bR (.tmp 18),none⟩,⟨some 7,.move (.tmp 19),none⟩]) (.seq (.draw [(⟨some 20,.move (.tmp 0),none⟩,[]),(⟨some 21,.move (.tmp 1),none⟩,[]),(⟨some 22,.dn 7 (.tmp 20) none (some (.tmp 21)) none,none⟩,[]),(⟨some 23,.move (.tmp 0),none⟩,[]),(⟨some 24,.move (.tmp 2),none⟩,[]),(⟨some 25,.dn 7 (.tmp 23) (some (.tmp 24)) none none,none⟩,[]),(⟨some 26,.append 7 72 (.tmp 22) (.tmp 25),none⟩,[]),(⟨some 0,.move (.tmp 26),none⟩,[])]) (.seq (.ops [⟨some 27,.move (.tmp 0),none⟩,⟨some 28,.move (.tmp 0),none⟩,⟨some 29,.bR (.tmp 28),none⟩,⟨some 30,.move (.tmp 7),none⟩,⟨some 31,.dn 7 (.tmp 27) (some (.tmp 29)) (some (.tmp 30)) none,none⟩,⟨none,.Ew [.int .i64 0,.int .i64 0,.int .i64 0,.int .i64 0,.int .i64 0,.int .i64 0,.slice none 0 0] (.tmp 31),none⟩]) (.seq (.ops [⟨some 32,.move (.tmp 0),none⟩,⟨some 6,.move (.tmp 32),none⟩]) (.ret)))))))⟩
structure jm (c:Ctx):Prop where
 UN:c.IP (c.F 311)=some (zR c.F c.Ty)
 OJ:c.IP (c.F 312)=some (sJ c.F c.Ty)
 GJ:c.IP (c.F 313)=some (mR c.F c.Ty)
 Ca:c.IP (c.F 314)=some (j4 c.F c.Ty)
 IU:c.IP (c.F 315)=some (oq c.F c.Ty)
 Cb:c.IP (c.F 316)=some (j6 c.F c.Ty)
 GK:c.IP (c.F 317)=some (mU c.F c.Ty)
 DW:c.IP (c.F 318)=some (iK c.F c.Ty)
 Ff:c.IP (c.F 319)=some (l6 c.F c.Ty)
 IV:c.IP (c.F 320)=some (ow c.F c.Ty)
 Cc:c.IP (c.F 321)=some (kg c.F c.Ty)
 Fg:c.IP (c.F 322)=some (l7 c.F c.Ty)
 GL:c.IP (c.F 323)=some (gN c.F c.Ty)
 MH:c.IP (c.F 324)=some (qO c.F c.Ty)
 OL:c.IP (c.F 325)=some (oz c.F c.Ty)
 MI:c.IP (c.F 326)=some (qP c.F c.Ty)
 pq:c.IP (c.F 327)=some (eH c.F c.Ty)
section
attribute [local simp] J0 J1 J2 J3 J4 J5 J6 J7 J8 J9 Ja Jb Jc Jd Je Jf Jg Jh Ji Jj Jk Jl Jm Jn Jo Jp Jq Jr Js Jt Ju Jv Jw Jx Jy Jz JA JB JC JD JE JF JG JH JI JJ JK JL JM JN JO JP JQ JR JS aQ bZ.kind JT JU JV JW JX JY JZ Y0 Y1 Y2 Y3 Y4 Y5 Y6 Y7 Y8 Y9 Ya Yb Yc Yd Ye Yf Yg Yh Yi Yj Yk Yl Ym Yn Yo Yp Yq jq Yr Ys Yt Yu Yv Yw Yx Yy dZ bA bE Yz YA YB YC YD YE eO YF YG YH YI YJ YK YL YM YN YO YP YQ YR YS YT YU nP bK jR nG bu putAt aa.ah aa.aP aa.aK YV YW YX YY YZ B0 B1 B2 B3 B4 B5 B6 B7 B8 B9 Ba Bb Bc Bd Be Bf Bg Bh Bi Bj Bk Bl Bm Bn Bo Bp
section
def VN (H:aa)(q:Nat)(u:Value)(rows:List (List Value)):Prop:=(rows=[]∧u = .slice none 0 0)∨∃cs,q<H.next∧u = .slice (some ⟨q,0,none⟩) rows.length (dY+7)∧H.get q=some (.cells cs false)∧cs.take (rows.length*7)=rows.flatten∧rows.length*7≤cs.length
theorem VN.upd {H H':aa}{S:List Nat}{q:Nat}{u:Value}{rows:List (List Value)}(h:VN H q u rows)(hu:aa.upd S H H')(hq:q ∉ S):VN H' q u rows:=by
 rcases h with h|⟨cs,a,b,c,d,e⟩
 ·exact .inl h
 ·exact .inr ⟨cs,Nat.lt_of_lt_of_le a hu.next,b,(hu.get q a hq).trans c,d,e⟩
theorem VN.le {H H':aa}{q:Nat}{u:Value}{rows:List (List Value)}(h:VN H q u rows)(hu:H.le H'):VN H' q u rows:=h.upd (hu.upd []) (by simp)
theorem VN.Rx {H:aa}{q:Nat}{u:Value}{rows:List (List Value)}(h:VN H q u rows)(h4: ∀r ∈ rows,r.length=7):qZ H 7 u rows:=by
 rcases h with⟨rfl,rfl⟩|⟨cs,a,rfl,c,d,e⟩
 ·exact qZ.nil H 7
 ·refine⟨⟨_,_,rfl,fun _=>⟨q,0,cs,false,rfl,a,c,fun i r hr=> ?_⟩⟩,_,_,rfl,.inr ⟨_,_,rfl⟩,.inr ⟨rfl,by simp⟩⟩
  obtain⟨f1,f2⟩:=rX rows 7 i r h4 hr
  have hfl:=dR rows 7 h4
  refine⟨h4 r (List.mem_of_getElem? hr),?_,by omega⟩
  rw[←f1,←d,Nat.zero_add,List.drop_take,List.take_take,Nat.min_eq_left (by omega)]
theorem VN.Uy {H:aa}{q:Nat}{u:Value}{rows:List (List Value)}(h:VN H q u rows): ∃a cap,u = .slice a rows.length cap:=by
 rcases h with⟨rfl,rfl⟩|⟨cs,_,rfl,_⟩
 ·exact⟨_,_,rfl⟩
 ·exact⟨_,_,rfl⟩
theorem SB (rows:List (List Value))(i:Nat):(rows.eraseIdx i).flatten=(rows.take i).flatten++(rows.drop (i+1)).flatten:=by
 rw[List.eraseIdx_eq_take_drop_succ,List.flatten_append]
theorem SC {cs:List Value}{rows:List (List Value)}(h4: ∀r ∈ rows,r.length=7)(h:cs.take (rows.length*7)=rows.flatten){i:Nat}(hi:i≤rows.length):cs.take (i*7)=(rows.take i).flatten:=by
 have:=congrArg (List.take (i*7)) h
 have hsp:=pY rows i
 have hpre:((rows.take i).flatten).length=i*7:=by rw[dR _ 7 fun r hr=>h4 r (List.mem_of_mem_take hr),List.length_take];omega
 rw[List.take_take,Nat.min_eq_left (by omega),hsp,←hpre,List.take_left,hpre]at this
 exact this
theorem SE {cs:List Value}{rows:List (List Value)}(h4: ∀r ∈ rows,r.length=7)(h:cs.take (rows.length*7)=rows.flatten){i:Nat}(hi:i≤rows.length):(cs.drop (i*7)).take ((rows.length-i)*7)=(rows.drop i).flatten:=by
 have:=congrArg (List.drop (i*7)) h
 have hsp:=pY rows i
 have hpre:((rows.take i).flatten).length=i*7:=by rw[dR _ 7 fun r hr=>h4 r (List.mem_of_mem_take hr),List.length_take];omega
 rw[List.drop_take,hsp,←hpre,List.drop_left,hpre]at this
 rw[←this]
 congr 1;omega
section
variable (c:Ctx) (hc:jm c) {H:aa} {K:Value→aa→Prop}
include hc in
theorem SF {q i:Nat}{u:Value}{rows:List (List Value)}(h:VN H q u rows)(h2: ∀r ∈ rows,r.length=7)(hone:rows.flatten.all cO=true)(hi:i<rows.length)(hl:rows.length≤1000000)
 (hK: ∀v H',aa.upd [q] H H'→VN H' q v (rows.eraseIdx i)→K v H'):
 c.C (c.F nM) [u,.int .i64 i,.int .i64 ((i:Int)+1)] H K:=by
 refine c.enter hc.pq rfl ?_
 rcases h with⟨rfl,rfl⟩|⟨cs,hq,rfl,gq,hcs,hcl⟩
 ·simp at hi
 ·obtain⟨N,hN⟩: ∃N,N=rows.length:=⟨_,rfl⟩
  have hcs':=hcs
  rw[←hN]at hcs hcl hi hl ⊢
  have hel:(rows.eraseIdx i).length=N-1:=by rw[List.length_eraseIdx,if_pos (by omega),hN]
  obtain⟨m,hm⟩: ∃m,m=N-(i+1):=⟨_,rfl⟩
  obtain⟨D,hD⟩: ∃D,D=(rows.drop (i+1)).flatten:=⟨_,rfl⟩
  have hDl:D.length=m*7:=by rw[hD,dR _ 7 fun r hr=>h2 r (List.mem_of_mem_drop hr),List.length_drop,hm,hN]
  have hDone:D.all cO=true:=by
   rw[hD,List.all_eq_true]
   intro x hx
   obtain⟨r,hr,hx⟩:=List.mem_flatten.1 hx
   exact List.all_eq_true.1 hone x (List.mem_flatten.2 ⟨r,List.mem_of_mem_drop hr,hx⟩)
  have hFD:(cs.drop ((i+1)*7)).take (m*7)=D:=by
   have:=SE h2 hcs' (i:=i+1) (by omega)
   rw[←hN,←hm]at this
   rw[hD,this]
  have hFA:cs.take (i*7)=(rows.take i).flatten:=SC h2 hcs' (by omega)
  have sQ: ∀(X:aa) (k l:Nat),l≤N→cZ X 7 (some ⟨q,0,none⟩) N (dY+7) k l none=some (.slice (some ⟨q,k*7,none⟩) (l-k) (dY+7)):=by
   intro X k l hk
   unfold cZ
   rw[if_neg (by omega)]
   simp[hk]
  obtain⟨x13,s13⟩: ∃x,cZ H 7 (some ⟨q,0,none⟩) N (dY+7) i (i+1) (some N)=some x:=by
   unfold cZ
   rw[if_neg (by omega)]
   simp only[Option.getD_some,Nat.le_refl,true_or,and_true,true_and]
   rw[if_pos (by omega),if_pos (by unfold dY;omega)]
   exact⟨_,rfl⟩
  have s22:cZ H 7 (some ⟨q,0,none⟩) N (dY+7) 0 i none=some (.slice (some ⟨q,0,none⟩) i (dY+7)):=by
   have:=sQ H 0 i (by omega)
   rwa[Nat.zero_mul,Nat.sub_zero]at this
  have s25:=sQ H (i+1) N (Nat.le_refl _)
  rw[←hm]at s25
  have fD:aZ H 7 m (.slice (some ⟨q,(i+1)*7,none⟩) m (dY+7))=some D:=by
   simp only[aZ,aa.aP,gq]
   by_cases hz:m*7=0
   ·have:D=[]:=List.length_eq_zero_iff.1 (by rw[hDl];exact hz)
    rw[if_pos hz,this]
   ·rw[if_neg hz,if_pos (by omega),hFD]
  obtain⟨cs1,hcs1⟩: ∃c,c=putAt cs (i*7) D:=⟨_,rfl⟩
  have l1:cs1.length=cs.length:=by rw[hcs1];exact rA (by omega)
  have t1:cs1.take ((N-1)*7)=(rows.eraseIdx i).flatten:=by
   rw[hcs1,SB,←hD,←hFA]
   unfold putAt
   rw[List.append_assoc,←List.append_assoc,List.take_append_of_le_length (by simp only[List.length_append,List.length_take];omega),List.take_of_length_le (by simp only[List.length_append,List.length_take];omega)]
  obtain⟨Ha,hHa⟩: ∃X:aa,X=H.set q (.cells cs1 false):=⟨_,rfl⟩
  have ga:Ha.get q=some (.cells cs1 false):=by rw[hHa,YW,if_pos rfl]
  have ua:aa.upd [q] H Ha:=by rw[hHa];exact(aa.iE _ _).set (.inr (by simp)) _
  have na:Ha.next=H.next:=by rw[hHa];rfl
  have e1:i+m=N-1:=by omega
  obtain⟨Hb,hab,gb,ub,nb⟩: ∃Hb,aY H 7 72 (.slice (some ⟨q,0,none⟩) i (dY+7)) m D=some (.slice (some ⟨q,0,none⟩) (N-1) (dY+7),Hb)∧Hb.get q=some (.cells cs1 false)∧aa.upd [q] H Hb∧Hb.next=H.next:=by
   have f1:aZ H 7 i (.slice (some ⟨q,0,none⟩) i (dY+7))=some (cs.take (i*7)):=by
    simp only[aZ,aa.aP,gq]
    by_cases hz:i*7=0
    ·rw[if_pos hz,hz];rfl
    ·rw[if_neg hz,if_pos (by omega),List.drop_zero]
   by_cases hm0:m=0
   ·have hD0:D=[]:=List.length_eq_zero_iff.1 (by rw[hDl,hm0])
    refine⟨H,?_,?_,aa.iE _ _,rfl⟩
    ·simp only[aY]
     rw[if_pos ⟨by omega,by omega,by omega,by omega,by omega⟩,if_pos hm0,if_pos (by unfold dY;omega),show N-1=i by omega]
    ·have:cs1=cs:=by rw[hcs1,hD0];unfold putAt;simp
     rw[this];exact gq
   ·refine⟨Ha,?_,ga,ua,na⟩
    simp only[aY,f1,gq]
    rw[if_pos ⟨by omega,by omega,by omega,by omega,by omega⟩,if_neg hm0,if_neg (by omega),if_neg (by omega),if_pos trivial,if_pos hDone,if_pos (by omega),hHa,hcs1,e1,Nat.zero_add]
  obtain⟨Z,hZ⟩: ∃Z,Z=(Builtin.zeroCells #[Value.int .i64 0,.int .i64 0,.int .i64 0,.int .i64 0,.int .i64 0,.int .i64 0,.slice none 0 0] 1).toList:=⟨_,rfl⟩
  have hZl:Z.length=7:=by rw[hZ,Array.length_toList,nT];rfl
  have Z8:Z.all cO=true:=by
   rw[hZ,List.all_eq_true]
   intro x hx
   simp only[Builtin.zeroCells,Array.toList_map,List.mem_map]at hx
   obtain⟨k,_,rfl⟩:=hx
   have:k % 7=0∨k % 7=1∨k % 7=2∨k % 7=3∨k % 7=4∨k % 7=5∨k % 7=6:=by omega
   rcases this with h|h|h|h|h|h|h <;> simp[h,cO]
  have s31:cZ Hb 7 (some ⟨q,0,none⟩) (N-1) (dY+7) (N-1) N none=some (.slice (some ⟨q,(N-1)*7,none⟩) 1 (dY+7)):=by
   unfold cZ
   rw[if_neg (by omega)]
   simp only[y5,gb,Option.getD_none,Nat.zero_add]
   rw[if_pos ⟨trivial,by omega,.inr (by rw[decide_eq_true_eq];omega)⟩,show N-(N-1)=1 by omega]
  obtain⟨cs2,hcs2⟩: ∃c,c=putAt cs1 ((N-1)*7) Z:=⟨_,rfl⟩
  have l2:cs2.length=cs1.length:=by rw[hcs2];exact rA (by omega)
  have t2:cs2.take ((N-1)*7)=(rows.eraseIdx i).flatten:=by
   rw[hcs2]
   unfold putAt
   rw[List.append_assoc,List.take_append_of_le_length (by rw[List.length_take];omega),List.take_take,Nat.min_self,t1]
  have st:Hb.aK q ((N-1)*7) Z=some (Hb.set q (.cells cs2 false)):=by
   simp only[aa.aK,gb]
   rw[if_pos ⟨by omega,Z8⟩,hcs2]
  have fo2:List.take ((N-1)*7) cs1++(Z++List.drop ((N-1)*7+Z.length) cs1)=cs2:=by rw[hcs2,putAt,List.append_assoc]
  have k2:(N-1)*7+Z.length≤cs1.length:=by omega
  have hi1:i≤N:=by omega
  have hi2:i+1≤N:=by omega
  have q1:(0:Int)≤(i:Int)+1:=by omega
  have q2:((i:Int)+1).toNat=i+1:=by omega
  have q3:((i:Int)+1)≤(N:Int):=by omega
  have q4:(i:Int)≤(i:Int)+1:=by omega
  have q5:N-1≤N:=by omega
  have q6: ¬ (i:Int)=(i:Int)+1:=by omega
  simp -implicitDefEqProofs [eH,eU,nL,q1,q2,q3,q4,q5,q6,hi1,hi2,s13,s22,s25,bG,fD,hab,s31,←hZ,gb,k2,Z8,fo2,-List.all_eq_true]
  exact hK _ _ (ub.set (.inr (by simp)) _) (.inr ⟨cs2,by simp only[YY];omega,by rw[hel],by rw[YW,if_pos rfl],by rw[hel,t2],by rw[hel];omega⟩)
end
end
end
theorem VN.append {H:aa}{q:Nat}{u:Value}{rows new:List (List Value)}(h:VN H q u rows)(h7: ∀r ∈ rows,r.length=7)(hnew: ∀r ∈ new,r.length=7)(hone:new.flatten.all cO=true)(hl:rows.length+new.length≤1000000):
 ∃v' H' q',aY H 7 72 u new.length new.flatten=some (v',H')∧VN H' q' v' (rows++new)∧Fr (fun b=>b=q) H H'∧(q'=q∨H.next≤q'):=by
 have hfl:=dR new 7 hnew
 have hfr:=dR rows 7 h7
 by_cases hne:new=[]
 ·subst hne
  refine⟨u,H,q,?_,by simpa using h,Fr.refl _ _,.inl rfl⟩
  rcases h with⟨rfl,rfl⟩|⟨cs,hq,rfl,_⟩
  ·simp[aY]
  ·simp only[List.length_nil,List.flatten_nil,aY]
   rw[if_pos ⟨by simp only[List.length_nil]at hl;omega,by simp only[List.length_nil]at hl;omega,by omega,by omega,by simp⟩,if_pos trivial,if_pos (by unfold dY;simp only[List.length_nil]at hl;omega)]
 ·have hp:new.length≠0:=by simpa using hne
  rcases h with⟨rfl,rfl⟩|⟨cs,hq,rfl,gq,hcs,hcl⟩
  ·refine⟨.slice (some ⟨H.next,0,none⟩) new.length (dY+7),H.alloc (.cells new.flatten false),H.next,?_,.inr ⟨new.flatten,by simp[YX],by simp,by rw[YV,if_pos rfl],by simp[hfl,List.take_of_length_le],by simp[hfl]⟩,(H.aj _).fr _,.inr (Nat.le_refl _)⟩
   simp only[aY,List.length_nil]at hl ⊢
   rw[if_pos ⟨by omega,by omega,by omega,by omega,by omega⟩,if_neg hp,if_pos ⟨trivial,trivial⟩]
  ·have f1:aZ H 7 rows.length (.slice (some ⟨q,0,none⟩) rows.length (dY+7))=some rows.flatten:=by
    simp only[aZ,aa.aP,gq]
    by_cases hz:rows.length*7=0
    ·have:rows=[]:=List.length_eq_zero_iff.1 (by omega)
     rw[if_pos hz,this];rfl
    ·rw[if_neg hz,if_pos (by omega),List.drop_zero,hcs]
   by_cases hfit:0+(rows.length+new.length)*7≤cs.length
   ·refine⟨.slice (some ⟨q,0,none⟩) (rows.length+new.length) (dY+7),H.set q (.cells (putAt cs (0+rows.length*7) new.flatten) false),q,?_,.inr ⟨_,by rw[YY];exact hq,by rw[List.length_append],by rw[YW,if_pos rfl],?_,?_⟩,?_,.inl rfl⟩
    ·simp only[aY,f1,gq]
     rw[if_pos ⟨by omega,by omega,by omega,by omega,by omega⟩,if_neg hp,if_neg (by unfold dY;omega),if_neg (by unfold dY;omega),if_pos trivial,if_pos hone,if_pos hfit]
    ·rw[List.flatten_append,←hcs,List.length_append]
     unfold putAt
     have e1:(List.take (0+rows.length*7) cs++new.flatten).length=(rows.length+new.length)*7:=by rw[List.length_append,List.length_take,hfl];omega
     rw[List.take_append_of_le_length (by rw[e1];exact Nat.le_refl _),List.take_of_length_le (by rw[e1];exact Nat.le_refl _),Nat.zero_add]
    ·rw[rA (by omega),List.length_append];omega
    ·exact(Fr.refl (fun b=>b=q) H).set (.inl rfl) _
   ·refine⟨.slice (some ⟨H.next,0,none⟩) (rows.length+new.length) (dY+7),(H.set q .dead).alloc (.cells (rows.flatten++new.flatten) false),H.next,?_,.inr ⟨rows.flatten++new.flatten,by simp[YX,YY],by rw[List.length_append],by rw[YV,YY,if_pos rfl],?_,?_⟩,?_,.inr (Nat.le_refl _)⟩
    ·simp only[aY,f1,gq]
     rw[if_pos ⟨by omega,by omega,by omega,by omega,by omega⟩,if_neg hp,if_neg (by unfold dY;omega),if_neg (by unfold dY;omega),if_pos trivial,if_pos hone,if_neg hfit,if_pos (by omega)]
    ·rw[List.flatten_append,List.take_of_length_le (by simp only[List.length_append];omega)]
    ·simp only[List.length_append];omega
    ·refine⟨by rw[YX,YY];omega,fun b hb hne=> ?_⟩
     rw[YV,YY,if_neg (by omega),YW,if_neg hne]
def oC (q:Nat)(D:Nat→Prop)(H:aa)(v:Value)(l:List az):Prop:=
 ∃us:List Value,us.length=l.length∧VN H q v (List.zipWith aC l us)∧(∀(i:Nat) (x:az) (u:Value),l[i]? =some x→us[i]? =some u→eP D H 4 u (x.ai.map aG))
theorem oC.fr {q:Nat}{D B:Nat→Prop}{H H':aa}{v:Value}{l:List az}(h:oC q D H v l)(k:Fr B H H')(hq: ¬ B q)(hd: ∀b,D b→¬ B b):oC q D H' v l:=by
 obtain⟨us,h1,h2,h3⟩:=h
 refine⟨us,h1,?_,fun i x u a b=>(h3 i x u a b).fr k hd⟩
 rcases h2 with h2|⟨cs,a,b,c,d⟩
 ·exact .inl h2
 ·exact .inr ⟨cs,Nat.lt_of_lt_of_le a k.next,b,(k.get q a hq).trans c,d⟩
theorem oC.le {q:Nat}{D:Nat→Prop}{H H':aa}{v:Value}{l:List az}(h:oC q D H v l)(k:H.le H'):oC q D H' v l:=h.fr (k.fr fun _=>False) (fun h=>h) fun _ _ h=>h
theorem oC.len {q:Nat}{D:Nat→Prop}{H:aa}{v:Value}{l:List az}(h:oC q D H v l): ∃a cap,v = .slice a l.length cap:=by
 obtain⟨us,h1,h2,_⟩:=h
 obtain⟨a,cap,e⟩:=h2.Uy
 rw[eX h1]at e
 exact⟨a,cap,e⟩
theorem oC.weak {q:Nat}{D D':Nat→Prop}{H:aa}{v:Value}{l:List az}(h:oC q D H v l)(hd: ∀b,D b→D' b):oC q D' H v l:=by
 obtain⟨us,h1,h2,h3⟩:=h
 exact⟨us,h1,h2,fun i x u a b=>(h3 i x u a b).weak hd⟩
theorem oC.nil (q:Nat)(D:Nat→Prop)(H:aa):oC q D H (.slice none 0 0) []:=⟨[],rfl,.inl ⟨rfl,rfl⟩,by simp⟩
theorem oC.at {q:Nat}{D:Nat→Prop}{H:aa}{v:Value}{l:List az}(h:oC q D H v l){i:Nat}{x:az}(hi:l[i]? =some x):
 ∃cs u,v = .slice (some ⟨q,0,none⟩) l.length (dY+7)∧q<H.next∧H.get q=some (.cells cs false)∧(cs.drop (i*7)).take 7=aC x u∧i*7+7≤cs.length∧eP D H 4 u (x.ai.map aG):=by
 obtain⟨us,h1,h2,h3⟩:=h
 have hl:=(List.getElem?_eq_some_iff.1 hi).1
 have hu:us[i]? =some us[i]:=List.getElem?_eq_getElem (by omega)
 have hz:(List.zipWith aC l us)[i]? =some (aC x us[i]):=by rw[List.getElem?_zipWith,hi,hu]
 rcases h2 with⟨e,_⟩|⟨cs,a,b,c,d,e⟩
 ·rw[e]at hz;simp at hz
 ·rw[eX h1]at b d e
  have hr:=rX _ 7 i _ (gI l us) hz
  refine⟨cs,us[i],b,a,c,?_,by omega,h3 i x _ hi hu⟩
  rw[←hr.1,←d,List.drop_take,List.take_take,Nat.min_eq_left (by omega)]
section
attribute [local simp] J0 J1 J2 J3 J4 J5 J6 J7 J8 J9 Ja Jb Jc Jd Je Jf Jg Jh Ji Jj Jk Jl Jm Jn Jo Jp Jq Jr Js Jt Ju Jv Jw Jx Jy Jz JA JB JC JD JE JF JG JH JI JJ JK JL JM JN JO JP JQ JR JS aQ bZ.kind JT JU JV JW JX JY JZ Y0 Y1 Y2 Y3 Y4 Y5 Y6 Y7 Y8 Y9 Ya Yb Yc Yd Ye Yf Yg Yh Yi Yj Yk Yl Ym Yn Yo Yp Yq jq Yr Ys Yt Yu Yv Yw Yx Yy dZ bA bE Yz YA YB YC YD YE eO YF YG YH YI YJ YK YL YM YN YO YP YQ YR YS YT YU nP bK jR nG bu putAt aa.ah aa.aP aa.aK YV YW YX YY YZ B0 B1 B2 B3 B4 B5 B6 B7 B8 B9 Ba Bb Bc Bd Be Bf Bg Bh Bi Bj Bk Bl Bm Bn Bo Bp
section
def DX (l m:List az):List az:=l++m.take (1024-l.length)
def GM (i n:Int):Int:=Int.tmod (Int.tmod i n+n) n
def MsD (D:Nat→Prop)(H:aa)(u:Value)(m:List az):Prop:=
 ∃ws:List Value,ws.length=m.length∧qZ H 7 u (List.zipWith aC m ws)∧∀(i:Nat) (x:az) (w:Value),m[i]? =some x→ws[i]? =some w→eP D H 4 w (x.ai.map aG)
theorem gB.ms {D:Nat→Prop}{H:aa}{v:Value}{l:List az}(h:gB D H v l):MsD D H v l:=by
 obtain⟨us,h1,h2,h3,_⟩:=h
 exact⟨us,h1,h2.2,h3⟩
theorem MsD.len {D:Nat→Prop}{H:aa}{v:Value}{l:List az}(h:MsD D H v l): ∃a cap,v = .slice a l.length cap:=by
 obtain⟨us,h1,h2,_⟩:=h
 obtain⟨a,cap,e⟩:=h2.len
 rw[eX h1]at e
 exact⟨a,cap,e⟩
section
variable (c:Ctx) (hc:jm c) {H:aa} {K:Value→aa→Prop} {t q:Nat} {lv wv fv:Value} {l:List az} {D:Nat→Prop}
include hc in
theorem WQ {m:List az}{u:Value}{D2:Nat→Prop}(ht:t<H.next)(hg:H.get t=some (.cells [lv,wv,fv] false))(hw:oC q D H wv l)(hm:MsD D2 H u m)(hl:l.length≤1024)(hml:m.length≤7168)(hq:q≠t)
 (hd: ∀b,D b→b≠t∧b≠q) (hd2: ∀b,D2 b→b≠t∧b≠q)
 (hK: ∀wv' q' H',Fr (fun b=>b=t∨b=q) H H'→H'.get t=some (.cells [lv,wv',fv] false)→oC q' (fun b=>D b∨D2 b) H' wv' (DX l m)→(q'=q∨H.next≤q')→K (.tuple #[]) H'):
 c.C (c.F yl) [.pointer (some ⟨t,1,none⟩),u] H K:=by
 refine c.enter hc.MH rfl ?_
 obtain⟨wa,wc,Vm⟩:=hw.len
 obtain⟨ua,uc,hue⟩:=hm.len
 obtain⟨us,h1,h2,h3⟩:=hw
 obtain⟨ws,k1,k2,k3⟩:=hm
 obtain⟨k,hk⟩: ∃k:Nat,k=min m.length (1024-l.length):=⟨_,rfl⟩
 have hzl:=eX h1
 have RD:=eX k1
 have k2':=k2
 rw[hue]at k2'
 obtain⟨v',s1,s2⟩:=k2'.cut (by omega) (Nat.zero_le k) (by rw[RD];omega)
 have hrow:(List.drop 0 (List.zipWith aC m ws)).take (k-0)=List.zipWith aC (m.take k) (ws.take k):=by
  rw[List.drop_zero,Nat.sub_zero,List.take_zipWith]
 rw[hrow]at s2
 have hkl:(List.zipWith aC (m.take k) (ws.take k)).length=k:=by rw[eX (by simp[k1])];simp;omega
 have f1:=s2.first (by omega)
 rw[hkl]at f1
 obtain⟨va,vc,XH⟩:=s2.len
 rw[hkl]at XH
 have ho: ∀x ∈ ws.take k,cO x=true:=by
  intro x hx
  obtain⟨z,hz⟩:=List.getElem?_of_mem hx
  obtain⟨e,he⟩: ∃e,(m.take k)[z]? =some e:=⟨(m.take k)[z]'(by have:=(List.getElem?_eq_some_iff.1 hz).1;simp at this ⊢;omega),List.getElem?_eq_getElem _⟩
  rw[List.getElem?_take]at hz he
  split at hz
  ·rename_i hzk
   rw[if_pos hzk]at he
   obtain⟨xa,xc,hx⟩:=(k3 z e x he hz).2.len
   rw[hx];rfl
  ·cases hz
 obtain⟨w',H',q',a1,a2,a3,a4⟩:=h2.append (new:=List.zipWith aC (m.take k) (ws.take k)) (gI l us) (gI _ _) (um ho) (by rw[hzl,hkl];omega)
 rw[hkl,Vm]at a1
 rw[XH]at f1
 rw[XH]at s1
 have hwr:IntKind.i64.wrap (1024-(l.length:Int))=1024-(l.length:Int):=wrap64 (by omega) (by omega)
 have hmx:(if 1024-(l.length:Int)<(m.length:Int)then 1024-(l.length:Int)else (m.length:Int))=(k:Int):=by split <;> omega
 obtain⟨xa,xc,hxe⟩:=a2.Uy
 have o2:cO w'=true:=by rw[hxe];rfl
 have c2v:w'.cells = #[w']:=by rw[hxe];rfl
 have g2:=(a3.get t ht (Ne.symm hq)).trans hg
 simp -implicitDefEqProofs [qO,aT,hg,hue,Vm,s1,hwr,hmx,eU,nL,bG,f1,a1,g2,o2,c2v]
 have hmk:m.take k=m.take (1024-l.length):=by rw[hk,List.take_eq_take_iff];omega
 have hq':q'≠t:=by rcases a4 with rfl|h <;> omega
 have fS:Fr (fun b=>b=t) H' (H'.set t (.cells [lv,w',fv] false)):=(Fr.refl (fun b=>b=t) H').set (.inl rfl) _
 have fA:Fr (fun b=>b=t∨b=q) H (H'.set t (.cells [lv,w',fv] false)):=(a3.weak fun b hb=>.inr hb).trans (fS.weak fun b hb=>.inl hb) fun b hb=>.inl hb
 refine hK w' q' _ fA (by rw[YW,if_pos rfl]) ⟨us++ws.take k,?_,?_,fun i x u hx hu=> ?_⟩ a4
 ·unfold DX;rw[List.length_append,List.length_append,h1,←hmk];simp[k1]
 ·unfold DX
  rw[←hmk,List.zipWith_append h1.symm]
  rcases a2 with a2|⟨cs,b1,b2,b3,b4⟩
  ·exact .inl a2
  ·exact .inr ⟨cs,by rw[YY];exact b1,b2,by rw[YW,if_neg hq'];exact b3,b4⟩
 ·unfold DX at hx
  rw[←hmk]at hx
  by_cases hi:i<l.length
  ·rw[List.getElem?_append_left hi]at hx
   rw[List.getElem?_append_left (by omega)]at hu
   exact((h3 i x u hx hu).fr fA fun b hb e=>by rcases e with e|e;exact(hd b hb).1 e;exact(hd b hb).2 e).weak fun b hb=>.inl hb
  ·rw[List.getElem?_append_right (by omega),List.getElem?_take]at hx
   rw[List.getElem?_append_right (by omega),h1,List.getElem?_take]at hu
   split at hx
   ·rename_i hz
    rw[if_pos hz]at hu
    exact((k3 _ x u hx hu).fr fA fun b hb e=>by rcases e with e|e;exact(hd2 b hb).1 e;exact(hd2 b hb).2 e).weak fun b hb=>.inr hb
   ·cases hx
include hc in
theorem Z9 {i:Int}{wa:Option Addr}{n cap:Nat}(hg:H.get t=some (.cells [lv,.slice wa n cap,fv] false))(hn:n≤1024)(h0:n=0→K (.tuple #[.int .i64 0,.bool false]) H)
 (h1:n≠0→∀a:Nat,a<n→(a:Int)=GM i n→K (.tuple #[.int .i64 a,.bool true]) H):
 c.C (c.F LU) [.pointer (some ⟨t,1,none⟩),.int .i64 i] H K:=by
 refine c.enter hc.OL rfl ?_
 by_cases hz:n=0
 ·simp -implicitDefEqProofs [oz,aT,hg,hz]
  exact h0 hz
 ·have hz': ¬ (n:Int)=0:=by omega
  have b1:=Int.tmod_lt_of_pos i (b:=(n:Int)) (by omega)
  have b2: -(n:Int)<Int.tmod i n:=by
   have:=Int.lt_tmod_of_pos i (b:=(n:Int)) (by omega)
   exact this
  have hw:IntKind.i64.wrap (Int.tmod i n+n)=Int.tmod i n+n:=wrap64 (by omega) (by omega)
  have b3:0≤GM i n:=by unfold GM;exact Int.tmod_nonneg _ (by omega)
  have b4:GM i n<n:=Int.tmod_lt_of_pos _ (by omega)
  obtain⟨a,ha⟩: ∃a:Nat,(a:Int)=GM i n:=⟨(GM i n).toNat,by omega⟩
  have hk:=h1 hz a (by omega) ha
  unfold GM at ha
  simp -implicitDefEqProofs [oz,aT,hg,hz,hz',hw,←ha]
  exact hk
include hc in
theorem WR {i:Int}(ht:t<H.next)(hg:H.get t=some (.cells [lv,wv,fv] false))(hw:oC q D H wv l)(hl:l.length≤1024)(hq:q≠t)(hd: ∀b,D b→b≠t∧b≠q)
 (h0:l=[]→∀H',H.le H'→K (.tuple #[.agg #[.int .i64 0,.int .i64 0,.int .i64 0,.int .i64 0,.int .i64 0,.int .i64 0,.slice none 0 0],.bool false]) H')
 (h1: ∀(a:Nat) (x:az),(a:Int)=GM i l.length→l[a]? =some x→∀wv' u H',Fr (fun b=>b=t∨b=q) H H'→H'.get t=some (.cells [lv,wv',fv] false)→oC q D H' wv' (l.eraseIdx a)→eP D H' 4 u (x.ai.map aG)→K (.tuple #[.agg (aC x u).toArray,.bool true]) H'):
 c.C (c.F IQ) [.pointer (some ⟨t,1,none⟩),.int .i64 i] H K:=by
 refine c.enter hc.MI rfl ?_
 obtain⟨wa,wc,Vm⟩:=hw.len
 obtain⟨H0,hH0⟩: ∃X:aa,X=H.alloc (.cells [.int .i64 0,.int .i64 0,.int .i64 0,.int .i64 0,.int .i64 0,.int .i64 0,.slice none 0 0] false):=⟨_,rfl⟩
 have k0:H.le H0:=by rw[hH0];exact H.aj _
 have n0:H0.next=H.next+1:=by rw[hH0];rfl
 have g0:=(k0.get t ht).trans hg
 have z0:H0.get H.next=some (.cells [.int .i64 0,.int .i64 0,.int .i64 0,.int .i64 0,.int .i64 0,.int .i64 0,.slice none 0 0] false):=by rw[hH0,YV,if_pos rfl]
 have g0':=g0
 rw[Vm]at g0'
 simp -implicitDefEqProofs [qP,←hH0]
 refine av (Z9 c hc g0' hl (fun hz=> ?_) fun hz a ha hat=> ?_)
 ·have hl0:l=[]:=List.length_eq_zero_iff.1 hz
  simp -implicitDefEqProofs [z0]
  exact h0 hl0 _ (k0.set (Nat.le_refl _) _)
 ·obtain⟨x,hx⟩: ∃x,l[a]? =some x:=⟨l[a],List.getElem?_eq_getElem ha⟩
  obtain⟨cs,u,e1,q0,e3',e4,e5,e6⟩:=hw.at hx
  have e3:=(k0.get q q0).trans e3'
  simp only[aC]at e4
  obtain⟨us,u1,u2,u3⟩:=hw
  obtain⟨ua,uc,hue⟩:=e6.2.len
  have o1:cO u=true:=by rw[hue];rfl
  obtain⟨H1,hH1⟩: ∃X:aa,X=(H0.alloc (.cells [.int .i64 0,.int .i64 0,.int .i64 0,.int .i64 0,.int .i64 0,.int .i64 0,.slice none 0 0] false)).set H0.next
   (.cells [.int .i64 x.kind,.int .i64 x.fr,.int .i64 x.to,.int .i64 x.slot,.int .i64 x.ba,.int .i64 x.bn,u] false):=⟨_,rfl⟩
  have k1:H0.le H1:=by rw[hH1];exact(H0.aj _).set (Nat.le_refl _) _
  have n1:H1.next=H0.next+1:=by rw[hH1];rfl
  have r1:H1.get H0.next=some (.cells [.int .i64 x.kind,.int .i64 x.fr,.int .i64 x.to,.int .i64 x.slot,.int .i64 x.ba,.int .i64 x.bn,u] false):=by rw[hH1,YW,if_pos rfl]
  have bB:IntKind.i64.wrap ((a:Int)+1)=(a:Int)+1:=wrap64 (by omega) (by omega)
  have ha':(a:Int)<(l.length:Int):=by omega
  have g1:=(k1.get t (by omega)).trans g0
  rw[e1]at u2
  have ZR: ∀y ∈ us,cO y=true:=by
   intro y hy
   obtain⟨z,hz⟩:=List.getElem?_of_mem hy
   have hzl:z<l.length:=by have:=(List.getElem?_eq_some_iff.1 hz).1;omega
   obtain⟨xa,xc,hx⟩:=(u3 z l[z] y (List.getElem?_eq_getElem hzl) hz).2.len
   rw[hx];rfl
  simp -implicitDefEqProofs [g0,e1,e3,e4,e5,ha,ha',o1,←hH1,g1,bB]
  refine av (SF c hc ((u2.le k0).le k1) (gI l us) (um ZR) (by rw[eX u1];exact ha) (by rw[eX u1];omega) fun w' H2 p2 v2=> ?_)
  have n2:=p2.next
  have g2:=(p2.get t (by omega) (by simp[Ne.symm hq])).trans g1
  have r2:=(p2.get H0.next (by omega) (by simp;omega)).trans r1
  have z2:=(p2.get H.next (by omega) (by simp;omega)).trans ((k1.get H.next (by omega)).trans z0)
  obtain⟨xa,xc,hxe⟩:=v2.Uy
  have o2:cO w'=true:=by rw[hxe];rfl
  have c2v:w'.cells = #[w']:=by rw[hxe];rfl
  have et: ¬ H0.next=t:=by omega
  have et2: ¬ H.next=t:=by omega
  simp -implicitDefEqProofs [g2,r2,z2,o2,c2v,et,et2,o1]
  have fH:Fr (fun b=>b=t∨b=q) H ((H2.set t (.cells [lv,w',fv] false)).set H.next (.cells [.int .i64 x.kind,.int .i64 x.fr,.int .i64 x.to,.int .i64 x.slot,.int .i64 x.ba,.int .i64 x.bn,u] false)):=by
   refine⟨by simp only[YY];omega,fun b hb hne=> ?_⟩
   simp only[not_or]at hne
   rw[YW,if_neg (by omega),YW,if_neg hne.1,p2.get b (by omega) (by simp[hne.2]),k1.get b (by omega),k0.get b hb]
  have sw: ∀(y:az) (w:Value),eP D H 4 w (y.ai.map aG)→eP D ((H2.set t (.cells [lv,w',fv] false)).set H.next (.cells [.int .i64 x.kind,.int .i64 x.fr,.int .i64 x.to,.int .i64 x.slot,.int .i64 x.ba,.int .i64 x.bn,u] false)) 4 w (y.ai.map aG):=fun y w h=>
   h.fr fH fun b hb e=>by rcases e with e|e;exact(hd b hb).1 e;exact(hd b hb).2 e
  have her:(List.zipWith aC l us).eraseIdx a=List.zipWith aC (l.eraseIdx a) (us.eraseIdx a):=by
   simp only[List.eraseIdx_eq_take_drop_succ]
   rw[List.zipWith_append (by simp[u1]),List.take_zipWith,List.drop_zipWith]
  refine h1 a x (by rw[hat]) hx w' u _ fH (by rw[YW,if_neg (Ne.symm et2),YW,if_pos rfl]) ⟨us.eraseIdx a,?_,?_,fun i y w hy hw=> ?_⟩ (sw x u e6)
  ·rw[List.length_eraseIdx,List.length_eraseIdx,u1]
  ·rw[←her]
   rcases v2 with v2|⟨cs2,b1,b2,b3,b4⟩
   ·exact .inl v2
   ·exact .inr ⟨cs2,by simp only[YY];exact b1,b2,by rw[YW,if_neg (by omega),YW,if_neg hq];exact b3,b4⟩
  ·rw[List.getElem?_eraseIdx]at hy hw
   split at hy
   ·rename_i hlt
    rw[if_pos hlt]at hw
    exact sw y w (u3 i y w hy hw)
   ·rename_i hlt
    rw[if_neg hlt]at hw
    exact sw y w (u3 _ y w hy hw)
end
end
end
section
structure Tp where
 R:List Rp
 way:List az
def Dg (p:Nat):List Value:=[.pointer (some ⟨p,0,none⟩)]
structure xP (w:Nat→Nat)(H:aa)(t:Nat)(g:FuncId)(S:Tp):Prop where
 lt: ∀b,w b≠0→b<H.next
 own:w t=1
 rep: ∃(lb tb q cap:Nat) (ps:List Nat) (wv:Value),w lb=2∧w tb=3∧(w q=4∨wv = .slice none 0 0) ∧
  H.get t=some (.cells [.slice (some ⟨lb,0,none⟩) S.R.length cap,wv,.func (.func g) #[] #[.pointer (some ⟨tb,0,none⟩)]] false)∧H.get tb=some (.cells [.pointer (some ⟨t,0,none⟩)] false) ∧
  ps.length=S.R.length∧qJ H 1 (.slice (some ⟨lb,0,none⟩) S.R.length cap) (ps.map Dg)∧oC q (fun b=>w b=5) H wv S.way ∧
  ∀(i p:Nat) (R:Rp),ps[i]? =some p→S.R[i]? =some R→wO (fun b=>w b=6+i) H p R
theorem qJ.fr {C:Nat→Prop}{H H':aa}{size b o n cap:Nat}{rows:List (List Value)}(h:qJ H size (.slice (some ⟨b,o,none⟩) n cap) rows)(k:Fr C H H')(hb: ¬ C b):qJ H' size (.slice (some ⟨b,o,none⟩) n cap) rows:=by
 have:=(show Py (fun x=>x=b) H size (.slice (some ⟨b,o,none⟩) n cap) rows from⟨h,fun b' o' n' c' e _=>by simp only[Value.slice.injEq,Option.some.injEq,Addr.mk.injEq]at e;exact e.1.1.symm⟩).fr k fun x hx=>by rw[hx];exact hb
 exact this.1
theorem oC.fr' {q:Nat}{D B:Nat→Prop}{H H':aa}{l:List az}(h:oC q D H (.slice none 0 0) l)(k:Fr B H H')(hd: ∀b,D b→¬ B b):oC q D H' (.slice none 0 0) l:=by
 obtain⟨us,h1,h2,h3⟩:=h
 refine⟨us,h1,?_,fun i x u a b=>(h3 i x u a b).fr k hd⟩
 rcases h2 with h2|⟨cs,a,b,c,d⟩
 ·exact .inl h2
 ·simp at b
theorem xP.fr {w:Nat→Nat}{C:Nat→Prop}{H H':aa}{t:Nat}{g:FuncId}{S:Tp}(h:xP w H t g S)(k:Fr C H H')(hd: ∀b,w b≠0→¬ C b):xP w H' t g S:=by
 obtain⟨h1,h2,lb,tb,q,cap,ps,wv,r1,r2,r3,r4,r5,r6,r7,r8,r9⟩:=h
 refine⟨fun b hb=>Nat.lt_of_lt_of_le (h1 b hb) k.next,h2,lb,tb,q,cap,ps,wv,r1,r2,r3,(k.get t (h1 t (by omega)) (hd t (by omega))).trans r4,(k.get tb (h1 tb (by omega)) (hd tb (by omega))).trans r5,r6,r7.fr k (hd lb (by omega)),?_,fun i p R a b=>(r9 i p R a b).fr k fun x hx=>hd x (by omega)⟩
 rcases r3 with r3|r3
 ·exact r8.fr k (hd q (by omega)) fun b hb=>hd b (by omega)
 ·subst r3
  exact r8.fr' k fun b hb=>hd b (by omega)
theorem xP.le {w:Nat→Nat}{H H':aa}{t:Nat}{g:FuncId}{S:Tp}(h:xP w H t g S)(k:H.le H'):xP w H' t g S:=h.fr (k.fr fun _=>False) fun _ _ h=>h
theorem xP.len {w:Nat→Nat}{H:aa}{t:Nat}{g:FuncId}{S:Tp}(h:xP w H t g S): ∃l y z a n,H.get t=some (.cells [.slice (some ⟨l,0,none⟩) S.R.length n,.slice y S.way.length z,a] false):=by
 obtain⟨h1,h2,lb,tb,q,cap,ps,wv,r1,r2,r3,r4,r5,r6,r7,r8,r9⟩:=h
 obtain⟨a,c,e⟩:=r8.len
 rw[e]at r4
 exact⟨_,_,_,_,_,r4⟩
theorem xP.node {w:Nat→Nat}{H:aa}{t:Nat}{g:FuncId}{S:Tp}(h:xP w H t g S){i:Nat}{R:Rp}(hi:S.R[i]? =some R):
 ∃lb cap wv fv p cs ro,H.get t=some (.cells [.slice (some ⟨lb,0,none⟩) S.R.length cap,wv,fv] false)∧H.get lb=some (.cells cs ro)∧cs[i]? =some (.pointer (some ⟨p,0,none⟩))∧i+1≤cs.length∧wO (fun b=>w b=6+i) H p R:=by
 obtain⟨h1,h2,lb,tb,q,cap,ps,wv,r1,r2,r3,r4,r5,r6,r7,r8,r9⟩:=h
 have hl:=(List.getElem?_eq_some_iff.1 hi).1
 have hp:ps[i]? =some ps[i]:=List.getElem?_eq_getElem (by omega)
 obtain⟨b,o,cap',cs,ro,e,hb,hg,_,hrow,hbd⟩:=r7.at (i:=i) (r:=Dg ps[i]) (by rw[List.getElem?_map,hp];rfl)
 simp only[Value.slice.injEq,Option.some.injEq,Addr.mk.injEq]at e
 obtain⟨⟨rfl,rfl,-⟩,-⟩:=e
 have e0:=Dy hrow 0 (by omega)
 simp only[Dg,List.getElem?_cons_zero,Nat.zero_add,Nat.mul_one,Nat.add_zero]at e0
 exact⟨lb,cap,wv,_,ps[i],cs,ro,r4,hg,e0,by omega,r9 i _ R hp hi⟩
theorem wO.congr {B B':Nat→Prop}{H:aa}{p:Nat}{R:Rp}(h:wO B H p R)(k: ∀b,B' b↔B b):wO B' H p R:=by
 obtain⟨pa,pp,pl,Xa,Xp,Xl,h1,h2⟩:=h
 exact⟨pa,pp,pl,Xa,Xp,Xl,h1,fun b=>(k b).trans (h2 b)⟩
open Classical in
noncomputable def lab (w:Nat→Nat)(i:Nat)(B' D2:Nat→Prop)(q' nx b:Nat):Nat:=
 if B' b then 6+i else if w b=6+i then 0 else if D2 b then 5 else if b=q'∧q'<nx then 4 else if w b=4 then 0 else w b
def Tp.say (S:Tp)(i:Nat)(r:Rp×List az):Tp:=⟨S.R.set i r.1,DX S.way r.2⟩
def Tn (w:Nat→Nat)(H:aa)(t:Nat)(g:FuncId)(S':Tp)(H':aa):Prop:=∃w',Fr (fun b=>w b≠0) H H'∧(∀b,w' b≠0→w b≠0∨H.next≤b)∧(∀b,w b=5→w' b=5)∧xP w' H' t g S'
theorem xP.next {w:Nat→Nat}{H H1:aa}{t:Nat}{g:FuncId}{S:Tp}{i p:Nat}{R':Rp}{B':Nat→Prop}(h:xP w H t g S)(hi:i<S.R.length)(hp: ∃lb cap wv fv cs ro,H.get t=some (.cells [.slice (some ⟨lb,0,none⟩) S.R.length cap,wv,fv] false)∧H.get lb=some (.cells cs ro)∧cs[i]? =some (.pointer (some ⟨p,0,none⟩)))
 (f:Fr (fun b=>w b=6+i) H H1) (hB: ∀b,B' b→w b=6+i∨H.next≤b) (hr:wO B' H1 p R'):
 ∃q lv wv fv,H1.get t=some (.cells [lv,wv,fv] false)∧oC q (fun b=>w b=5) H1 wv S.way∧q≠t∧(∀b,w b=5→b≠t∧b≠q)∧(∀b,H.next≤b→b<H1.next→b≠t∧b≠q) ∧
  ∀(D2:Nat→Prop) (QS:List az) (wv':Value) (q':Nat) (H2:aa),(∀b,D2 b→H.next≤b∧b<H1.next∧¬ B' b)→Fr (fun b=>b=t∨b=q) H1 H2→H2.get t=some (.cells [lv,wv',fv] false) →
   oC q' (fun b=>w b=5∨D2 b) H2 wv' QS→(q'=q∨H1.next≤q')→Tn w H t g ⟨S.R.set i R',QS⟩ H2:=by
 obtain⟨h1,h2,lb,tb,q0,cap,ps,wv,r1,r2,r3,r4,r5,r6,r7,r8,r9⟩:=h
 obtain⟨lb',cap',wv',fv',cs,ro,e1,e2,e3⟩:=hp
 rw[r4]at e1
 simp only[Option.some.injEq,fK.cells.injEq,List.cons.injEq,Value.slice.injEq,Addr.mk.injEq,and_true,true_and]at e1
 obtain⟨⟨rfl,rfl⟩,rfl,rfl⟩:=e1
 have hps:ps[i]? =some p:=by
  have hpi:ps[i]? =some ps[i]:=List.getElem?_eq_getElem (by omega)
  obtain⟨b,o,cap',cs',ro',e,hb,hg,_,hrow,hbd⟩:=r7.at (i:=i) (r:=Dg ps[i]) (by rw[List.getElem?_map,hpi];rfl)
  simp only[Value.slice.injEq,Option.some.injEq,Addr.mk.injEq]at e
  obtain⟨⟨rfl,rfl,-⟩,-⟩:=e
  have e0:=Dy hrow 0 (by omega)
  rw[e2]at hg
  simp only[Option.some.injEq,fK.cells.injEq]at hg
  obtain⟨rfl,rfl⟩:=hg
  simp only[Dg,List.getElem?_cons_zero,Nat.zero_add,Nat.mul_one,Nat.add_zero]at e0
  rw[e0]at e3
  simp only[Option.some.injEq,Value.pointer.injEq,Addr.mk.injEq,and_true]at e3
  rw[hpi,e3]
 have nf:=f.next
 have tl:=h1 t (by omega)
 have w8: ∃q,oC q (fun b=>w b=5) H1 wv S.way∧q≠t∧w q≠5∧(w q=4∨H1.next≤q):=by
  rcases r3 with r3|rfl
  ·exact⟨q0,r8.fr f (by omega) (fun b hb=>by omega),fun e=>by rw[e]at r3;omega,by omega,.inl r3⟩
  ·have hq:w H1.next=0:=Classical.byContradiction fun hh=>by have:=h1 _ hh;omega
   refine⟨H1.next,?_,by omega,by omega,.inr (Nat.le_refl _)⟩
   have:=r8.fr' f (fun b hb=>by omega)
   obtain⟨us,z1,z2,z3⟩:=this
   refine⟨us,z1,?_,z3⟩
   rcases z2 with z2|⟨_,_,b,_⟩
   ·exact .inl z2
   ·simp at b
 obtain⟨q,w1,w2,w3,w4⟩:=w8
 refine⟨q,_,_,_,(f.get t tl (by omega)).trans r4,w1,w2,fun b hb=>⟨fun e=>by rw[e]at hb;omega,fun e=>w3 (e▸hb)⟩,
  fun b hb hb2=>⟨by omega,fun e=>by rcases w4 with w4|w4;have:=h1 q (by omega);omega;omega⟩,fun D2 QS wv' q' H2 hD f2 g2 wd hq'=> ?_⟩
 have n2:=f2.next
 have hB1:=hr.lt
 have hq2:w q=4→q<H.next:=fun e=>h1 q (by omega)
 have hBq: ¬ B' q:=fun hh=>by
  rcases hB q hh with z|z
  ·rcases w4 with w4|w4
   ·omega
   ·have:=hB1 q hh;omega
  ·rcases w4 with w4|w4
   ·have:=hq2 w4;omega
   ·have:=hB1 q hh;omega
 have qcd: ¬ B' q':=fun hh=>by
  rcases hq' with rfl|z
  ·exact hBq hh
  ·have:=hB1 q' hh;omega
 have hBt: ¬ B' t:=fun hh=>by rcases hB t hh with z|z <;> omega
 have hold: ∀b,w b≠0→w b≠6+i→¬ B' b:=fun b hb hn hh=>by rcases hB b hh with z|z;exact hn z;have:=h1 b hb;omega
 have qbt: ∀b,b<H1.next→b≠t→b≠q→H2.get b=H1.get b:=fun b hb x y=>f2.get b hb (by simp[x,y])
 obtain⟨W,hW⟩: ∃W,W=lab w i B' D2 q' H2.next:=⟨_,rfl⟩
 have qaI: ∀b,w b≠0→w b≠4→b≠q':=fun b hb hn e=>by
  have:=h1 b hb
  rcases hq' with rfl|z
  ·rcases w4 with w4|w4
   ·rw[e]at hn;exact hn w4
   ·omega
  ·omega
 have keep: ∀b,w b≠0→w b≠6+i→w b≠4→W b=w b:=fun b a1 a2 a3=>by
  rw[hW];unfold lab
  have:=h1 b a1
  rw[if_neg (hold b a1 a2),if_neg a2,if_neg (fun hd=>by have:=hD b hd;omega),if_neg (fun e=>qaI b a1 a3 e.1),if_neg a3]
 have other: ∀(b j:Nat),j≠i→(W b=6+j↔w b=6+j):=fun b j hj=>by
  rw[hW];unfold lab
  constructor
  ·intro hh
   split at hh
   ·omega
   split at hh
   ·omega
   split at hh
   ·omega
   split at hh
   ·omega
   split at hh
   ·omega
   ·exact hh
  ·intro hh
   have:=h1 b (by omega)
   rw[if_neg (hold b (by omega) (by omega)),if_neg (by omega),if_neg (fun hd=>by have:=hD b hd;omega),if_neg (fun e=>qaI b (by omega) (by omega) e.1),if_neg (by omega)]
   exact hh
 have mine: ∀b,(W b=6+i↔B' b):=fun b=>by
  rw[hW];unfold lab
  constructor
  ·intro hh
   split at hh
   ·assumption
   split at hh
   ·omega
   split at hh
   ·omega
   split at hh
   ·omega
   split at hh
   ·omega
   ·rename_i a1 a2 a3 a4 a5
    exact absurd hh a2
  ·intro hh;rw[if_pos hh]
 have five: ∀b,(W b=5↔w b=5∨D2 b):=fun b=>by
  rw[hW];unfold lab
  constructor
  ·intro hh
   split at hh
   ·omega
   split at hh
   ·omega
   split at hh
   ·rename_i z;exact .inr z
   split at hh
   ·omega
   split at hh
   ·omega
   ·exact .inl hh
  ·rintro(hh|hh)
   ·have:=h1 b (by omega)
    by_cases hd:D2 b
    ·have:=hD b hd;omega
    ·rw[if_neg (hold b (by omega) (by omega)),if_neg (by omega),if_neg hd,if_neg (fun e=>qaI b (by omega) (by omega) e.1),if_neg (by omega)]
     exact hh
   ·have:=hD b hh
    have hwb: ¬ w b=6+i:=fun e=>by have:=h1 b (by omega);omega
    rw[if_neg this.2.2,if_neg hwb,if_pos hh]
 have fall:Fr (fun b=>w b≠0) H H2:=by
  refine⟨by omega,fun b hb hn=> ?_⟩
  have hw0:w b=0:=Classical.byContradiction hn
  rw[f2.get b (by omega) (fun e=>by rcases e with e|e;rw[e]at hw0;omega;rcases w4 with w4|w4;rw[e]at hw0;omega;omega),f.get b hb (by omega)]
 have lbn:lb<H.next:=h1 lb (by omega)
 have tbn:tb<H.next:=h1 tb (by omega)
 have qaJ: ∀b,w b≠0→w b≠4→b≠q:=fun b hb hn e=>by
  have:=h1 b hb
  rcases w4 with w4|w4
  ·rw[e]at hn;exact hn w4
  ·omega
 refine⟨W,fall,fun b hb=> ?_,fun b hb=>(five b).2 (.inl hb),⟨fun b hb=> ?_,(keep t (by omega) (by omega) (by omega)).trans h2,lb,tb,q',cap,ps,wv',(keep lb (by omega) (by omega) (by omega)).trans r1,(keep tb (by omega) (by omega) (by omega)).trans r2,?_,?_,?_,?_,?_,wd.weak fun b hb=>(five b).2 hb,fun j p' R'' hp' hR=> ?_⟩⟩
 ·rw[hW]at hb;unfold lab at hb
  split at hb
  ·rename_i z;rcases hB b z with z|z
   ·left;omega
   ·exact .inr z
  split at hb
  ·omega
  split at hb
  ·rename_i z;exact .inr (hD b z).1
  split at hb
  ·rename_i z
   rcases hq' with e|e
   ·rcases w4 with w4|w4
    ·left;rw[z.1,e];omega
    ·right;omega
   ·right;omega
  split at hb
  ·omega
  ·exact .inl hb
 ·rw[hW]at hb;unfold lab at hb
  split at hb
  ·rename_i z;have:=hB1 b z;omega
  split at hb
  ·omega
  split at hb
  ·rename_i z;have:=hD b z;omega
  split at hb
  ·rename_i z;omega
  split at hb
  ·omega
  ·have:=h1 b hb;omega
 ·obtain⟨us,z1,z2,z3⟩:=wd
  rcases z2 with z2|⟨cs,z2,_⟩
  ·exact .inr z2.2
  ·left
   rw[hW];unfold lab
   have a1: ¬ w q'=6+i:=fun e=>by
    rcases hq' with rfl|z
    ·rcases w4 with w4|w4
     ·omega
     ·have:=h1 q' (by omega);omega
    ·have:=h1 q' (by omega);omega
   have a2: ¬ D2 q':=fun e=>by
    have e:=hD q' e
    rcases hq' with rfl|z
    ·rcases w4 with w4|w4
     ·have:=hq2 w4;omega
     ·omega
    ·omega
   rw[if_neg qcd,if_neg a1,if_neg a2,if_pos ⟨rfl,z2⟩]
 ·show H2.get t=some (.cells [.slice _ (S.R.set i R').length _,_,_] false);rw[List.length_set];exact g2
 ·exact(qbt tb (by omega) (fun e=>by rw[e]at r2;omega) (qaJ tb (by omega) (by omega))).trans ((f.get tb tbn (by omega)).trans r5)
 ·show ps.length=(S.R.set i R').length;rw[List.length_set];exact r6
 ·show qJ H2 1 (.slice _ (S.R.set i R').length _) _;rw[List.length_set]
  exact(r7.fr f (by omega)).fr f2 fun e=>by rcases e with e|e;rw[e]at r1;omega;exact qaJ lb (by omega) (by omega) e
 ·by_cases hj:j=i
  ·subst hj
   rw[hps]at hp'
   injection hp' with hp'
   subst hp'
   simp only at hR
   rw[List.getElem?_set_self hi]at hR
   injection hR with hR
   subst hR
   exact(hr.fr f2 fun b hb e=>by rcases e with e|e;exact hBt (e▸hb);exact hBq (e▸hb)).congr mine
  ·unfold Tp.say at hR
   rw[List.getElem?_set_ne (Ne.symm hj)]at hR
   exact(((r9 j p' R'' hp' hR).fr f (fun b hb=>by omega)).fr f2 fun b hb e=>by rcases e with e|e;rw[e]at hb;omega;exact qaJ b (by omega) (by omega) e).congr fun b=>other b j hj
section
variable (c:Ctx) (hc:jm c) {H:aa} {K:Value→aa→Prop} {w:Nat→Nat} {t:Nat} {g:FuncId} {S:Tp}
include hc in
theorem OM {H1:aa}{i p:Nat}{R':Rp}{m:List az}{u:Value}{B':Nat→Prop}(h:xP w H t g S)(hi:i<S.R.length)(hp: ∃lb cap wv fv cs ro,H.get t=some (.cells [.slice (some ⟨lb,0,none⟩) S.R.length cap,wv,fv] false)∧H.get lb=some (.cells cs ro)∧cs[i]? =some (.pointer (some ⟨p,0,none⟩)))
 (hl:S.way.length≤1024) (hml:m.length≤7168) (f:Fr (fun b=>w b=6+i) H H1) (hB: ∀b,B' b→w b=6+i∨H.next≤b) (hr:wO B' H1 p R') (hm:gB (fun b=>H.next≤b∧b<H1.next∧¬ B' b) H1 u m)
 (hK: ∀H',Tn w H t g (S.say i (R',m)) H'→K (.tuple #[]) H'):c.C (c.F yl) [.pointer (some ⟨t,1,none⟩),u] H1 K:=by
 obtain⟨q,lv,wv,fv,a1,a2,a3,a4,a5,a6⟩:=h.next hi hp f hB hr
 have tl:=h.lt t (by have:=h.own;omega)
 have nf:=f.next
 exact WQ c hc (by omega) a1 a2 hm.ms hl hml a3 a4 (fun b hb=>a5 b hb.1 hb.2.1) fun wv' q' H2 f2 g2 wd hq'=>hK H2 (a6 _ _ wv' q' H2 (fun b hb=>hb) f2 g2 wd hq')
end
end
end Go.Proofs.YtpbbjfighohokaaGreatI
