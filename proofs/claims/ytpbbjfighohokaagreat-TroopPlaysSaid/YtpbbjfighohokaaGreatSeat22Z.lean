/- PRINTED by gen.py: the seat's own numbers; the context; that it has the functions. -/
import Derived.Test.YtpbbjfighohokaaGreatRows
import Derived.KernelRfl
import Derived.Test.YtpbbjfighohokaaGreatDcLaw
import Derived.Test.YtpbbjfighohokaaGreatBalC
import Derived.Test.YtpbbjfighohokaaGreatBalA
namespace Go.Proofs.YtpbbjfighohokaaGreatI
set_option linter.unusedSimpArgs false
set_option linter.unusedVariables false
open Go
def XB:Nat→FuncId:=fun i=>[0,129,112,111,84,83,107,80,127,106,0,0,0,132,123,122,125,124,24,131,0,0,0,0,0,0,0,0,0,0,0,0,0,0,0,0,0,0,0,0,0,0,0,0,0,0,0,0,0,0,0,0,0,0,0,0,0,0,0,0,0,0,0,0,0,0,0,0,0,0,13,0,0,0,0,0,0,0,0,0,0,46,0,54,56,105,90,71,73,88,89,91,0,0,0,0,0,0,0,0,0,0,0,0,0,0,0,0,0,0,0,0,0,0,0,0,0,0,0,0,0,0,0,0,0,0,0,0,0,0,0,0,0,0,0,0,0,0,0,0,0,0,0,0,0,0,0,0,0,0,0,0,0,0,0,0,0,0,0,0,0,0,0,0,0,0,0,0,0,0,0,0,0,0,0,0,0,44,86,114,85,76,52,0,75,108,104,87,128,113,115,116,126,121,101,97,0,0,0,0,0,0,0,0,0,0,0,0,0,0,0,0,0,0,0,0,0,0,0,0,0,0,0,0,0,0,0,0,0,0,0,0,0,0,0,0,0,0,0,0,0,0,0,0,0,0,0,0,0,0,0,0,0,0,0,0,0,0,0,0,0,0,0,0,0,0,0,0,0,0,0,0,0,0,0,45,74,110,81,72,109,82,78,51,0,0,0,0,20,23,68,41,42,67,0,39,0,40,47,49,50,53,55,77,48,0,0,0,0,0,0,6,21,16,18,35,19,33,34,36,14,10,15,38,22,66,43,79,0,0,0,0,5,17,4,9,61,57,100,102,117,118,120,58,37,69,70,95,99,119,25,12,59,62,63,64,65,92,93,94,96,98,103,7,11,26,27,28,29,30,31,32,60,3,8,0,0,0,0,0,0,0,0,0,0,0,0,0,0,0,0,0,0,0,0,0,0,0,0,0,0,0,0,0,0,0,0,0,0,0,0,0,0,0,0,0,0,0,0,0,0,0,0,0,0,0].getD i 0
def Td:Nat→TypeId:=fun i=>[0,9,3,159,162,161,0,102,103,107,112,114,116].getD i 0
noncomputable def Ia:Ctx:=⟨Tryz.prog,pQ Tryz.prog,Nf 115,XB,Td,xQ _⟩
noncomputable def af:Ctx:=⟨Tryz.prog,pQ Tryz.prog,orX (Nf 115) (Oh Ia.C 87 4),XB,Td,QV (xQ _) (Iz Ia.mono _ _)⟩
theorem FY:af.IP (af.F 1)=some (qL af.F af.Ty):=by kernel_rfl
theorem Cv:af.IP (af.F 2)=some (nU af.F af.Ty):=by kernel_rfl
theorem Md:af.IP (af.F 3)=some (xu af.F af.Ty):=by kernel_rfl
theorem Me:af.IP (af.F 4)=some (xw af.F af.Ty):=by kernel_rfl
theorem Ib:af.IP (af.F 5)=some (rY af.F af.Ty):=by kernel_rfl
theorem Rm:iG af:=⟨FY,Cv,Md,Me,Ib⟩
theorem FZ:af.IP (af.F 7)=some (qM af.F af.Ty):=by kernel_rfl
theorem xX:af.IP (af.F 18)=some (lu af.F af.Ty):=by kernel_rfl
theorem IG:bN af:=⟨FZ,xX⟩
theorem Cw:af.IP (af.F 14)=some (oD af.F af.Ty):=by kernel_rfl
theorem yN:af.IP (af.F 15)=some (mh af.F af.Ty):=by kernel_rfl
theorem Rn:dw af:=⟨Cw,yN⟩
theorem Kg:af.IP (af.F 6)=some (uB af.F af.Ty):=by kernel_rfl
theorem Mf:af.IP (af.F 9)=some (rf af.F af.Ty):=by kernel_rfl
theorem Cx:af.IP (af.F 8)=some (nV af.F af.Ty):=by kernel_rfl
theorem kK:af.IP (af.F 13)=some (dB af.F af.Ty):=by kernel_rfl
theorem Ro:qh af:=⟨Kg,Mf,Cx,kK⟩
theorem Ic:af.IP (af.F 275)=some (rZ af.F af.Ty):=by kernel_rfl
theorem sP:af.IP (af.F 276)=some (iO af.F af.Ty):=by kernel_rfl
theorem rE:af.IP (af.F 277)=some (dJ af.F af.Ty):=by kernel_rfl
theorem qE:af.IP (af.F 278)=some (aX af.F af.Ty):=by kernel_rfl
theorem rF:af.IP (af.F 279)=some (gU af.F af.Ty):=by kernel_rfl
theorem sS:af.IP (af.F 280)=some (iP af.F af.Ty):=by kernel_rfl
theorem sU:af.IP (af.F 281)=some (iQ af.F af.Ty):=by kernel_rfl
theorem qF:af.IP (af.F 282)=some (bV af.F af.Ty):=by kernel_rfl
theorem sV:af.IP (af.F 283)=some (iT af.F af.Ty):=by kernel_rfl
theorem Rq:ry af:=⟨Ic,sP,rE,qE,rF,sS,sU,qF,sV⟩
theorem vZ:af.IP (af.F 177)=some (sj af.F af.Ty):=by kernel_rfl
theorem lI:af.IP (af.F 178)=some (iU af.F af.Ty):=by kernel_rfl
theorem jA:af.IP (af.F 179)=some (di af.F af.Ty):=by kernel_rfl
theorem lU:af.IP (af.F 180)=some (jh af.F af.Ty):=by kernel_rfl
theorem jB:af.IP (af.F 181)=some (gy af.F af.Ty):=by kernel_rfl
theorem jT:af.IP (af.F 182)=some (gK af.F af.Ty):=by kernel_rfl
theorem jo:af.IP (af.F 184)=some (fT af.F af.Ty):=by kernel_rfl
theorem kW:af.IP (af.F 185)=some (gV af.F af.Ty):=by kernel_rfl
theorem lJ:af.IP (af.F 186)=some (iV af.F af.Ty):=by kernel_rfl
theorem dV:af.IP (af.F 187)=some (aR af.F af.Ty):=by kernel_rfl
theorem gT:af.IP (af.F 188)=some (bO af.F af.Ty):=by kernel_rfl
theorem dH:af.IP (af.F 189)=some (bP af.F af.Ty):=by kernel_rfl
theorem Te:pW af:=⟨vZ,lI,jA,lU,jB,jT,jo,kW,lJ,dV,gT,dH⟩
theorem Kh:af.IP (af.F 81)=some (uK af.F af.Ty):=by kernel_rfl
theorem uQ:af.IP (af.F 83)=some (jF af.F af.Ty):=by kernel_rfl
theorem uR:af.IP (af.F 84)=some (jG af.F af.Ty):=by kernel_rfl
theorem uS:af.IP (af.F 85)=some (jH af.F af.Ty):=by kernel_rfl
theorem uT:af.IP (af.F 86)=some (jI af.F af.Ty):=by kernel_rfl
theorem wh:af.IP (af.F 87)=some (jW af.F af.Ty):=by kernel_rfl
theorem uU:af.IP (af.F 88)=some (jJ af.F af.Ty):=by kernel_rfl
theorem wm:af.IP (af.F 89)=some (dP af.F af.Ty):=by kernel_rfl
theorem tT:af.IP (af.F 90)=some (ji af.F af.Ty):=by kernel_rfl
theorem sW:af.IP (af.F 91)=some (iW af.F af.Ty):=by kernel_rfl
theorem Mg:sF af:=⟨Kh,uQ,uR,uS,uT,wh,uU,wm,tT,sW⟩
theorem Ki:af.IP (af.F 288)=some (uL af.F af.Ty):=by kernel_rfl
theorem uV:af.IP (af.F 289)=some (jK af.F af.Ty):=by kernel_rfl
theorem tV:af.IP (af.F 290)=some (jk af.F af.Ty):=by kernel_rfl
theorem uW:af.IP (af.F 291)=some (jL af.F af.Ty):=by kernel_rfl
theorem rG:af.IP (af.F 292)=some (gW af.F af.Ty):=by kernel_rfl
theorem wo:af.IP (af.F 293)=some (jX af.F af.Ty):=by kernel_rfl
theorem wu:af.IP (af.F 295)=some (jY af.F af.Ty):=by kernel_rfl
theorem tX:af.IP (af.F 297)=some (jl af.F af.Ty):=by kernel_rfl
theorem uX:af.IP (af.F 298)=some (gz af.F af.Ty):=by kernel_rfl
theorem rJ:af.IP (af.F 299)=some (gY af.F af.Ty):=by kernel_rfl
theorem rM:af.IP (af.F 300)=some (gZ af.F af.Ty):=by kernel_rfl
theorem uY:af.IP (af.F 301)=some (jM af.F af.Ty):=by kernel_rfl
theorem uZ:af.IP (af.F 302)=some (jN af.F af.Ty):=by kernel_rfl
theorem wz:af.IP (af.F 303)=some (jZ af.F af.Ty):=by kernel_rfl
theorem Ie:af.IP (af.F 304)=some (bY af.F af.Ty):=by kernel_rfl
theorem Rs:OD af:=⟨Ki,uV,tV,uW,rG,wo,wu,tX,uX,rJ,rM,uY,uZ,wz,Ie⟩
theorem MM:af.IP (af.F 311)=some (zR af.F af.Ty):=by kernel_rfl
theorem Ig:af.IP (af.F 312)=some (sJ af.F af.Ty):=by kernel_rfl
theorem zZ:af.IP (af.F 313)=some (mR af.F af.Ty):=by kernel_rfl
theorem wB:af.IP (af.F 314)=some (j4 af.F af.Ty):=by kernel_rfl
theorem Cy:af.IP (af.F 315)=some (oq af.F af.Ty):=by kernel_rfl
theorem wC:af.IP (af.F 316)=some (j6 af.F af.Ty):=by kernel_rfl
theorem z8:af.IP (af.F 317)=some (mU af.F af.Ty):=by kernel_rfl
theorem xY:af.IP (af.F 318)=some (iK af.F af.Ty):=by kernel_rfl
theorem yO:af.IP (af.F 319)=some (l6 af.F af.Ty):=by kernel_rfl
theorem Cz:af.IP (af.F 320)=some (ow af.F af.Ty):=by kernel_rfl
theorem wD:af.IP (af.F 321)=some (kg af.F af.Ty):=by kernel_rfl
theorem yP:af.IP (af.F 322)=some (l7 af.F af.Ty):=by kernel_rfl
theorem Aa:af.IP (af.F 323)=some (gN af.F af.Ty):=by kernel_rfl
theorem F5:af.IP (af.F 324)=some (qO af.F af.Ty):=by kernel_rfl
theorem Ih:af.IP (af.F 325)=some (oz af.F af.Ty):=by kernel_rfl
theorem F6:af.IP (af.F 326)=some (qP af.F af.Ty):=by kernel_rfl
theorem mI:af.IP (af.F 327)=some (eH af.F af.Ty):=by kernel_rfl
theorem F7:jm af:=⟨MM,Ig,zZ,wB,Cy,wC,z8,xY,yO,Cz,wD,yP,Aa,F5,Ih,F6,mI⟩
theorem yQ:af.IP (af.F 70)=some (jf af.F af.Ty):=by kernel_rfl
theorem F8:Fh af:=⟨yQ⟩
theorem yR:af.IP (af.F 332)=some (mg af.F af.Ty):=by kernel_rfl
theorem wE:af.IP (af.F 333)=some (ko af.F af.Ty):=by kernel_rfl
theorem CB:af.IP (af.F 334)=some (kS af.F af.Ty):=by kernel_rfl
theorem Er:af.IP (af.F 335)=some (dh af.F af.Ty):=by kernel_rfl
theorem F9:vU af:=⟨yR,wE,CB,Er⟩
theorem sZ:af.IP (af.F 373)=some (iZ af.F af.Ty):=by kernel_rfl
theorem Ab:af.IP (af.F 374)=some (bU af.F af.Ty):=by kernel_rfl
theorem MN:HV af:=⟨sZ,Ab⟩
theorem CE:af.IP (af.F 17)=some (oF af.F af.Ty):=by kernel_rfl
theorem Ac:af.IP (af.F 16)=some (mV af.F af.Ty):=by kernel_rfl
theorem Ad:af.IP (af.F 19)=some (mW af.F af.Ty):=by kernel_rfl
theorem Es:af.IP (af.F 336)=some (p8 af.F af.Ty):=by kernel_rfl
theorem Pp:dS af:=⟨CE,Ac,Ad,Es⟩
theorem xZ:af.IP (af.F 195)=some (lG af.F af.Ty):=by kernel_rfl
theorem wF:af.IP (af.F 194)=some (kr af.F af.Ty):=by kernel_rfl
theorem CF:af.IP (af.F 193)=some (oG af.F af.Ty):=by kernel_rfl
theorem yS:af.IP (af.F 192)=some (mo af.F af.Ty):=by kernel_rfl
theorem Pq:eF af:=⟨xZ,wF,CF,yS⟩
theorem CG:af.IP (af.F 337)=some (oI af.F af.Ty):=by kernel_rfl
theorem Ae:af.IP (af.F 338)=some (mY af.F af.Ty):=by kernel_rfl
theorem wG:af.IP (af.F 339)=some (dQ af.F af.Ty):=by kernel_rfl
theorem wH:af.IP (af.F 340)=some (bD af.F af.Ty):=by kernel_rfl
theorem Af:af.IP (af.F 341)=some (fu af.F af.Ty):=by kernel_rfl
theorem Ag:af.IP (af.F 342)=some (mZ af.F af.Ty):=by kernel_rfl
theorem Pt:dU af:=⟨CG,Ae,wG,wH,Af,Ag⟩
theorem CJ:af.IP (af.F 343)=some (oJ af.F af.Ty):=by kernel_rfl
theorem CK:af.IP (af.F 344)=some (oK af.F af.Ty):=by kernel_rfl
theorem Ah:af.IP (af.F 345)=some (ni af.F af.Ty):=by kernel_rfl
theorem Ai:af.IP (af.F 346)=some (nk af.F af.Ty):=by kernel_rfl
theorem Aj:af.IP (af.F 347)=some (ny af.F af.Ty):=by kernel_rfl
theorem Ak:af.IP (af.F 348)=some (gP af.F af.Ty):=by kernel_rfl
theorem CL:af.IP (af.F 349)=some (oL af.F af.Ty):=by kernel_rfl
theorem Pv:eG af:=⟨CJ,CK,Ah,Ai,Aj,Ak,CL⟩
theorem CO:af.IP (af.F 350)=some (oM af.F af.Ty):=by kernel_rfl
theorem CP:af.IP (af.F 351)=some (oN af.F af.Ty):=by kernel_rfl
theorem Al:af.IP (af.F 352)=some (aW af.F af.Ty):=by kernel_rfl
theorem Am:af.IP (af.F 353)=some (nC af.F af.Ty):=by kernel_rfl
theorem wI:af.IP (af.F 354)=some (ku af.F af.Ty):=by kernel_rfl
theorem CQ:af.IP (af.F 355)=some (iL af.F af.Ty):=by kernel_rfl
theorem yT:af.IP (af.F 356)=some (mq af.F af.Ty):=by kernel_rfl
theorem wJ:af.IP (af.F 357)=some (kz af.F af.Ty):=by kernel_rfl
theorem wK:af.IP (af.F 358)=some (kD af.F af.Ty):=by kernel_rfl
theorem Ao:af.IP (af.F 359)=some (jO af.F af.Ty):=by kernel_rfl
theorem Ap:af.IP (af.F 360)=some (nD af.F af.Ty):=by kernel_rfl
theorem CR:af.IP (af.F 361)=some (oO af.F af.Ty):=by kernel_rfl
theorem x9:af.IP (af.F 362)=some (lH af.F af.Ty):=by kernel_rfl
theorem Pw:fM af:=⟨CO,CP,Al,Am,wI,CQ,yT,wJ,wK,Ao,Ap,CR,x9⟩
theorem CS:af.IP (af.F 363)=some (oP af.F af.Ty):=by kernel_rfl
theorem Aq:af.IP (af.F 364)=some (gQ af.F af.Ty):=by kernel_rfl
theorem wL:af.IP (af.F 365)=some (kF af.F af.Ty):=by kernel_rfl
theorem Ar:af.IP (af.F 366)=some (jP af.F af.Ty):=by kernel_rfl
theorem yc:af.IP (af.F 367)=some (fO af.F af.Ty):=by kernel_rfl
theorem Au:af.IP (af.F 368)=some (nE af.F af.Ty):=by kernel_rfl
theorem wM:af.IP (af.F 369)=some (kG af.F af.Ty):=by kernel_rfl
theorem CU:af.IP (af.F 370)=some (oQ af.F af.Ty):=by kernel_rfl
theorem yU:af.IP (af.F 371)=some (mD af.F af.Ty):=by kernel_rfl
theorem CV:af.IP (af.F 372)=some (oU af.F af.Ty):=by kernel_rfl
theorem Px:mH af:=⟨CS,Aq,wL,Ar,yc,Au,wM,CU,yU,CV⟩
theorem NL:Tryz.prog.follows .mixedOrders=true:=by kernel_rfl
theorem Rt:pW Ia:=⟨vZ,lI,jA,lU,jB,jT,jo,kW,lJ,dV,gT,dH⟩
theorem Ru:vE Tryz.prog (Nf 115):=Ul (fn:=Tryz.f115) (tS:=43) (tR:=4) (e:=105) (size:=4) (by kernel_rfl) (by kernel_rfl) (by kernel_rfl) (by kernel_rfl) (by kernel_rfl) (by kernel_rfl) (by kernel_rfl)
set_option maxRecDepth 100000 in
theorem XC:vE Tryz.prog Ia.C:=Na NL (fun _ _ h=>h) Ru (xQ _)
set_option maxRecDepth 100000 in
theorem ZK:vE Tryz.prog af.C:=Na NL (fun _ _ h=>h) (Zu Ru (Sd (code:=aR XB Td) XC dV (by omega))) (QV (xQ _) (Iz Ia.mono _ _))
set_option maxRecDepth 100000 in
theorem Vh:TD af:=fun H K q vb i u rows new h1 h2 h3 h4 h5 h6 h7 h8 h9 h10 hK=>
 qau af Ia Rt
  (fun H K b1 o1 n1 c1 b2 o2 n2 c2 cs1 cs2 q1 q2 q3 q4 q5 q6 q7 q8=>jr.ext ⟨rfl,b1,o1,n1,c1,b2,o2,n2,c2,cs1,cs2,rfl,q1,q2,q3,q4,q5,q6,q7,q8⟩)
  (fun s r H K h=>jr.ext (.inr ⟨rfl,s,r,rfl,h⟩)) h1 h2 h3 h4 h5 h6 h7 h8 h9 h10 hK
theorem XD:Ox af:=⟨by kernel_rfl⟩
def rho (x y:Value):Operand→Value
 | .tmp _=>x
 |_=>y
theorem Rv {ρ:Operand→Value}{t ty:TypeId}{n:Nat}{k:Value}:execOp ρ ⟨none,.binOp .add t (.tmp n) (.const k) t,ty, "",#[],none⟩=execOp (rho (ρ (.tmp n)) (ρ (.const k))) ⟨none,.binOp .add t (.tmp n) (.const k) t,ty, "",#[],none⟩:=rfl
theorem Vi {ρ:Operand→Value}{t ty:TypeId}:execOp ρ ⟨none,.call ⟨.builtin .real,#[.tmp 65],#[t]⟩,ty, "",#[],none⟩=(execOp (rho (ρ (.tmp 65)) (ρ (.tmp 65))) ⟨none,.call ⟨.builtin .real,#[.tmp 65],#[t]⟩,ty, "",#[],none⟩):=by kernel_rfl
theorem Vj {ρ:Operand→Value}{t u ty:TypeId}{n:Nat}:execOp ρ ⟨none,.convert t u (.tmp n),ty, "",#[],none⟩=execOp (rho (ρ (.tmp n)) (ρ (.tmp n))) ⟨none,.convert t u (.tmp n),ty, "",#[],none⟩:=rfl
theorem qa0:tZ af.P (af.Ty 2) kI:=keyOf_int (k:=.i64) (by kernel_rfl)
theorem qa1:tZ af.P (af.Ty 3) kP:=keyOf_pair (by kernel_rfl) (by kernel_rfl) (fun e a b=>by kernel_rfl)
theorem Tf:LB af:=⟨qa0,qa1⟩
set_option maxRecDepth 100000 in
theorem ZL: ∀a b:Nat,a≤6→b≤6→aB af.P (execOp (rho (cx a b) (.complex .f64 0 4607182418800017408)) ⟨none,.binOp .add (af.Ty 4) (.tmp 29) (.const (.complex .f64 0 4607182418800017408)) (af.Ty 4),af.Ty 4, "",#[],none⟩)=some (.value (cx a (b+1))):=by
 intro a b ha hb
 rcases(by omega:a=0∨a=1∨a=2∨a=3∨a=4∨a=5∨a=6)with rfl|rfl|rfl|rfl|rfl|rfl|rfl <;> rcases(by omega:b=0∨b=1∨b=2∨b=3∨b=4∨b=5∨b=6)with rfl|rfl|rfl|rfl|rfl|rfl|rfl <;> kernel_rfl
set_option maxRecDepth 100000 in
theorem ZM: ∀a b:Nat,a≤6→b≤7→aB af.P (execOp (rho (cx a b) (.complex .f64 4607182418800017408 0)) ⟨none,.binOp .add (af.Ty 4) (.tmp 34) (.const (.complex .f64 4607182418800017408 0)) (af.Ty 4),af.Ty 4, "",#[],none⟩)=some (.value (cx (a+1) b)):=by
 intro a b ha hb
 rcases(by omega:a=0∨a=1∨a=2∨a=3∨a=4∨a=5∨a=6)with rfl|rfl|rfl|rfl|rfl|rfl|rfl <;> rcases(by omega:b=0∨b=1∨b=2∨b=3∨b=4∨b=5∨b=6∨b=7)with rfl|rfl|rfl|rfl|rfl|rfl|rfl|rfl <;> kernel_rfl
set_option maxRecDepth 100000 in
theorem qa2: ∀a b:Nat,a≤7→b≤7→aB af.P (execOp (rho (cx a b) (cx a b)) ⟨none,.call ⟨.builtin .real,#[.tmp 65],#[af.Ty 4]⟩,af.Ty 5, "",#[],none⟩)=some (.value (.float .f64 (fl a))):=by
 intro a b ha hb
 rcases(by omega:a=0∨a=1∨a=2∨a=3∨a=4∨a=5∨a=6∨a=7)with rfl|rfl|rfl|rfl|rfl|rfl|rfl|rfl <;> rcases(by omega:b=0∨b=1∨b=2∨b=3∨b=4∨b=5∨b=6∨b=7)with rfl|rfl|rfl|rfl|rfl|rfl|rfl|rfl <;> kernel_rfl
theorem ZN: ∀a:Nat,a≤7→aB af.P (execOp (rho (.float .f64 (fl a)) (.float .f64 (fl a))) ⟨none,.convert (af.Ty 5) (af.Ty 2) (.tmp 66),af.Ty 2, "",#[],none⟩)=some (.value (.int .i64 a)):=by
 intro a ha
 rcases(by omega:a=0∨a=1∨a=2∨a=3∨a=4∨a=5∨a=6∨a=7)with rfl|rfl|rfl|rfl|rfl|rfl|rfl|rfl <;> kernel_rfl
theorem Tg:OC af:=by
 refine⟨fun ρ a b ha hb h1 h2=> ?_,fun ρ a b ha hb h1 h2=> ?_,fun ρ a b ha hb h1=> ?_,fun ρ a ha h1=> ?_⟩
 ·rw[Rv,h1,h2];exact ZL a b ha hb
 ·rw[Rv,h1,h2];exact ZM a b ha hb
 ·rw[Vi,h1];exact qa2 a b ha hb
 ·rw[Vj,h1];exact ZN a ha
theorem ZO:List.Nodup [af.Ty 7,af.Ty 8,af.Ty 9,af.Ty 10,af.Ty 11,af.Ty 12]:=of_decide_eq_true (by kernel_rfl)
theorem qad:qV af:=⟨Rm,IG,Ro,Rq,XD,Te,Vh,Mg,Tf,Tg,Rs,ZO⟩
theorem qa3 (H:aa)(K:Value→aa→Prop)(h: ∀H',K (.bool true) H'):af.C (af.F l9) [] H K:=Zr af F7 qad F8 F9 h
end Go.Proofs.YtpbbjfighohokaaGreatI
