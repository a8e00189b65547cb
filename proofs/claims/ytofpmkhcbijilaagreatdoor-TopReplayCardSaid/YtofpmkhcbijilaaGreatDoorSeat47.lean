/- PRINTED by gen.py: the seat's own numbers; the context; that it has the functions. -/
import Derived.Test.YtofpmkhcbijilaaGreatDoorRows
import Derived.KernelRfl
import Derived.Test.YtofpmkhcbijilaaGreatDoorDecode47
import Derived.Test.YtofpmkhcbijilaaGreatDoorDirET
import Derived.Test.YtofpmkhcbijilaaGreatDoorAwW
namespace Go.Proofs.YtofpmkhcbijilaaGreatDoorI
open Go
set_option linter.unusedSimpArgs false
set_option linter.unusedVariables false
def qbJ:Nat→FuncId:=fun i=>[0,168,108,263,0,0,0,0,0,0,0,0,0,0,0,0,0,0,0,0,0,0,0,0,0,0,23,177,38,24,26,29,236,35,32,30,136,37,0,235,68,66,67,74,280,76,78,79,75,34,155,0,77,208,0,0,0,0,0,0,0,0,0,0,0,0,0,0,0,0,0,0,0,0,0,0,0,0,0,0,0,0,0,0,0,0,0,0,0,0,0,0,0,0,0,0,0,98,183,0,286,0,0,294,295,298,0,0,159,160,193,215,0,0,0,0,0,0,0,0,0,0,0,0,0,0,0,0,0,0,0,0,99,318,350,285,250,287,289,194,0,0,297,185,128,195,296,326,401,0,0,0,0,251,127,0,0,0,0,0,0,0,0,0,0,0,0,0,0,0,0,0,0,0,0,0,0,0,0,0,0,0,0,0,0,0,0,0,0,0,0,0,0,0,0,0,0,0,0,0,0,0,0,0,65,199,266,265,198,264,306,137,144,139,138,145,396,69,200,204,339,267,268,0,0,0,0,0,0,0,0,0,0,0,0,0,0,101,321,355,352,319,320,288,325,293,290,0,0,0,0,403,353,322,0,354,351,367,368,0,0,0,0,0,0,0,0,0,0,0,0,0,0,0,0,0,0,0,0,0,0,0,0,0,0,0,0,0,0,0,0,0,0,0,0,0,0,0,0,0,0,0,0,0,0,0,0,0,0,0,0,0,0,0,0,0,0,0,0,0,0,0,0,0,0,0,0,0,0,0,0,0,0,0,0,0,0,0,0,0,0,0,0,0,0,0,0,0,0,0,0,0,0,0,0,0,0,0,0,0,0,0,0,0,0,0,0,0,0,0,0,0,0,0,0,103,237,238,282,180,182,239,281,283,284,100,323,324,291,292,102,299,300,41,176,116,179,178,117,181,118,122,0,0,119,62,240,241,242,243,244,245,246,247,248,0,0,0,0,0,0,0,0,0,0,0,202,146,269,308,342,343,362,205,150,206,207,341,359,361,371,372,373,270,22,8,28,31,33,7,25,27,70,71,72,73,80,81,82,83,84,85,87,89,91,140,141,142,143,147,148,149,151,152,153,154,201,203,393,394,395,397,398,399,6,9,10,11,36,39,86,88,90,92,94,93,95,3,4,5].getD i 0
def U9:Nat→TypeId:=fun i=>[0,9,3,0,0,0,463,0,0,0,0,0,0,135,143,0,4,83,86,88,91].getD i 0
noncomputable def M4:Ctx:=⟨Tryz.prog,jF Tryz.prog,Ry 267,qbJ,U9,LF _⟩
noncomputable def VZ:bu:=orX (DW 5 (.bool true)) (orX (iU 339 ZW) (orX (iU 361 ZX) (orX (iU 270 qcA) (Pz M4.C 200 2))))
theorem M5:wW VZ VZ:=pG (Py _ _) (pG (je _ _) (pG (je _ _) (pG (je _ _) (R6 M4.mono _ _))))
noncomputable def af:Ctx:=⟨Tryz.prog,jF Tryz.prog,VZ,qbJ,U9,M5⟩
theorem zH:af.IP (af.F 26)=some (mP af.F af.Ty):=by kernel_rfl
theorem wH:af.IP (af.F 27)=some (qo af.F af.Ty):=by kernel_rfl
theorem wI:af.IP (af.F 28)=some (kJ af.F af.Ty):=by kernel_rfl
theorem yl:af.IP (af.F 29)=some (jk af.F af.Ty):=by kernel_rfl
theorem wJ:af.IP (af.F 30)=some (gB af.F af.Ty):=by kernel_rfl
theorem zI:af.IP (af.F 31)=some (mQ af.F af.Ty):=by kernel_rfl
theorem wK:af.IP (af.F 32)=some (qp af.F af.Ty):=by kernel_rfl
theorem wL:af.IP (af.F 33)=some (kK af.F af.Ty):=by kernel_rfl
theorem ym:af.IP (af.F 34)=some (lQ af.F af.Ty):=by kernel_rfl
theorem wM:af.IP (af.F 35)=some (gF af.F af.Ty):=by kernel_rfl
theorem wN:af.IP (af.F 36)=some (kL af.F af.Ty):=by kernel_rfl
theorem wO:af.IP (af.F 37)=some (kM af.F af.Ty):=by kernel_rfl
theorem CP:af.IP (af.F 39)=some (uz af.F af.Ty):=by kernel_rfl
theorem wP:af.IP (af.F 40)=some (eY af.F af.Ty):=by kernel_rfl
theorem GU:af.IP (af.F 41)=some (ru af.F af.Ty):=by kernel_rfl
theorem wQ:af.IP (af.F 42)=some (gH af.F af.Ty):=by kernel_rfl
theorem yo:af.IP (af.F 43)=some (jl af.F af.Ty):=by kernel_rfl
theorem tJ:af.IP (af.F 44)=some (mR af.F af.Ty):=by kernel_rfl
theorem GV:af.IP (af.F 45)=some (ry af.F af.Ty):=by kernel_rfl
theorem tK:af.IP (af.F 46)=some (jm af.F af.Ty):=by kernel_rfl
theorem M6:af.IP (af.F 47)=some (vL af.F af.Ty):=by kernel_rfl
theorem uM:af.IP (af.F 48)=some (jJ af.F af.Ty):=by kernel_rfl
theorem wR:af.IP (af.F 49)=some (eZ af.F af.Ty):=by kernel_rfl
theorem vV:af.IP (af.F 50)=some (jX af.F af.Ty):=by kernel_rfl
theorem tL:af.IP (af.F 52)=some (jo af.F af.Ty):=by kernel_rfl
theorem rM:af.IP (af.F 53)=some (iY af.F af.Ty):=by kernel_rfl
theorem QO:eU af:=⟨zH,wH,wI,yl,wJ,zI,wK,wL,ym,wM,wN,wO,CP,wP,GU,wQ,yo,tJ,GV,tK,M6,uM,wR,vV,tL,rM⟩
theorem Fa:af.IP (af.F 204)=some (A9 af.F af.Ty):=by kernel_rfl
theorem sK:af.IP (af.F 205)=some (pW af.F af.Ty):=by kernel_rfl
theorem pQ:af.IP (af.F 206)=some (lN af.F af.Ty):=by kernel_rfl
theorem iD:af.IP (af.F 207)=some (fw af.F af.Ty):=by kernel_rfl
theorem Ai:af.IP (af.F 208)=some (jV af.F af.Ty):=by kernel_rfl
theorem nK:af.IP (af.F 209)=some (kH af.F af.Ty):=by kernel_rfl
theorem iq:af.IP (af.F 210)=some (dw af.F af.Ty):=by kernel_rfl
theorem uN:af.IP (af.F 211)=some (jW af.F af.Ty):=by kernel_rfl
theorem qx:af.IP (af.F 212)=some (mO af.F af.Ty):=by kernel_rfl
theorem sM:af.IP (af.F 213)=some (pX af.F af.Ty):=by kernel_rfl
theorem sN:af.IP (af.F 214)=some (lH af.F af.Ty):=by kernel_rfl
theorem uO:af.IP (af.F 215)=some (rq af.F af.Ty):=by kernel_rfl
theorem sO:af.IP (af.F 216)=some (p8 af.F af.Ty):=by kernel_rfl
theorem Aj:af.IP (af.F 217)=some (xJ af.F af.Ty):=by kernel_rfl
theorem dx:af.IP (af.F 218)=some (aM af.F af.Ty):=by kernel_rfl
theorem fK:af.IP (af.F 219)=some (dN af.F af.Ty):=by kernel_rfl
theorem Tm:bI af:=⟨Fa,sK,pQ,iD,Ai,nK,iq,uN,qx,sM,sN,uO,sO,Aj,dx,fK⟩
theorem IX:af.IP (af.F 426)=some (jG af.F af.Ty):=by kernel_rfl
theorem GX:af.IP (af.F 427)=some (rz af.F af.Ty):=by kernel_rfl
theorem Fb:af.IP (af.F 428)=some (qa af.F af.Ty):=by kernel_rfl
theorem yu:af.IP (af.F 429)=some (lS af.F af.Ty):=by kernel_rfl
theorem Fe:af.IP (af.F 430)=some (qb af.F af.Ty):=by kernel_rfl
theorem Ff:af.IP (af.F 431)=some (qc af.F af.Ty):=by kernel_rfl
theorem oW:af.IP (af.F 432)=some (eD af.F af.Ty):=by kernel_rfl
theorem oZ:af.IP (af.F 433)=some (eF af.F af.Ty):=by kernel_rfl
theorem NQ:af.IP (af.F 434)=some (xN af.F af.Ty):=by kernel_rfl
theorem NR:af.IP (af.F 435)=some (xO af.F af.Ty):=by kernel_rfl
theorem IY:af.IP (af.F 436)=some (tu af.F af.Ty):=by kernel_rfl
theorem QR:dD af:=⟨IX,GX,Fb,yu,Fe,Ff,oW,oZ,NQ,NR,IY⟩
theorem QS:af.IP (af.F 444)=some (Co af.F af.Ty):=by kernel_rfl
theorem CQ:af.IP (af.F 445)=some (nR af.F af.Ty):=by kernel_rfl
theorem wS:af.IP (af.F 446)=some (kN af.F af.Ty):=by kernel_rfl
theorem wT:af.IP (af.F 447)=some (kP af.F af.Ty):=by kernel_rfl
theorem wU:af.IP (af.F 448)=some (kQ af.F af.Ty):=by kernel_rfl
theorem M7:af.IP (af.F 449)=some (vM af.F af.Ty):=by kernel_rfl
theorem CR:af.IP (af.F 450)=some (nS af.F af.Ty):=by kernel_rfl
theorem zJ:af.IP (af.F 451)=some (mU af.F af.Ty):=by kernel_rfl
theorem zK:af.IP (af.F 452)=some (mV af.F af.Ty):=by kernel_rfl
theorem Fg:af.IP (af.F 453)=some (jC af.F af.Ty):=by kernel_rfl
theorem CS:af.IP (af.F 454)=some (nT af.F af.Ty):=by kernel_rfl
theorem wV:af.IP (af.F 455)=some (kR af.F af.Ty):=by kernel_rfl
theorem zL:af.IP (af.F 456)=some (mW af.F af.Ty):=by kernel_rfl
theorem yw:af.IP (af.F 457)=some (lT af.F af.Ty):=by kernel_rfl
theorem yx:af.IP (af.F 458)=some (lU af.F af.Ty):=by kernel_rfl
theorem zM:af.IP (af.F 459)=some (mX af.F af.Ty):=by kernel_rfl
theorem yz:af.IP (af.F 460)=some (lV af.F af.Ty):=by kernel_rfl
theorem CU:af.IP (af.F 461)=some (nU af.F af.Ty):=by kernel_rfl
theorem zN:af.IP (af.F 462)=some (mY af.F af.Ty):=by kernel_rfl
theorem zO:af.IP (af.F 463)=some (mZ af.F af.Ty):=by kernel_rfl
theorem CV:af.IP (af.F 464)=some (nW af.F af.Ty):=by kernel_rfl
theorem Fh:af.IP (af.F 465)=some (qd af.F af.Ty):=by kernel_rfl
theorem CW:af.IP (af.F 466)=some (og af.F af.Ty):=by kernel_rfl
theorem CX:af.IP (af.F 467)=some (iZ af.F af.Ty):=by kernel_rfl
theorem yA:af.IP (af.F 468)=some (lW af.F af.Ty):=by kernel_rfl
theorem zP:af.IP (af.F 469)=some (ng af.F af.Ty):=by kernel_rfl
theorem CY:af.IP (af.F 470)=some (oh af.F af.Ty):=by kernel_rfl
theorem zQ:af.IP (af.F 471)=some (eX af.F af.Ty):=by kernel_rfl
theorem CZ:af.IP (af.F 472)=some (kr af.F af.Ty):=by kernel_rfl
theorem C8:af.IP (af.F 473)=some (ja af.F af.Ty):=by kernel_rfl
theorem C9:af.IP (af.F 474)=some (ol af.F af.Ty):=by kernel_rfl
theorem Da:af.IP (af.F 475)=some (om af.F af.Ty):=by kernel_rfl
theorem Db:af.IP (af.F 476)=some (oo af.F af.Ty):=by kernel_rfl
theorem Dc:af.IP (af.F 477)=some (oq af.F af.Ty):=by kernel_rfl
theorem yB:af.IP (af.F 478)=some (lX af.F af.Ty):=by kernel_rfl
theorem yC:af.IP (af.F 479)=some (lY af.F af.Ty):=by kernel_rfl
theorem yD:af.IP (af.F 480)=some (lZ af.F af.Ty):=by kernel_rfl
theorem De:af.IP (af.F 481)=some (ou af.F af.Ty):=by kernel_rfl
theorem Df:af.IP (af.F 482)=some (ow af.F af.Ty):=by kernel_rfl
theorem Dg:af.IP (af.F 483)=some (oz af.F af.Ty):=by kernel_rfl
theorem Tn:dP af:=⟨QS,CQ,wS,wT,wU,M7,CR,zJ,zK,Fg,CS,wV,zL,yw,yx,zM,yz,CU,zN,zO,CV,Fh,CW,CX,yA,zP,CY,zQ,CZ,C8,C9,Da,Db,Dc,yB,yC,yD,De,Df,Dg⟩
theorem Fj:af.IP (af.F 484)=some (qf af.F af.Ty):=by kernel_rfl
theorem Fp:af.IP (af.F 485)=some (qg af.F af.Ty):=by kernel_rfl
theorem Fq:af.IP (af.F 486)=some (qh af.F af.Ty):=by kernel_rfl
theorem NS:af.IP (af.F 487)=some (xP af.F af.Ty):=by kernel_rfl
theorem GY:af.IP (af.F 488)=some (fU af.F af.Ty):=by kernel_rfl
theorem IZ:af.IP (af.F 489)=some (cO af.F af.Ty):=by kernel_rfl
theorem Dh:af.IP (af.F 490)=some (oC af.F af.Ty):=by kernel_rfl
theorem Di:af.IP (af.F 491)=some (oF af.F af.Ty):=by kernel_rfl
theorem Dj:af.IP (af.F 492)=some (oG af.F af.Ty):=by kernel_rfl
theorem Dk:af.IP (af.F 493)=some (oH af.F af.Ty):=by kernel_rfl
theorem Dl:af.IP (af.F 494)=some (oI af.F af.Ty):=by kernel_rfl
theorem I4:af.IP (af.F 495)=some (tC af.F af.Ty):=by kernel_rfl
theorem I5:af.IP (af.F 496)=some (tF af.F af.Ty):=by kernel_rfl
theorem NT:oJ af:=⟨Fj,Fp,Fq,NS,GY,IZ,Dh,Di,Dj,Dk,Dl,I4,I5⟩
theorem uP:af.IP (af.F 497)=some (jK af.F af.Ty):=by kernel_rfl
theorem zR:af.IP (af.F 498)=some (jO af.F af.Ty):=by kernel_rfl
theorem QT:Mm af:=⟨uP,zR⟩
theorem O1:Tryz.prog.follows .mixedOrders=true:=by kernel_rfl
theorem QU:bI M4:=⟨Fa,sK,pQ,iD,Ai,nK,iq,uN,qx,sM,sN,uO,sO,Aj,dx,fK⟩
theorem qbK:jh Tryz.prog (Ry 267):=Ws (fn:=Tryz.f267) (tS:=231) (tR:=4) (e:=333) (size:=2) (by kernel_rfl) (by kernel_rfl) (by kernel_rfl) (by kernel_rfl) (by kernel_rfl) (by kernel_rfl) (by kernel_rfl)
set_option maxRecDepth 100000 in
theorem qbL:jh Tryz.prog M4.C:=Oj O1 (fun _ _ h=>h) qbK (LF _)
set_option maxRecDepth 100000 in
theorem qbM:jh Tryz.prog VZ:=rW Go.Proofs.YtofpmkhcbijilaaGreatDoorU.WZ (rW Go.Proofs.YtofpmkhcbijilaaGreatDoorU.Vz (rW Go.Proofs.YtofpmkhcbijilaaGreatDoorU.VA (rW Go.Proofs.YtofpmkhcbijilaaGreatDoorU.Vy (TN (code:=aM qbJ U9) qbL dx (by omega)))))
set_option maxRecDepth 100000 in
theorem qda:jh Tryz.prog af.C:=Oj O1 (fun _ _ h=>h) qbM M5
theorem X5:kS af:=fun H K q vb i u rows new h1 h2 h3 h4 h5 h6 h7 h8 h9 h10 hK=>
 qer af M4 QU
  (fun H K b1 o1 n1 c1 b2 o2 n2 c2 cs1 cs2 q1 q2 q3 q4 q5 q6 q7 q8=>eH.ext ⟨rfl,b1,o1,n1,c1,b2,o2,n2,c2,cs1,cs2,rfl,q1,q2,q3,q4,q5,q6,q7,q8⟩)
  (fun s r H K h=>eH.ext (.inr (.inr (.inr (.inr ⟨rfl,s,r,rfl,h⟩))))) h1 h2 h3 h4 h5 h6 h7 h8 h9 h10 hK
theorem V3:jP af:=fun t b H K h=>eH.ext (.inr (.inl ⟨rfl,_,⟨t,b,rfl,rfl⟩,h⟩))
theorem X6:pJ af:=fun t b H K h=>V3 t b H K (h _ (qaW t b))
theorem qdb:kE af:=fun t b H K h=>eH.ext (.inr (.inr (.inl ⟨rfl,_,⟨t,b,rfl,rfl⟩,h⟩)))
theorem qdc:Mx af:=fun t n H K h1 h2 h=>eH.ext (.inr (.inr (.inr (.inl ⟨rfl,_,⟨t,n,h1,h2,rfl,rfl⟩,h⟩))))
theorem qeQ:wm af.P (af.Ty 2) kI:=keyOf_int (k:=.i64) (by kernel_rfl)
theorem qdd:af.Ty 14≠af.Ty 13:=fun h=>absurd h (of_decide_eq_true (by kernel_rfl))
theorem qeR:qbx af:=⟨of_decide_eq_true (by kernel_rfl),of_decide_eq_true (by kernel_rfl),of_decide_eq_true (by kernel_rfl),of_decide_eq_true (by kernel_rfl),of_decide_eq_true (by kernel_rfl),of_decide_eq_true (by kernel_rfl)⟩
set_option maxRecDepth 100000 in
theorem qeS (H:aa)(K:Value→aa→Prop)(h: ∀H',K (.bool true) H'):af.C (af.F 499) [] H K:=eH.ext (.inl ⟨rfl,rfl,h H⟩)
set_option maxRecDepth 100000 in
theorem Va {u:Value}{l:List y8}{n:Int}{H:aa}{K:Value→aa→Prop}(hu:Cq H 6 u (l.map iM))(hfit: ∀x ∈ l,x.fit)(hK: ∀H',K (.bool true) H'):af.C (af.F nI) [u,.int .i64 n] H K:=
 Td af Tn NT QT QO QR Tm V3 X6 X5 qdb qdc qeQ qdd qeR qeS hu hfit (fun hf i hi=>X4 hf i hi) hK
end Go.Proofs.YtofpmkhcbijilaaGreatDoorI
