/- Who is in a group, as bytes. -/
import Derived.Test.YtkphglpmhebglaaMemX
import Derived.Test.YtkphglpmhebglaaCodecPX
namespace Go.Proofs.YtkphglpmhebglaaI
set_option linter.unusedSimpArgs false
set_option linter.unusedVariables false
open Go

theorem Wr.lay_fit {w : Wr} {x : List UInt8} (he : w.e = 0) (hx : (w.b.length : Int) + x.length ≤ w.most) : w.lay x = { w with b := w.b ++ x } := by
  unfold Wr.lay
  rw [if_neg (by simpa using he), if_neg (by simp; omega)]
def flag (f : Bool) : UInt8 := if f then 1 else 0
def encM (m : Mem) : List UInt8 := encI m.e ++ encI m.h ++ [flag m.f] ++ encI m.g ++ (encI m.L.length ++ encInts m.L) ++ (encI m.S.length ++ encInts m.S)
theorem Mem.ok.okL {m : Mem} (h : m.ok) : ∀ n ∈ m.L, okI n := fun n hn => by have := h.ap.1 n (by simp [hn]); unfold okI; omega
theorem Mem.ok.okS {m : Mem} (h : m.ok) : ∀ n ∈ m.S, okI n := fun n hn => by have := h.ap.1 n (by simp [hn]); unfold okI; omega

section
variable (c : Ctx) (hc : HasMembers c) (hC : HasCodec c) {H : IHeap} {K : Value → IHeap → Prop}

include hc hC in
theorem MText_ok {p q1 q2 : Nat} {m : Mem} (h : IsM H p q1 q2 m) (hK : ∀ H', H.le H' → K (strV (encM m)) H') : c.C (c.F n_members_Members_Text) [.pointer (some ⟨p, 0, none⟩)] H K := by
  refine c.enter hc.members_Members_Text rfl ?_
  obtain ⟨cap, v2, hg, hcap, hsp⟩ := h.rep
  have hep := h.ok.ep
  have hh1 := h.ok.h1
  have hh2 := h.ok.h2
  have h8 := h.ok.eight
  have h64 := h.ok.sl
  have hgr := h.ok.gr
  have l1 := encI_len (n := m.e) (by omega) (by omega)
  have l2 := encI_len (n := m.h) (by omega) (by omega)
  have l3 := encI_len (n := m.g) (by omega) (by omega)
  have l4 := encI_len (n := m.L.length) (by omega) (by omega)
  have l5 := encI_len (n := m.S.length) (by omega) (by omega)
  have l6 := encInts_len m.L h.ok.okL
  have l7 := encInts_len m.S h.ok.okS
  obtain ⟨cT, hcT⟩ : ∃ cT : ICode, cT = (.seq (.ops [⟨some 13, .call (c.F 31) [.const (.int .i64 65536)], none⟩, ⟨some 4, .move (.tmp 13), none⟩]) (.seq (.ops [⟨some 14, .move (.tmp 4), none⟩, ⟨some 15, .move (.tmp 0), none⟩, ⟨some 16, .nilCheck (.tmp 15), none⟩, ⟨some 17, .fieldAddr 2 (.tmp 16), none⟩, ⟨some 18, .load1 (.tmp 17), none⟩, ⟨some 19, .call (c.F 34) [.tmp 14, .tmp 18], none⟩]) (.seq (.ops [⟨some 20, .move (.tmp 4), none⟩, ⟨some 21, .move (.tmp 0), none⟩, ⟨some 22, .nilCheck (.tmp 21), none⟩, ⟨some 23, .fieldAddr 3 (.tmp 22), none⟩, ⟨some 24, .load1 (.tmp 23), none⟩, ⟨some 25, .call (c.F 34) [.tmp 20, .tmp 24], none⟩]) (.seq (.ops [⟨some 26, .move (.tmp 4), none⟩, ⟨some 27, .move (.tmp 3), none⟩, ⟨some 28, .call (c.F 49) [.tmp 26, .tmp 27], none⟩]) (.seq (.ops [⟨some 29, .move (.tmp 4), none⟩, ⟨some 30, .move (.tmp 0), none⟩, ⟨some 31, .nilCheck (.tmp 30), none⟩, ⟨some 32, .fieldAddr 5 (.tmp 31), none⟩, ⟨some 33, .load1 (.tmp 32), none⟩, ⟨some 34, .call (c.F 34) [.tmp 29, .tmp 33], none⟩]) (.seq (.ops [⟨some 35, .move (.tmp 4), none⟩, ⟨some 36, .move (.tmp 0), none⟩, ⟨some 37, .nilCheck (.tmp 36), none⟩, ⟨some 38, .fieldAddr 0 (.tmp 37), none⟩, ⟨some 39, .load1 (.tmp 38), none⟩, ⟨some 40, .call (c.F 32) [.tmp 35, .tmp 39], none⟩]) (.seq (.ops [⟨some 41, .move (.tmp 4), none⟩, ⟨some 42, .move (.tmp 0), none⟩, ⟨some 43, .nilCheck (.tmp 42), none⟩, ⟨some 44, .fieldAddr 1 (.tmp 43), none⟩, ⟨some 45, .load1 (.tmp 44), none⟩, ⟨some 46, .call (c.F 32) [.tmp 41, .tmp 45], none⟩]) (.seq (.ops [⟨some 48, .move (.tmp 4), none⟩, ⟨some 49, .call (c.F 35) [.tmp 48], none⟩, ⟨some 47, .move (.tmp 49), none⟩, ⟨some 50, .extract (.tmp 47) 0, none⟩, ⟨some 51, .extract (.tmp 47) 1, none⟩, ⟨some 5, .move (.tmp 50), none⟩, ⟨some 6, .move (.tmp 51), none⟩]) (.seq (.ops [⟨some 52, .move (.tmp 5), none⟩, ⟨some 2, .move (.tmp 52), none⟩]) (.ret)))))))))) := ⟨_, rfl⟩
  simp only [c_members_Members_Text, ← hcT]
  have main : ∀ T : Env, T 0 = .pointer (some ⟨p, 0, none⟩) → T 3 = .int .i64 (if m.f then 1 else 0) → iwp c.P c.C cT (retR [.tmp 2] K) T H := by
    intro T t0 t3
    subst hcT
    have hpl := h.lt
    simp -implicitDefEqProofs [J0,J1,J2,J3,J4,J5,J6,J7,J8,J9,Ja,Jb,Jc,Jd,Je,Jf,Jg,Jh,Ji,Jj,Jk,Jl,Jm,Jn,Jo,Jp,Jq,Jr,Js,Jt,Ju,Jv,Jw,Jx,Jy,Jz,JA,JB,JC,JD,JE,JF,JG,JH,JI,JJ,JK,JL,JM,JN,JO,JP,stillI,IOp.kind,JQ,JR,JS,JT,JU,JV,JW,JX,JY,JZ,Y0,Y1,Y2,Y3,Y4,Y5,Y6,Y7,Y8,Y9,Ya,Yb,Yc,Yd,Ye,Yf,Yg,Yh,Yi,Yj,Yk,Yl,Ym,Yn,ial,Yo,Yp,Yq,Yr,Ys,Yt,Yu,Yv,ires,iresL,ires1,Yw,Yx,Yy,Yz,YA,YB,bin2,YC,YD,YE,YF,YG,YH,YI,YJ,YK,YL,YM,YN,YO,YP,YQ,YR,un1,shOk,eqL,eq1,fillL,putAt,IHeap.load1,IHeap.loadL,IHeap.storeL,YS,YT,YU,YV,YW,YX,YY,YZ,B0,B1,B2,B3,B4,B5,B6,B7,B8,B9,Ba,Bb,Bc,Bd,Be,Bf,Bg,Bh,Bi,Bj,Bk,Bl,Bm, t0, t3]
    refine call_of (NewWriter_ok c hC fun q H1 p1 k1 w1 => ?_)
    simp only [show (if (65536 : Int) < (if (0 : Int) > 65536 then 0 else 65536) then (65536 : Int) else (if (0 : Int) > 65536 then 0 else 65536)) = 65536 from by decide] at w1
    have g1 := (k1.get p hpl).trans hg
    simp -implicitDefEqProofs [J0,J1,J2,J3,J4,J5,J6,J7,J8,J9,Ja,Jb,Jc,Jd,Je,Jf,Jg,Jh,Ji,Jj,Jk,Jl,Jm,Jn,Jo,Jp,Jq,Jr,Js,Jt,Ju,Jv,Jw,Jx,Jy,Jz,JA,JB,JC,JD,JE,JF,JG,JH,JI,JJ,JK,JL,JM,JN,JO,JP,stillI,IOp.kind,JQ,JR,JS,JT,JU,JV,JW,JX,JY,JZ,Y0,Y1,Y2,Y3,Y4,Y5,Y6,Y7,Y8,Y9,Ya,Yb,Yc,Yd,Ye,Yf,Yg,Yh,Yi,Yj,Yk,Yl,Ym,Yn,ial,Yo,Yp,Yq,Yr,Ys,Yt,Yu,Yv,ires,iresL,ires1,Yw,Yx,Yy,Yz,YA,YB,bin2,YC,YD,YE,YF,YG,YH,YI,YJ,YK,YL,YM,YN,YO,YP,YQ,YR,un1,shOk,eqL,eq1,fillL,putAt,IHeap.load1,IHeap.loadL,IHeap.storeL,YS,YT,YU,YV,YW,YX,YY,YZ,B0,B1,B2,B3,B4,B5,B6,B7,B8,B9,Ba,Bb,Bc,Bd,Be,Bf,Bg,Bh,Bi,Bj,Bk,Bl,Bm, t0, t3, g1]
    refine call_of (WInt_ok c hC w1 (by omega) (by omega) fun H2 u2 w2 => ?_)
    have k2 : H.le H2 := k1.updLe u2 (by simp; omega)
    have g2 := (k2.get p hpl).trans hg
    rw [Wr.lay_fit rfl (by simp; omega)] at w2
    simp -implicitDefEqProofs [J0,J1,J2,J3,J4,J5,J6,J7,J8,J9,Ja,Jb,Jc,Jd,Je,Jf,Jg,Jh,Ji,Jj,Jk,Jl,Jm,Jn,Jo,Jp,Jq,Jr,Js,Jt,Ju,Jv,Jw,Jx,Jy,Jz,JA,JB,JC,JD,JE,JF,JG,JH,JI,JJ,JK,JL,JM,JN,JO,JP,stillI,IOp.kind,JQ,JR,JS,JT,JU,JV,JW,JX,JY,JZ,Y0,Y1,Y2,Y3,Y4,Y5,Y6,Y7,Y8,Y9,Ya,Yb,Yc,Yd,Ye,Yf,Yg,Yh,Yi,Yj,Yk,Yl,Ym,Yn,ial,Yo,Yp,Yq,Yr,Ys,Yt,Yu,Yv,ires,iresL,ires1,Yw,Yx,Yy,Yz,YA,YB,bin2,YC,YD,YE,YF,YG,YH,YI,YJ,YK,YL,YM,YN,YO,YP,YQ,YR,un1,shOk,eqL,eq1,fillL,putAt,IHeap.load1,IHeap.loadL,IHeap.storeL,YS,YT,YU,YV,YW,YX,YY,YZ,B0,B1,B2,B3,B4,B5,B6,B7,B8,B9,Ba,Bb,Bc,Bd,Be,Bf,Bg,Bh,Bi,Bj,Bk,Bl,Bm, t0, t3, g2]
    refine call_of (WInt_ok c hC w2 (by omega) (by omega) fun H3 u3 w3 => ?_)
    have k3 : H.le H3 := k2.updLe u3 (by simp; omega)
    have g3 := (k3.get p hpl).trans hg
    rw [Wr.lay_fit rfl (by simp; omega)] at w3
    simp -implicitDefEqProofs [J0,J1,J2,J3,J4,J5,J6,J7,J8,J9,Ja,Jb,Jc,Jd,Je,Jf,Jg,Jh,Ji,Jj,Jk,Jl,Jm,Jn,Jo,Jp,Jq,Jr,Js,Jt,Ju,Jv,Jw,Jx,Jy,Jz,JA,JB,JC,JD,JE,JF,JG,JH,JI,JJ,JK,JL,JM,JN,JO,JP,stillI,IOp.kind,JQ,JR,JS,JT,JU,JV,JW,JX,JY,JZ,Y0,Y1,Y2,Y3,Y4,Y5,Y6,Y7,Y8,Y9,Ya,Yb,Yc,Yd,Ye,Yf,Yg,Yh,Yi,Yj,Yk,Yl,Ym,Yn,ial,Yo,Yp,Yq,Yr,Ys,Yt,Yu,Yv,ires,iresL,ires1,Yw,Yx,Yy,Yz,YA,YB,bin2,YC,YD,YE,YF,YG,YH,YI,YJ,YK,YL,YM,YN,YO,YP,YQ,YR,un1,shOk,eqL,eq1,fillL,putAt,IHeap.load1,IHeap.loadL,IHeap.storeL,YS,YT,YU,YV,YW,YX,YY,YZ,B0,B1,B2,B3,B4,B5,B6,B7,B8,B9,Ba,Bb,Bc,Bd,Be,Bf,Bg,Bh,Bi,Bj,Bk,Bl,Bm, t0, t3, g3]
    refine call_of (WByte_ok c hC w3 fun H4 u4 w4 => ?_)
    have k4 : H.le H4 := k3.updLe u4 (by simp; omega)
    have g4 := (k4.get p hpl).trans hg
    have hbyte : ∀ w : Wr, w.byte (if m.f then 1 else 0) = w.lay [flag m.f] := by
      intro w
      unfold Wr.byte
      rw [if_neg (by split <;> omega)]
      cases m.f <;> rfl
    rw [hbyte, Wr.lay_fit rfl (by simp; omega)] at w4
    simp -implicitDefEqProofs [J0,J1,J2,J3,J4,J5,J6,J7,J8,J9,Ja,Jb,Jc,Jd,Je,Jf,Jg,Jh,Ji,Jj,Jk,Jl,Jm,Jn,Jo,Jp,Jq,Jr,Js,Jt,Ju,Jv,Jw,Jx,Jy,Jz,JA,JB,JC,JD,JE,JF,JG,JH,JI,JJ,JK,JL,JM,JN,JO,JP,stillI,IOp.kind,JQ,JR,JS,JT,JU,JV,JW,JX,JY,JZ,Y0,Y1,Y2,Y3,Y4,Y5,Y6,Y7,Y8,Y9,Ya,Yb,Yc,Yd,Ye,Yf,Yg,Yh,Yi,Yj,Yk,Yl,Ym,Yn,ial,Yo,Yp,Yq,Yr,Ys,Yt,Yu,Yv,ires,iresL,ires1,Yw,Yx,Yy,Yz,YA,YB,bin2,YC,YD,YE,YF,YG,YH,YI,YJ,YK,YL,YM,YN,YO,YP,YQ,YR,un1,shOk,eqL,eq1,fillL,putAt,IHeap.load1,IHeap.loadL,IHeap.storeL,YS,YT,YU,YV,YW,YX,YY,YZ,B0,B1,B2,B3,B4,B5,B6,B7,B8,B9,Ba,Bb,Bc,Bd,Be,Bf,Bg,Bh,Bi,Bj,Bk,Bl,Bm, t0, t3, g4]
    refine call_of (WInt_ok c hC w4 (by omega) (by omega) fun H5 u5 w5 => ?_)
    have k5 : H.le H5 := k4.updLe u5 (by simp; omega)
    have g5 := (k5.get p hpl).trans hg
    rw [Wr.lay_fit rfl (by simp; omega)] at w5
    simp -implicitDefEqProofs [J0,J1,J2,J3,J4,J5,J6,J7,J8,J9,Ja,Jb,Jc,Jd,Je,Jf,Jg,Jh,Ji,Jj,Jk,Jl,Jm,Jn,Jo,Jp,Jq,Jr,Js,Jt,Ju,Jv,Jw,Jx,Jy,Jz,JA,JB,JC,JD,JE,JF,JG,JH,JI,JJ,JK,JL,JM,JN,JO,JP,stillI,IOp.kind,JQ,JR,JS,JT,JU,JV,JW,JX,JY,JZ,Y0,Y1,Y2,Y3,Y4,Y5,Y6,Y7,Y8,Y9,Ya,Yb,Yc,Yd,Ye,Yf,Yg,Yh,Yi,Yj,Yk,Yl,Ym,Yn,ial,Yo,Yp,Yq,Yr,Ys,Yt,Yu,Yv,ires,iresL,ires1,Yw,Yx,Yy,Yz,YA,YB,bin2,YC,YD,YE,YF,YG,YH,YI,YJ,YK,YL,YM,YN,YO,YP,YQ,YR,un1,shOk,eqL,eq1,fillL,putAt,IHeap.load1,IHeap.loadL,IHeap.storeL,YS,YT,YU,YV,YW,YX,YY,YZ,B0,B1,B2,B3,B4,B5,B6,B7,B8,B9,Ba,Bb,Bc,Bd,Be,Bf,Bg,Bh,Bi,Bj,Bk,Bl,Bm, t0, t3, g5]
    refine call_of (WInts_ok c hC (m := m.L) w5 ((h.le k5).servers hcap).1 h.ok.okL (by omega) fun H6 u6 w6 => ?_)
    have k6 : H.le H6 := k5.updLe u6 (by simp; omega)
    have g6 := (k6.get p hpl).trans hg
    rw [Wr.lay_fit rfl (by simp; omega)] at w6
    simp -implicitDefEqProofs [J0,J1,J2,J3,J4,J5,J6,J7,J8,J9,Ja,Jb,Jc,Jd,Je,Jf,Jg,Jh,Ji,Jj,Jk,Jl,Jm,Jn,Jo,Jp,Jq,Jr,Js,Jt,Ju,Jv,Jw,Jx,Jy,Jz,JA,JB,JC,JD,JE,JF,JG,JH,JI,JJ,JK,JL,JM,JN,JO,JP,stillI,IOp.kind,JQ,JR,JS,JT,JU,JV,JW,JX,JY,JZ,Y0,Y1,Y2,Y3,Y4,Y5,Y6,Y7,Y8,Y9,Ya,Yb,Yc,Yd,Ye,Yf,Yg,Yh,Yi,Yj,Yk,Yl,Ym,Yn,ial,Yo,Yp,Yq,Yr,Ys,Yt,Yu,Yv,ires,iresL,ires1,Yw,Yx,Yy,Yz,YA,YB,bin2,YC,YD,YE,YF,YG,YH,YI,YJ,YK,YL,YM,YN,YO,YP,YQ,YR,un1,shOk,eqL,eq1,fillL,putAt,IHeap.load1,IHeap.loadL,IHeap.storeL,YS,YT,YU,YV,YW,YX,YY,YZ,B0,B1,B2,B3,B4,B5,B6,B7,B8,B9,Ba,Bb,Bc,Bd,Be,Bf,Bg,Bh,Bi,Bj,Bk,Bl,Bm, t0, t3, g6]
    refine call_of (WInts_ok c hC (m := m.S) w6 (hsp.le k6).slw.1 h.ok.okS (by omega) fun H7 u7 w7 => ?_)
    have k7 : H.le H7 := k6.updLe u7 (by simp; omega)
    rw [Wr.lay_fit rfl (by simp; omega)] at w7
    simp -implicitDefEqProofs [J0,J1,J2,J3,J4,J5,J6,J7,J8,J9,Ja,Jb,Jc,Jd,Je,Jf,Jg,Jh,Ji,Jj,Jk,Jl,Jm,Jn,Jo,Jp,Jq,Jr,Js,Jt,Ju,Jv,Jw,Jx,Jy,Jz,JA,JB,JC,JD,JE,JF,JG,JH,JI,JJ,JK,JL,JM,JN,JO,JP,stillI,IOp.kind,JQ,JR,JS,JT,JU,JV,JW,JX,JY,JZ,Y0,Y1,Y2,Y3,Y4,Y5,Y6,Y7,Y8,Y9,Ya,Yb,Yc,Yd,Ye,Yf,Yg,Yh,Yi,Yj,Yk,Yl,Ym,Yn,ial,Yo,Yp,Yq,Yr,Ys,Yt,Yu,Yv,ires,iresL,ires1,Yw,Yx,Yy,Yz,YA,YB,bin2,YC,YD,YE,YF,YG,YH,YI,YJ,YK,YL,YM,YN,YO,YP,YQ,YR,un1,shOk,eqL,eq1,fillL,putAt,IHeap.load1,IHeap.loadL,IHeap.storeL,YS,YT,YU,YV,YW,YX,YY,YZ,B0,B1,B2,B3,B4,B5,B6,B7,B8,B9,Ba,Bb,Bc,Bd,Be,Bf,Bg,Bh,Bi,Bj,Bk,Bl,Bm]
    refine call_of (WDone_ok c hC w7 ?_)
    have fin := hK H7 k7
    simp -implicitDefEqProofs [J0,J1,J2,J3,J4,J5,J6,J7,J8,J9,Ja,Jb,Jc,Jd,Je,Jf,Jg,Jh,Ji,Jj,Jk,Jl,Jm,Jn,Jo,Jp,Jq,Jr,Js,Jt,Ju,Jv,Jw,Jx,Jy,Jz,JA,JB,JC,JD,JE,JF,JG,JH,JI,JJ,JK,JL,JM,JN,JO,JP,stillI,IOp.kind,JQ,JR,JS,JT,JU,JV,JW,JX,JY,JZ,Y0,Y1,Y2,Y3,Y4,Y5,Y6,Y7,Y8,Y9,Ya,Yb,Yc,Yd,Ye,Yf,Yg,Yh,Yi,Yj,Yk,Yl,Ym,Yn,ial,Yo,Yp,Yq,Yr,Ys,Yt,Yu,Yv,ires,iresL,ires1,Yw,Yx,Yy,Yz,YA,YB,bin2,YC,YD,YE,YF,YG,YH,YI,YJ,YK,YL,YM,YN,YO,YP,YQ,YR,un1,shOk,eqL,eq1,fillL,putAt,IHeap.load1,IHeap.loadL,IHeap.storeL,YS,YT,YU,YV,YW,YX,YY,YZ,B0,B1,B2,B3,B4,B5,B6,B7,B8,B9,Ba,Bb,Bc,Bd,Be,Bf,Bg,Bh,Bi,Bj,Bk,Bl,Bm, Wr.done]
    simpa [encM] using fin
  have hf : m.f = true ∨ m.f = false := by cases m.f <;> simp
  rcases hf with hf | hf
  · simp -implicitDefEqProofs [J0,J1,J2,J3,J4,J5,J6,J7,J8,J9,Ja,Jb,Jc,Jd,Je,Jf,Jg,Jh,Ji,Jj,Jk,Jl,Jm,Jn,Jo,Jp,Jq,Jr,Js,Jt,Ju,Jv,Jw,Jx,Jy,Jz,JA,JB,JC,JD,JE,JF,JG,JH,JI,JJ,JK,JL,JM,JN,JO,JP,stillI,IOp.kind,JQ,JR,JS,JT,JU,JV,JW,JX,JY,JZ,Y0,Y1,Y2,Y3,Y4,Y5,Y6,Y7,Y8,Y9,Ya,Yb,Yc,Yd,Ye,Yf,Yg,Yh,Yi,Yj,Yk,Yl,Ym,Yn,ial,Yo,Yp,Yq,Yr,Ys,Yt,Yu,Yv,ires,iresL,ires1,Yw,Yx,Yy,Yz,YA,YB,bin2,YC,YD,YE,YF,YG,YH,YI,YJ,YK,YL,YM,YN,YO,YP,YQ,YR,un1,shOk,eqL,eq1,fillL,putAt,IHeap.load1,IHeap.loadL,IHeap.storeL,YS,YT,YU,YV,YW,YX,YY,YZ,B0,B1,B2,B3,B4,B5,B6,B7,B8,B9,Ba,Bb,Bc,Bd,Be,Bf,Bg,Bh,Bi,Bj,Bk,Bl,Bm, nilOf, hg, hf]
    exact main _ (by simp -implicitDefEqProofs [J0,J1,J2,J3,J4,J5,J6,J7,J8,J9,Ja,Jb,Jc,Jd,Je,Jf,Jg,Jh,Ji,Jj,Jk,Jl,Jm,Jn,Jo,Jp,Jq,Jr,Js,Jt,Ju,Jv,Jw,Jx,Jy,Jz,JA,JB,JC,JD,JE,JF,JG,JH,JI,JJ,JK,JL,JM,JN,JO,JP,stillI,IOp.kind,JQ,JR,JS,JT,JU,JV,JW,JX,JY,JZ,Y0,Y1,Y2,Y3,Y4,Y5,Y6,Y7,Y8,Y9,Ya,Yb,Yc,Yd,Ye,Yf,Yg,Yh,Yi,Yj,Yk,Yl,Ym,Yn,ial,Yo,Yp,Yq,Yr,Ys,Yt,Yu,Yv,ires,iresL,ires1,Yw,Yx,Yy,Yz,YA,YB,bin2,YC,YD,YE,YF,YG,YH,YI,YJ,YK,YL,YM,YN,YO,YP,YQ,YR,un1,shOk,eqL,eq1,fillL,putAt,IHeap.load1,IHeap.loadL,IHeap.storeL,YS,YT,YU,YV,YW,YX,YY,YZ,B0,B1,B2,B3,B4,B5,B6,B7,B8,B9,Ba,Bb,Bc,Bd,Be,Bf,Bg,Bh,Bi,Bj,Bk,Bl,Bm]) (by simp -implicitDefEqProofs [J0,J1,J2,J3,J4,J5,J6,J7,J8,J9,Ja,Jb,Jc,Jd,Je,Jf,Jg,Jh,Ji,Jj,Jk,Jl,Jm,Jn,Jo,Jp,Jq,Jr,Js,Jt,Ju,Jv,Jw,Jx,Jy,Jz,JA,JB,JC,JD,JE,JF,JG,JH,JI,JJ,JK,JL,JM,JN,JO,JP,stillI,IOp.kind,JQ,JR,JS,JT,JU,JV,JW,JX,JY,JZ,Y0,Y1,Y2,Y3,Y4,Y5,Y6,Y7,Y8,Y9,Ya,Yb,Yc,Yd,Ye,Yf,Yg,Yh,Yi,Yj,Yk,Yl,Ym,Yn,ial,Yo,Yp,Yq,Yr,Ys,Yt,Yu,Yv,ires,iresL,ires1,Yw,Yx,Yy,Yz,YA,YB,bin2,YC,YD,YE,YF,YG,YH,YI,YJ,YK,YL,YM,YN,YO,YP,YQ,YR,un1,shOk,eqL,eq1,fillL,putAt,IHeap.load1,IHeap.loadL,IHeap.storeL,YS,YT,YU,YV,YW,YX,YY,YZ,B0,B1,B2,B3,B4,B5,B6,B7,B8,B9,Ba,Bb,Bc,Bd,Be,Bf,Bg,Bh,Bi,Bj,Bk,Bl,Bm, hf])
  · simp -implicitDefEqProofs [J0,J1,J2,J3,J4,J5,J6,J7,J8,J9,Ja,Jb,Jc,Jd,Je,Jf,Jg,Jh,Ji,Jj,Jk,Jl,Jm,Jn,Jo,Jp,Jq,Jr,Js,Jt,Ju,Jv,Jw,Jx,Jy,Jz,JA,JB,JC,JD,JE,JF,JG,JH,JI,JJ,JK,JL,JM,JN,JO,JP,stillI,IOp.kind,JQ,JR,JS,JT,JU,JV,JW,JX,JY,JZ,Y0,Y1,Y2,Y3,Y4,Y5,Y6,Y7,Y8,Y9,Ya,Yb,Yc,Yd,Ye,Yf,Yg,Yh,Yi,Yj,Yk,Yl,Ym,Yn,ial,Yo,Yp,Yq,Yr,Ys,Yt,Yu,Yv,ires,iresL,ires1,Yw,Yx,Yy,Yz,YA,YB,bin2,YC,YD,YE,YF,YG,YH,YI,YJ,YK,YL,YM,YN,YO,YP,YQ,YR,un1,shOk,eqL,eq1,fillL,putAt,IHeap.load1,IHeap.loadL,IHeap.storeL,YS,YT,YU,YV,YW,YX,YY,YZ,B0,B1,B2,B3,B4,B5,B6,B7,B8,B9,Ba,Bb,Bc,Bd,Be,Bf,Bg,Bh,Bi,Bj,Bk,Bl,Bm, nilOf, hg, hf]
    exact main _ (by simp -implicitDefEqProofs [J0,J1,J2,J3,J4,J5,J6,J7,J8,J9,Ja,Jb,Jc,Jd,Je,Jf,Jg,Jh,Ji,Jj,Jk,Jl,Jm,Jn,Jo,Jp,Jq,Jr,Js,Jt,Ju,Jv,Jw,Jx,Jy,Jz,JA,JB,JC,JD,JE,JF,JG,JH,JI,JJ,JK,JL,JM,JN,JO,JP,stillI,IOp.kind,JQ,JR,JS,JT,JU,JV,JW,JX,JY,JZ,Y0,Y1,Y2,Y3,Y4,Y5,Y6,Y7,Y8,Y9,Ya,Yb,Yc,Yd,Ye,Yf,Yg,Yh,Yi,Yj,Yk,Yl,Ym,Yn,ial,Yo,Yp,Yq,Yr,Ys,Yt,Yu,Yv,ires,iresL,ires1,Yw,Yx,Yy,Yz,YA,YB,bin2,YC,YD,YE,YF,YG,YH,YI,YJ,YK,YL,YM,YN,YO,YP,YQ,YR,un1,shOk,eqL,eq1,fillL,putAt,IHeap.load1,IHeap.loadL,IHeap.storeL,YS,YT,YU,YV,YW,YX,YY,YZ,B0,B1,B2,B3,B4,B5,B6,B7,B8,B9,Ba,Bb,Bc,Bd,Be,Bf,Bg,Bh,Bi,Bj,Bk,Bl,Bm]) (by simp -implicitDefEqProofs [J0,J1,J2,J3,J4,J5,J6,J7,J8,J9,Ja,Jb,Jc,Jd,Je,Jf,Jg,Jh,Ji,Jj,Jk,Jl,Jm,Jn,Jo,Jp,Jq,Jr,Js,Jt,Ju,Jv,Jw,Jx,Jy,Jz,JA,JB,JC,JD,JE,JF,JG,JH,JI,JJ,JK,JL,JM,JN,JO,JP,stillI,IOp.kind,JQ,JR,JS,JT,JU,JV,JW,JX,JY,JZ,Y0,Y1,Y2,Y3,Y4,Y5,Y6,Y7,Y8,Y9,Ya,Yb,Yc,Yd,Ye,Yf,Yg,Yh,Yi,Yj,Yk,Yl,Ym,Yn,ial,Yo,Yp,Yq,Yr,Ys,Yt,Yu,Yv,ires,iresL,ires1,Yw,Yx,Yy,Yz,YA,YB,bin2,YC,YD,YE,YF,YG,YH,YI,YJ,YK,YL,YM,YN,YO,YP,YQ,YR,un1,shOk,eqL,eq1,fillL,putAt,IHeap.load1,IHeap.loadL,IHeap.storeL,YS,YT,YU,YV,YW,YX,YY,YZ,B0,B1,B2,B3,B4,B5,B6,B7,B8,B9,Ba,Bb,Bc,Bd,Be,Bf,Bg,Bh,Bi,Bj,Bk,Bl,Bm, hf])

/-- May the hole be? -/
def rightB (m : Mem) : Bool :=
  if m.e < 1 ∨ m.h < -1 ∨ (m.L.length : Int) ≤ m.h then false
  else if m.h = -1 then !m.f && decide (m.g = -1)
  else if m.f = false then decide (some m.g = m.L[m.h.toNat]?)
  else apart (m.L ++ m.S ++ [m.g])

include hc in
theorem right_ok {p : Nat} {m : Mem} {v1 v2 : Value} (hp : p < H.next) (hg : H.get p = some (.cells [v1, v2, .int .i64 m.e, .int .i64 m.h, .bool m.f, .int .i64 m.g] false)) (hL : SlW H 1 v1 (m.L.map rowI)) (hS : SlW H 1 v2 (m.S.map rowI)) (hl : m.L.length ≤ 1000000000) (hl2 : m.S.length ≤ 1000000000)
    (hK : ∀ H', H.le H' → K (.bool (rightB m)) H') : c.C (c.F n_members_Members_right) [.pointer (some ⟨p, 0, none⟩)] H K := by
  refine c.enter hc.members_Members_right rfl ?_
  have hL' := hL
  have hS' := hS
  obtain ⟨a1, c1, rfl⟩ := hL.len
  obtain ⟨a2, c2, rfl⟩ := hS.len
  simp only [List.length_map] at hg hL' hS'
  unfold rightB at hK
  by_cases he : m.e < 1
  · rw [if_pos (.inl he)] at hK
    simp -implicitDefEqProofs [J0,J1,J2,J3,J4,J5,J6,J7,J8,J9,Ja,Jb,Jc,Jd,Je,Jf,Jg,Jh,Ji,Jj,Jk,Jl,Jm,Jn,Jo,Jp,Jq,Jr,Js,Jt,Ju,Jv,Jw,Jx,Jy,Jz,JA,JB,JC,JD,JE,JF,JG,JH,JI,JJ,JK,JL,JM,JN,JO,JP,stillI,IOp.kind,JQ,JR,JS,JT,JU,JV,JW,JX,JY,JZ,Y0,Y1,Y2,Y3,Y4,Y5,Y6,Y7,Y8,Y9,Ya,Yb,Yc,Yd,Ye,Yf,Yg,Yh,Yi,Yj,Yk,Yl,Ym,Yn,ial,Yo,Yp,Yq,Yr,Ys,Yt,Yu,Yv,ires,iresL,ires1,Yw,Yx,Yy,Yz,YA,YB,bin2,YC,YD,YE,YF,YG,YH,YI,YJ,YK,YL,YM,YN,YO,YP,YQ,YR,un1,shOk,eqL,eq1,fillL,putAt,IHeap.load1,IHeap.loadL,IHeap.storeL,YS,YT,YU,YV,YW,YX,YY,YZ,B0,B1,B2,B3,B4,B5,B6,B7,B8,B9,Ba,Bb,Bc,Bd,Be,Bf,Bg,Bh,Bi,Bj,Bk,Bl,Bm, c_members_Members_right, hg, he]
    exact hK _ (H.le_refl)
  · by_cases hh : m.h < -1
    · rw [if_pos (.inr (.inl hh))] at hK
      simp -implicitDefEqProofs [J0,J1,J2,J3,J4,J5,J6,J7,J8,J9,Ja,Jb,Jc,Jd,Je,Jf,Jg,Jh,Ji,Jj,Jk,Jl,Jm,Jn,Jo,Jp,Jq,Jr,Js,Jt,Ju,Jv,Jw,Jx,Jy,Jz,JA,JB,JC,JD,JE,JF,JG,JH,JI,JJ,JK,JL,JM,JN,JO,JP,stillI,IOp.kind,JQ,JR,JS,JT,JU,JV,JW,JX,JY,JZ,Y0,Y1,Y2,Y3,Y4,Y5,Y6,Y7,Y8,Y9,Ya,Yb,Yc,Yd,Ye,Yf,Yg,Yh,Yi,Yj,Yk,Yl,Ym,Yn,ial,Yo,Yp,Yq,Yr,Ys,Yt,Yu,Yv,ires,iresL,ires1,Yw,Yx,Yy,Yz,YA,YB,bin2,YC,YD,YE,YF,YG,YH,YI,YJ,YK,YL,YM,YN,YO,YP,YQ,YR,un1,shOk,eqL,eq1,fillL,putAt,IHeap.load1,IHeap.loadL,IHeap.storeL,YS,YT,YU,YV,YW,YX,YY,YZ,B0,B1,B2,B3,B4,B5,B6,B7,B8,B9,Ba,Bb,Bc,Bd,Be,Bf,Bg,Bh,Bi,Bj,Bk,Bl,Bm, c_members_Members_right, hg, he, hh]
      exact hK _ (H.le_refl)
    · by_cases hh2 : (m.L.length : Int) ≤ m.h
      · rw [if_pos (.inr (.inr hh2))] at hK
        simp -implicitDefEqProofs [J0,J1,J2,J3,J4,J5,J6,J7,J8,J9,Ja,Jb,Jc,Jd,Je,Jf,Jg,Jh,Ji,Jj,Jk,Jl,Jm,Jn,Jo,Jp,Jq,Jr,Js,Jt,Ju,Jv,Jw,Jx,Jy,Jz,JA,JB,JC,JD,JE,JF,JG,JH,JI,JJ,JK,JL,JM,JN,JO,JP,stillI,IOp.kind,JQ,JR,JS,JT,JU,JV,JW,JX,JY,JZ,Y0,Y1,Y2,Y3,Y4,Y5,Y6,Y7,Y8,Y9,Ya,Yb,Yc,Yd,Ye,Yf,Yg,Yh,Yi,Yj,Yk,Yl,Ym,Yn,ial,Yo,Yp,Yq,Yr,Ys,Yt,Yu,Yv,ires,iresL,ires1,Yw,Yx,Yy,Yz,YA,YB,bin2,YC,YD,YE,YF,YG,YH,YI,YJ,YK,YL,YM,YN,YO,YP,YQ,YR,un1,shOk,eqL,eq1,fillL,putAt,IHeap.load1,IHeap.loadL,IHeap.storeL,YS,YT,YU,YV,YW,YX,YY,YZ,B0,B1,B2,B3,B4,B5,B6,B7,B8,B9,Ba,Bb,Bc,Bd,Be,Bf,Bg,Bh,Bi,Bj,Bk,Bl,Bm, c_members_Members_right, hg, he, hh, hh2]
        exact hK _ (H.le_refl)
      · rw [if_neg (by omega)] at hK
        by_cases hn : m.h = -1
        · rw [if_pos hn] at hK
          have hq : ¬ ((m.L.length : Int) ≤ -1) := by omega
          cases hf : m.f with
          | true =>
            rw [hf] at hK hg
            simp -implicitDefEqProofs [J0,J1,J2,J3,J4,J5,J6,J7,J8,J9,Ja,Jb,Jc,Jd,Je,Jf,Jg,Jh,Ji,Jj,Jk,Jl,Jm,Jn,Jo,Jp,Jq,Jr,Js,Jt,Ju,Jv,Jw,Jx,Jy,Jz,JA,JB,JC,JD,JE,JF,JG,JH,JI,JJ,JK,JL,JM,JN,JO,JP,stillI,IOp.kind,JQ,JR,JS,JT,JU,JV,JW,JX,JY,JZ,Y0,Y1,Y2,Y3,Y4,Y5,Y6,Y7,Y8,Y9,Ya,Yb,Yc,Yd,Ye,Yf,Yg,Yh,Yi,Yj,Yk,Yl,Ym,Yn,ial,Yo,Yp,Yq,Yr,Ys,Yt,Yu,Yv,ires,iresL,ires1,Yw,Yx,Yy,Yz,YA,YB,bin2,YC,YD,YE,YF,YG,YH,YI,YJ,YK,YL,YM,YN,YO,YP,YQ,YR,un1,shOk,eqL,eq1,fillL,putAt,IHeap.load1,IHeap.loadL,IHeap.storeL,YS,YT,YU,YV,YW,YX,YY,YZ,B0,B1,B2,B3,B4,B5,B6,B7,B8,B9,Ba,Bb,Bc,Bd,Be,Bf,Bg,Bh,Bi,Bj,Bk,Bl,Bm, c_members_Members_right, hg, he, hh, hh2, hq, hn, hf]
            exact hK _ (H.le_refl)
          | false =>
            rw [hf] at hK hg
            by_cases hgn : m.g = -1
            · simp -implicitDefEqProofs [J0,J1,J2,J3,J4,J5,J6,J7,J8,J9,Ja,Jb,Jc,Jd,Je,Jf,Jg,Jh,Ji,Jj,Jk,Jl,Jm,Jn,Jo,Jp,Jq,Jr,Js,Jt,Ju,Jv,Jw,Jx,Jy,Jz,JA,JB,JC,JD,JE,JF,JG,JH,JI,JJ,JK,JL,JM,JN,JO,JP,stillI,IOp.kind,JQ,JR,JS,JT,JU,JV,JW,JX,JY,JZ,Y0,Y1,Y2,Y3,Y4,Y5,Y6,Y7,Y8,Y9,Ya,Yb,Yc,Yd,Ye,Yf,Yg,Yh,Yi,Yj,Yk,Yl,Ym,Yn,ial,Yo,Yp,Yq,Yr,Ys,Yt,Yu,Yv,ires,iresL,ires1,Yw,Yx,Yy,Yz,YA,YB,bin2,YC,YD,YE,YF,YG,YH,YI,YJ,YK,YL,YM,YN,YO,YP,YQ,YR,un1,shOk,eqL,eq1,fillL,putAt,IHeap.load1,IHeap.loadL,IHeap.storeL,YS,YT,YU,YV,YW,YX,YY,YZ,B0,B1,B2,B3,B4,B5,B6,B7,B8,B9,Ba,Bb,Bc,Bd,Be,Bf,Bg,Bh,Bi,Bj,Bk,Bl,Bm, c_members_Members_right, hg, he, hh, hh2, hq, hn, hf, hgn]
              simpa [hgn] using hK _ (H.le_refl)
            · simp -implicitDefEqProofs [J0,J1,J2,J3,J4,J5,J6,J7,J8,J9,Ja,Jb,Jc,Jd,Je,Jf,Jg,Jh,Ji,Jj,Jk,Jl,Jm,Jn,Jo,Jp,Jq,Jr,Js,Jt,Ju,Jv,Jw,Jx,Jy,Jz,JA,JB,JC,JD,JE,JF,JG,JH,JI,JJ,JK,JL,JM,JN,JO,JP,stillI,IOp.kind,JQ,JR,JS,JT,JU,JV,JW,JX,JY,JZ,Y0,Y1,Y2,Y3,Y4,Y5,Y6,Y7,Y8,Y9,Ya,Yb,Yc,Yd,Ye,Yf,Yg,Yh,Yi,Yj,Yk,Yl,Ym,Yn,ial,Yo,Yp,Yq,Yr,Ys,Yt,Yu,Yv,ires,iresL,ires1,Yw,Yx,Yy,Yz,YA,YB,bin2,YC,YD,YE,YF,YG,YH,YI,YJ,YK,YL,YM,YN,YO,YP,YQ,YR,un1,shOk,eqL,eq1,fillL,putAt,IHeap.load1,IHeap.loadL,IHeap.storeL,YS,YT,YU,YV,YW,YX,YY,YZ,B0,B1,B2,B3,B4,B5,B6,B7,B8,B9,Ba,Bb,Bc,Bd,Be,Bf,Bg,Bh,Bi,Bj,Bk,Bl,Bm, c_members_Members_right, hg, he, hh, hh2, hq, hn, hf, hgn]
              simpa [hgn] using hK _ (H.le_refl)
        · rw [if_neg hn] at hK
          have hh0 : 0 ≤ m.h := by omega
          have hhl : m.h < (m.L.length : Int) := by omega
          cases hf : m.f with
          | false =>
            rw [if_pos hf] at hK
            rw [hf] at hg
            have hi : m.h.toNat < m.L.length := by omega
            obtain ⟨b, o, cp, cs, ro, e1, hbn, hget, hat⟩ := hL'.1.at1 (i := m.h.toNat) (x := .int .i64 m.L[m.h.toNat]) (by simp [hi, rowI])
            simp only [Value.slice.injEq] at e1
            obtain ⟨rfl, -, rfl⟩ := e1
            rw [List.getElem?_eq_getElem hi] at hK
            simp -implicitDefEqProofs [J0,J1,J2,J3,J4,J5,J6,J7,J8,J9,Ja,Jb,Jc,Jd,Je,Jf,Jg,Jh,Ji,Jj,Jk,Jl,Jm,Jn,Jo,Jp,Jq,Jr,Js,Jt,Ju,Jv,Jw,Jx,Jy,Jz,JA,JB,JC,JD,JE,JF,JG,JH,JI,JJ,JK,JL,JM,JN,JO,JP,stillI,IOp.kind,JQ,JR,JS,JT,JU,JV,JW,JX,JY,JZ,Y0,Y1,Y2,Y3,Y4,Y5,Y6,Y7,Y8,Y9,Ya,Yb,Yc,Yd,Ye,Yf,Yg,Yh,Yi,Yj,Yk,Yl,Ym,Yn,ial,Yo,Yp,Yq,Yr,Ys,Yt,Yu,Yv,ires,iresL,ires1,Yw,Yx,Yy,Yz,YA,YB,bin2,YC,YD,YE,YF,YG,YH,YI,YJ,YK,YL,YM,YN,YO,YP,YQ,YR,un1,shOk,eqL,eq1,fillL,putAt,IHeap.load1,IHeap.loadL,IHeap.storeL,YS,YT,YU,YV,YW,YX,YY,YZ,B0,B1,B2,B3,B4,B5,B6,B7,B8,B9,Ba,Bb,Bc,Bd,Be,Bf,Bg,Bh,Bi,Bj,Bk,Bl,Bm, c_members_Members_right, hg, he, hh, hh2, hn, hf, hh0, hhl, hget, hat]
            have := hK _ (H.le_refl)
            simpa using this
          | true =>
            rw [if_neg (by simp [hf])] at hK
            rw [hf] at hg
            simp -implicitDefEqProofs [J0,J1,J2,J3,J4,J5,J6,J7,J8,J9,Ja,Jb,Jc,Jd,Je,Jf,Jg,Jh,Ji,Jj,Jk,Jl,Jm,Jn,Jo,Jp,Jq,Jr,Js,Jt,Ju,Jv,Jw,Jx,Jy,Jz,JA,JB,JC,JD,JE,JF,JG,JH,JI,JJ,JK,JL,JM,JN,JO,JP,stillI,IOp.kind,JQ,JR,JS,JT,JU,JV,JW,JX,JY,JZ,Y0,Y1,Y2,Y3,Y4,Y5,Y6,Y7,Y8,Y9,Ya,Yb,Yc,Yd,Ye,Yf,Yg,Yh,Yi,Yj,Yk,Yl,Ym,Yn,ial,Yo,Yp,Yq,Yr,Ys,Yt,Yu,Yv,ires,iresL,ires1,Yw,Yx,Yy,Yz,YA,YB,bin2,YC,YD,YE,YF,YG,YH,YI,YJ,YK,YL,YM,YN,YO,YP,YQ,YR,un1,shOk,eqL,eq1,fillL,putAt,IHeap.load1,IHeap.loadL,IHeap.storeL,YS,YT,YU,YV,YW,YX,YY,YZ,B0,B1,B2,B3,B4,B5,B6,B7,B8,B9,Ba,Bb,Bc,Bd,Be,Bf,Bg,Bh,Bi,Bj,Bk,Bl,Bm, c_members_Members_right, hg, he, hh, hh2, hn, hf, fillL, putAt]
            obtain ⟨HB, hHB⟩ : ∃ HB : IHeap, HB = ((H.alloc (.cells [.int .i64 m.g] false)).alloc (.cells [.slice a1 m.L.length c1, .slice a2 m.S.length c2, .slice (some ⟨H.next, 0, none⟩) 1 1] false)) := ⟨_, rfl⟩
            rw [← hHB]
            have leB : H.le HB := by rw [hHB]; exact (H.le_alloc _).alloc _
            have gB0 : HB.get H.next = some (.cells [.int .i64 m.g] false) := by rw [hHB]; simp -implicitDefEqProofs [J0,J1,J2,J3,J4,J5,J6,J7,J8,J9,Ja,Jb,Jc,Jd,Je,Jf,Jg,Jh,Ji,Jj,Jk,Jl,Jm,Jn,Jo,Jp,Jq,Jr,Js,Jt,Ju,Jv,Jw,Jx,Jy,Jz,JA,JB,JC,JD,JE,JF,JG,JH,JI,JJ,JK,JL,JM,JN,JO,JP,stillI,IOp.kind,JQ,JR,JS,JT,JU,JV,JW,JX,JY,JZ,Y0,Y1,Y2,Y3,Y4,Y5,Y6,Y7,Y8,Y9,Ya,Yb,Yc,Yd,Ye,Yf,Yg,Yh,Yi,Yj,Yk,Yl,Ym,Yn,ial,Yo,Yp,Yq,Yr,Ys,Yt,Yu,Yv,ires,iresL,ires1,Yw,Yx,Yy,Yz,YA,YB,bin2,YC,YD,YE,YF,YG,YH,YI,YJ,YK,YL,YM,YN,YO,YP,YQ,YR,un1,shOk,eqL,eq1,fillL,putAt,IHeap.load1,IHeap.loadL,IHeap.storeL,YS,YT,YU,YV,YW,YX,YY,YZ,B0,B1,B2,B3,B4,B5,B6,B7,B8,B9,Ba,Bb,Bc,Bd,Be,Bf,Bg,Bh,Bi,Bj,Bk,Bl,Bm]
            have gB1 : HB.get (H.next + 1) = some (.cells [.slice a1 m.L.length c1, .slice a2 m.S.length c2, .slice (some ⟨H.next, 0, none⟩) 1 1] false) := by rw [hHB]; simp -implicitDefEqProofs [J0,J1,J2,J3,J4,J5,J6,J7,J8,J9,Ja,Jb,Jc,Jd,Je,Jf,Jg,Jh,Ji,Jj,Jk,Jl,Jm,Jn,Jo,Jp,Jq,Jr,Js,Jt,Ju,Jv,Jw,Jx,Jy,Jz,JA,JB,JC,JD,JE,JF,JG,JH,JI,JJ,JK,JL,JM,JN,JO,JP,stillI,IOp.kind,JQ,JR,JS,JT,JU,JV,JW,JX,JY,JZ,Y0,Y1,Y2,Y3,Y4,Y5,Y6,Y7,Y8,Y9,Ya,Yb,Yc,Yd,Ye,Yf,Yg,Yh,Yi,Yj,Yk,Yl,Ym,Yn,ial,Yo,Yp,Yq,Yr,Ys,Yt,Yu,Yv,ires,iresL,ires1,Yw,Yx,Yy,Yz,YA,YB,bin2,YC,YD,YE,YF,YG,YH,YI,YJ,YK,YL,YM,YN,YO,YP,YQ,YR,un1,shOk,eqL,eq1,fillL,putAt,IHeap.load1,IHeap.loadL,IHeap.storeL,YS,YT,YU,YV,YW,YX,YY,YZ,B0,B1,B2,B3,B4,B5,B6,B7,B8,B9,Ba,Bb,Bc,Bd,Be,Bf,Bg,Bh,Bi,Bj,Bk,Bl,Bm]
            have nB : HB.next = H.next + 1 + 1 := by rw [hHB]; rfl
            refine dcall_of c.mono (apart_ok c hc (parts := [(.slice a1 m.L.length c1, m.L), (.slice a2 m.S.length c2, m.S), (.slice (some ⟨H.next, 0, none⟩) 1 1, [m.g])]) (made_of (ls := [(.slice a1 m.L.length c1, m.L), (.slice a2 m.S.length c2, m.S), (.slice (some ⟨H.next, 0, none⟩) 1 1, [m.g])]) (by omega) gB1 (by simp only [List.length_cons, List.length_nil]; omega)) (fun x hx => ?_) (by simp only [List.length_cons, List.length_nil]; omega) (fun x hx => ?_) fun H2 k2 => ?_)
            · simp only [List.mem_cons, List.not_mem_nil, or_false] at hx
              rcases hx with rfl | rfl | rfl
              · exact hL'.le leB
              · exact hS'.le leB
              · exact one_of (by omega) gB0
            · simp only [List.mem_cons, List.not_mem_nil, or_false] at hx
              rcases hx with rfl | rfl | rfl
              · simp only; omega
              · simp only; omega
              · simp only [List.length_singleton]; omega
            · have e2 : ([(Value.slice a1 m.L.length c1, m.L), (.slice a2 m.S.length c2, m.S), (.slice (some ⟨H.next, 0, none⟩) 1 1, [m.g])].map (·.2)).flatten = m.L ++ m.S ++ [m.g] := by simp
              rw [e2]
              simp -implicitDefEqProofs [J0,J1,J2,J3,J4,J5,J6,J7,J8,J9,Ja,Jb,Jc,Jd,Je,Jf,Jg,Jh,Ji,Jj,Jk,Jl,Jm,Jn,Jo,Jp,Jq,Jr,Js,Jt,Ju,Jv,Jw,Jx,Jy,Jz,JA,JB,JC,JD,JE,JF,JG,JH,JI,JJ,JK,JL,JM,JN,JO,JP,stillI,IOp.kind,JQ,JR,JS,JT,JU,JV,JW,JX,JY,JZ,Y0,Y1,Y2,Y3,Y4,Y5,Y6,Y7,Y8,Y9,Ya,Yb,Yc,Yd,Ye,Yf,Yg,Yh,Yi,Yj,Yk,Yl,Ym,Yn,ial,Yo,Yp,Yq,Yr,Ys,Yt,Yu,Yv,ires,iresL,ires1,Yw,Yx,Yy,Yz,YA,YB,bin2,YC,YD,YE,YF,YG,YH,YI,YJ,YK,YL,YM,YN,YO,YP,YQ,YR,un1,shOk,eqL,eq1,fillL,putAt,IHeap.load1,IHeap.loadL,IHeap.storeL,YS,YT,YU,YV,YW,YX,YY,YZ,B0,B1,B2,B3,B4,B5,B6,B7,B8,B9,Ba,Bb,Bc,Bd,Be,Bf,Bg,Bh,Bi,Bj,Bk,Bl,Bm]
              have := hK _ (leB.trans k2)
              simpa using this

end

/-! ### of bytes -/
def pE (s : List UInt8) : Rd × Int := takeInt (some s)
def pH (s : List UInt8) : Rd × Int := takeInt (pE s).1
def pF (s : List UInt8) : Rd × Int := takeByte (pH s).1
def pG (s : List UInt8) : Rd × Int := takeInt (pF s).1
def pL (s : List UInt8) : Rd × List Int := takeList takeInt (pG s).1
def pS (s : List UInt8) : Rd × List Int := takeList takeInt (pL s).1
def pM (s : List UInt8) : Mem := ⟨(pL s).2, (pS s).2, (pE s).2, (pH s).2, decide ((pF s).2 = 1), (pG s).2⟩
def grpB (m : Mem) : Bool := decide (2 ≤ m.L.length) && (decide (m.L.length ≤ 8) && apart (m.L ++ m.S))
def readOk (s : List UInt8) : Bool := decide (rdE (pS s).1 = 0) && (decide ((pF s).2 ≤ 1) && (grpB (pM s) && rightB (pM s)))

theorem takeByte_inv {r : Rd} {s' : List UInt8} {n : Int} (h : takeByte r = (some s', n)) : ∃ b : UInt8, r = some (b :: s') ∧ n = (b.toNat : Nat) := by
  match r, h with
  | none, h => simp [takeByte] at h
  | some [], h => simp [takeByte] at h
  | some (b :: s), h =>
    simp only [takeByte, Prod.mk.injEq, Option.some.injEq] at h
    obtain ⟨rfl, rfl⟩ := h
    exact ⟨b, rfl, rfl⟩
theorem rdE_zero {r : Rd} (h : rdE r = 0) : r = some [] := by
  unfold rdE at h
  split at h
  · assumption
  · omega
theorem read_inv {s : List UInt8} (h : rdE (pS s).1 = 0) (hf : (pF s).2 ≤ 1) : s = encM (pM s) ∧ okI (pE s).2 ∧ okI (pH s).2 ∧ okI (pG s).2 ∧ (∀ n ∈ (pL s).2, okI n) ∧ ∀ n ∈ (pS s).2, okI n := by
  have h6 : (pS s).1 = some [] := rdE_zero h
  obtain ⟨i6, o6⟩ := takeList_inv (f := encI) ints_inv (r := (pL s).1) (l := (pS s).2) (s' := []) (Prod.ext h6 rfl)
  obtain ⟨i5, o5⟩ := takeList_inv (f := encI) ints_inv (r := (pG s).1) (l := (pL s).2) (Prod.ext i6 rfl)
  have i4 := takeInt_inv (r := (pF s).1) (n := (pG s).2) (Prod.ext i5 rfl)
  have o4 := takeInt_len (r := (pF s).1) (n := (pG s).2) (Prod.ext i5 rfl)
  obtain ⟨b, i3, e3⟩ := takeByte_inv (r := (pH s).1) (n := (pF s).2) (Prod.ext i4 rfl)
  have i2 := takeInt_inv (r := (pE s).1) (n := (pH s).2) (Prod.ext i3 rfl)
  have o2 := takeInt_len (r := (pE s).1) (n := (pH s).2) (Prod.ext i3 rfl)
  have i1 := takeInt_inv (r := some s) (n := (pE s).2) (Prod.ext i2 rfl)
  have o1 := takeInt_len (r := some s) (n := (pE s).2) (Prod.ext i2 rfl)
  simp only [Option.some.injEq] at i1
  refine ⟨?_, o1, o2, o4, o5, o6⟩
  have hb : b = flag (decide ((pF s).2 = 1)) := by
    have hbn : b.toNat = 0 ∨ b.toNat = 1 := by omega
    rcases hbn with hbn | hbn
    · have : ¬ (pF s).2 = 1 := by omega
      simp only [this, decide_false, flag]
      exact UInt8.toNat_inj.1 (by simpa using hbn)
    · have : (pF s).2 = 1 := by omega
      simp only [this, decide_true, flag]
      exact UInt8.toNat_inj.1 (by simpa using hbn)
  conv => lhs; rw [i1]
  simp [encM, pM, hb, encInts]
theorem read_enc {m : Mem} (h : m.ok) : pM (encM m) = m ∧ rdE (pS (encM m)).1 = 0 ∧ (pF (encM m)).2 ≤ 1 := by
  have hep := h.ep
  have hh1 := h.h1
  have hh2 := h.h2
  have h8 := h.eight
  have h64 := h.sl
  have hgr := h.gr
  obtain ⟨r5, h5⟩ : ∃ r, r = (encI m.S.length ++ (m.S.map encI).flatten) ++ [] := ⟨_, rfl⟩
  obtain ⟨r4, h4⟩ : ∃ r, r = (encI m.L.length ++ (m.L.map encI).flatten) ++ r5 := ⟨_, rfl⟩
  obtain ⟨r3, h3⟩ : ∃ r, r = encI m.g ++ r4 := ⟨_, rfl⟩
  obtain ⟨r2, h2⟩ : ∃ r, r = flag m.f :: r3 := ⟨_, rfl⟩
  obtain ⟨r1, h1⟩ : ∃ r, r = encI m.h ++ r2 := ⟨_, rfl⟩
  have e : encM m = encI m.e ++ r1 := by rw [h1, h2, h3, h4, h5]; simp [encM, encInts]
  have e1 : pE (encM m) = (some r1, m.e) := by unfold pE; rw [e]; exact takeInt_lay (by omega) (by omega) _
  have e2 : pH (encM m) = (some r2, m.h) := by unfold pH; rw [e1, h1]; exact takeInt_lay (by omega) (by omega) _
  have e3 : pF (encM m) = (some r3, (((flag m.f).toNat : Nat) : Int)) := by unfold pF; rw [e2, h2]; rfl
  have e4 : pG (encM m) = (some r4, m.g) := by unfold pG; rw [e3, h3]; exact takeInt_lay (by omega) (by omega) _
  have e5 : pL (encM m) = (some r5, m.L) := by unfold pL; rw [e4, h4]; exact takeList_lay (f := encI) (p := okI) ints_lay encI_ne (by omega) h.okL _
  have e6 : pS (encM m) = (some [], m.S) := by unfold pS; rw [e5, h5]; exact takeList_lay (f := encI) (p := okI) ints_lay encI_ne (by omega) h.okS _
  have hfl : ((flag m.f).toNat : Int) = if m.f then 1 else 0 := by cases m.f <;> rfl
  refine ⟨?_, by rw [e6]; rfl, by rw [e3]; simp only; rw [hfl]; split <;> omega⟩
  unfold pM
  rw [e1, e2, e3, e4, e5, e6]
  obtain ⟨L, S, ee, hh, f, g⟩ := m
  simp only [Mem.mk.injEq, true_and, and_true]
  cases f <;> rfl
theorem readOk_ok {s : List UInt8} (h : readOk s = true) : (pM s).ok ∧ s = encM (pM s) := by
  simp only [readOk, Bool.and_eq_true, decide_eq_true_eq, grpB] at h
  obtain ⟨h1, h2, ⟨h3, h4, h5⟩, h6⟩ := h
  obtain ⟨i1, o1, o2, o3, o4, o5⟩ := read_inv h1 h2
  refine ⟨?_, i1⟩
  have hap := (apart_iff _).1 h5
  unfold rightB at h6
  split at h6
  · cases h6
  · rename_i hr
    have he : 1 ≤ (pM s).e ∧ (pM s).e < 9223372036854775808 := ⟨by omega, o1.2⟩
    split at h6
    · rename_i hn
      simp only [Bool.and_eq_true, decide_eq_true_eq, Bool.not_eq_true'] at h6
      exact ⟨h3, h4, hap, he, by omega, by omega, by rw [h6.1]; simp, by rw [h6.2]; omega⟩
    · rename_i hn
      split at h6
      · rename_i hf
        simp only [decide_eq_true_eq] at h6
        have hm : (pM s).g ∈ (pM s).L := List.mem_of_getElem? h6.symm
        have := hap.1 _ (List.mem_append.2 (.inl hm))
        exact ⟨h3, h4, hap, he, by omega, by omega, by rw [hf]; simp, by omega⟩
      · have := ((apart_snoc).1 ((apart_iff _).1 h6)).2
        exact ⟨h3, h4, hap, he, by omega, by omega, fun _ => by omega, by omega⟩

end Go.Proofs.YtkphglpmhebglaaI
