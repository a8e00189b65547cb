/- The document's answer for who is in a group: as bytes. -/
import Derived.Test.YtkphglpmhebglaaRefM3
import Derived.Test.YtkphglpmhebglaaRefCodecLX
namespace Go.Proofs.YtkphglpmhebglaaI
set_option linter.unusedSimpArgs false
set_option linter.unusedVariables false
open Go

section
variable (c : Ctx) (hR : HasRef23 c) (hc : HasRef03 c) {H : IHeap} {K : Value → IHeap → Prop}

include hR hc in
theorem RText_ok23 {S : List Nat} {v : Value} {m : Mem} (h : RM H S v m) (hok : m.ok) (hK : ∀ H', H.le H' → K (strV (encM m)) H') : c.C (c.F n_hurdleref23_Text) [v] H K := by
  refine c.enter hR.hurdleref23_Text rfl ?_
  obtain ⟨v1, v2, rfl, w1, w2, o1, o2⟩ := h
  have hep := hok.ep
  have hh1 := hok.h1
  have hh2 := hok.h2
  have h8 := hok.eight
  have h64 := hok.sl
  have hgr := hok.gr
  have hoL := hok.okL
  have hoS := hok.okS
  obtain ⟨a1, c1, rfl⟩ := w1.len
  obtain ⟨a2, c2, rfl⟩ := w2.len
  simp only [List.length_map] at w1 w2
  have l1 := encI_len (n := m.e) (by omega) (by omega)
  have l2 := encI_len (n := m.h) (by omega) (by omega)
  have l3 := encI_len (n := m.g) (by omega) (by omega)
  have l4 := encI_len (n := m.L.length) (by omega) (by omega)
  have l5 := encI_len (n := m.S.length) (by omega) (by omega)
  have l6 := encInts_len m.L hoL
  have l7 := encInts_len m.S hoS
  have e : IntKind.i64.max = 9223372036854775807 := by decide
  have leA : H.le (H.alloc (.cells [.slice a1 m.L.length c1, .slice a2 m.S.length c2, .int .i64 m.e, .int .i64 m.h, .bool m.f, .int .i64 m.g] false)) := H.le_alloc _
  obtain ⟨HA, hHA⟩ : ∃ HA : IHeap, HA = H.alloc (.cells [.slice a1 m.L.length c1, .slice a2 m.S.length c2, .int .i64 m.e, .int .i64 m.h, .bool m.f, .int .i64 m.g] false) := ⟨_, rfl⟩
  have kA : H.le HA := by rw [hHA]; exact leA
  have nA : HA.next = H.next + 1 := by rw [hHA]; rfl
  have gA : HA.get H.next = some (.cells [.slice a1 m.L.length c1, .slice a2 m.S.length c2, .int .i64 m.e, .int .i64 m.h, .bool m.f, .int .i64 m.g] false) := by rw [hHA]; simp -implicitDefEqProofs [J0,J1,J2,J3,J4,J5,J6,J7,J8,J9,Ja,Jb,Jc,Jd,Je,Jf,Jg,Jh,Ji,Jj,Jk,Jl,Jm,Jn,Jo,Jp,Jq,Jr,Js,Jt,Ju,Jv,Jw,Jx,Jy,Jz,JA,JB,JC,JD,JE,JF,JG,JH,JI,JJ,JK,JL,JM,JN,JO,JP,stillI,IOp.kind,JQ,JR,JS,JT,JU,JV,JW,JX,JY,JZ,Y0,Y1,Y2,Y3,Y4,Y5,Y6,Y7,Y8,Y9,Ya,Yb,Yc,Yd,Ye,Yf,Yg,Yh,Yi,Yj,Yk,Yl,Ym,Yn,ial,Yo,Yp,Yq,Yr,Ys,Yt,Yu,Yv,ires,iresL,ires1,Yw,Yx,Yy,Yz,YA,YB,bin2,YC,YD,YE,YF,YG,YH,YI,YJ,YK,YL,YM,YN,YO,YP,YQ,YR,un1,shOk,eqL,eq1,fillL,putAt,IHeap.load1,IHeap.loadL,IHeap.storeL,YS,YT,YU,YV,YW,YX,YY,YZ,B0,B1,B2,B3,B4,B5,B6,B7,B8,B9,Ba,Bb,Bc,Bd,Be,Bf,Bg,Bh,Bi,Bj,Bk,Bl,Bm]
  have hf : m.f = true ∨ m.f = false := by cases m.f <;> simp
  rcases hf with hf | hf
  all_goals
    rw [hf] at hHA gA
    simp -implicitDefEqProofs [J0,J1,J2,J3,J4,J5,J6,J7,J8,J9,Ja,Jb,Jc,Jd,Je,Jf,Jg,Jh,Ji,Jj,Jk,Jl,Jm,Jn,Jo,Jp,Jq,Jr,Js,Jt,Ju,Jv,Jw,Jx,Jy,Jz,JA,JB,JC,JD,JE,JF,JG,JH,JI,JJ,JK,JL,JM,JN,JO,JP,stillI,IOp.kind,JQ,JR,JS,JT,JU,JV,JW,JX,JY,JZ,Y0,Y1,Y2,Y3,Y4,Y5,Y6,Y7,Y8,Y9,Ya,Yb,Yc,Yd,Ye,Yf,Yg,Yh,Yi,Yj,Yk,Yl,Ym,Yn,ial,Yo,Yp,Yq,Yr,Ys,Yt,Yu,Yv,ires,iresL,ires1,Yw,Yx,Yy,Yz,YA,YB,bin2,YC,YD,YE,YF,YG,YH,YI,YJ,YK,YL,YM,YN,YO,YP,YQ,YR,un1,shOk,eqL,eq1,fillL,putAt,IHeap.load1,IHeap.loadL,IHeap.storeL,YS,YT,YU,YV,YW,YX,YY,YZ,B0,B1,B2,B3,B4,B5,B6,B7,B8,B9,Ba,Bb,Bc,Bd,Be,Bf,Bg,Bh,Bi,Bj,Bk,Bl,Bm, c_hurdleref23_Text, hf, ← hHA, gA]
    refine dcall_of c.mono (refInt_ok c hc (by omega) (by omega) fun H1 k1 => ?_)
    have g1 := (k1.get H.next (by omega)).trans gA
    simp -implicitDefEqProofs [J0,J1,J2,J3,J4,J5,J6,J7,J8,J9,Ja,Jb,Jc,Jd,Je,Jf,Jg,Jh,Ji,Jj,Jk,Jl,Jm,Jn,Jo,Jp,Jq,Jr,Js,Jt,Ju,Jv,Jw,Jx,Jy,Jz,JA,JB,JC,JD,JE,JF,JG,JH,JI,JJ,JK,JL,JM,JN,JO,JP,stillI,IOp.kind,JQ,JR,JS,JT,JU,JV,JW,JX,JY,JZ,Y0,Y1,Y2,Y3,Y4,Y5,Y6,Y7,Y8,Y9,Ya,Yb,Yc,Yd,Ye,Yf,Yg,Yh,Yi,Yj,Yk,Yl,Ym,Yn,ial,Yo,Yp,Yq,Yr,Ys,Yt,Yu,Yv,ires,iresL,ires1,Yw,Yx,Yy,Yz,YA,YB,bin2,YC,YD,YE,YF,YG,YH,YI,YJ,YK,YL,YM,YN,YO,YP,YQ,YR,un1,shOk,eqL,eq1,fillL,putAt,IHeap.load1,IHeap.loadL,IHeap.storeL,YS,YT,YU,YV,YW,YX,YY,YZ,B0,B1,B2,B3,B4,B5,B6,B7,B8,B9,Ba,Bb,Bc,Bd,Be,Bf,Bg,Bh,Bi,Bj,Bk,Bl,Bm, stillI, g1]
    refine dcall_of c.mono (refInt_ok c hc (by omega) (by omega) fun H2 k2 => ?_)
    have g2 := (k2.get H.next (by have := k1.next; omega)).trans g1
    have m1 : ¬ (9223372036854775807 : Int) < (encI m.e).length + (encI m.h).length := by omega
    have m2 : ¬ (9223372036854775807 : Int) < (encI m.e).length + (encI m.h).length + 1 := by omega
    have m3 : ¬ (9223372036854775807 : Int) < (encI m.e).length + ((encI m.h).length + 1) + (encI m.g).length := by omega
    simp -implicitDefEqProofs [J0,J1,J2,J3,J4,J5,J6,J7,J8,J9,Ja,Jb,Jc,Jd,Je,Jf,Jg,Jh,Ji,Jj,Jk,Jl,Jm,Jn,Jo,Jp,Jq,Jr,Js,Jt,Ju,Jv,Jw,Jx,Jy,Jz,JA,JB,JC,JD,JE,JF,JG,JH,JI,JJ,JK,JL,JM,JN,JO,JP,stillI,IOp.kind,JQ,JR,JS,JT,JU,JV,JW,JX,JY,JZ,Y0,Y1,Y2,Y3,Y4,Y5,Y6,Y7,Y8,Y9,Ya,Yb,Yc,Yd,Ye,Yf,Yg,Yh,Yi,Yj,Yk,Yl,Ym,Yn,ial,Yo,Yp,Yq,Yr,Ys,Yt,Yu,Yv,ires,iresL,ires1,Yw,Yx,Yy,Yz,YA,YB,bin2,YC,YD,YE,YF,YG,YH,YI,YJ,YK,YL,YM,YN,YO,YP,YQ,YR,un1,shOk,eqL,eq1,fillL,putAt,IHeap.load1,IHeap.loadL,IHeap.storeL,YS,YT,YU,YV,YW,YX,YY,YZ,B0,B1,B2,B3,B4,B5,B6,B7,B8,B9,Ba,Bb,Bc,Bd,Be,Bf,Bg,Bh,Bi,Bj,Bk,Bl,Bm, stillI, g2, strV, str2, e, m1, m2, m3]
    refine dcall_of c.mono (refInt_ok c hc (by omega) (by omega) fun H3 k3 => ?_)
    have kk3 := (kA.trans k1).trans (k2.trans k3)
    have g3 := (k3.get H.next (by have := k1.next; have := k2.next; omega)).trans g2
    simp -implicitDefEqProofs [J0,J1,J2,J3,J4,J5,J6,J7,J8,J9,Ja,Jb,Jc,Jd,Je,Jf,Jg,Jh,Ji,Jj,Jk,Jl,Jm,Jn,Jo,Jp,Jq,Jr,Js,Jt,Ju,Jv,Jw,Jx,Jy,Jz,JA,JB,JC,JD,JE,JF,JG,JH,JI,JJ,JK,JL,JM,JN,JO,JP,stillI,IOp.kind,JQ,JR,JS,JT,JU,JV,JW,JX,JY,JZ,Y0,Y1,Y2,Y3,Y4,Y5,Y6,Y7,Y8,Y9,Ya,Yb,Yc,Yd,Ye,Yf,Yg,Yh,Yi,Yj,Yk,Yl,Ym,Yn,ial,Yo,Yp,Yq,Yr,Ys,Yt,Yu,Yv,ires,iresL,ires1,Yw,Yx,Yy,Yz,YA,YB,bin2,YC,YD,YE,YF,YG,YH,YI,YJ,YK,YL,YM,YN,YO,YP,YQ,YR,un1,shOk,eqL,eq1,fillL,putAt,IHeap.load1,IHeap.loadL,IHeap.storeL,YS,YT,YU,YV,YW,YX,YY,YZ,B0,B1,B2,B3,B4,B5,B6,B7,B8,B9,Ba,Bb,Bc,Bd,Be,Bf,Bg,Bh,Bi,Bj,Bk,Bl,Bm, stillI, g3, strV, str2, e, m1, m2, m3]
    refine dcall_of c.mono (refInts_ok c hc (w1.le kk3).1 hoL (by omega) fun H4 k4 => ?_)
    have g4 := (k4.get H.next (by have := k1.next; have := k2.next; have := k3.next; omega)).trans g3
    have m4 : ¬ (9223372036854775807 : Int) < ((encI m.e).length : Int) + ((encI m.h).length + ((encI m.g).length + 1)) + ((encI m.L.length).length + (encInts m.L).length) := by omega
    simp -implicitDefEqProofs [J0,J1,J2,J3,J4,J5,J6,J7,J8,J9,Ja,Jb,Jc,Jd,Je,Jf,Jg,Jh,Ji,Jj,Jk,Jl,Jm,Jn,Jo,Jp,Jq,Jr,Js,Jt,Ju,Jv,Jw,Jx,Jy,Jz,JA,JB,JC,JD,JE,JF,JG,JH,JI,JJ,JK,JL,JM,JN,JO,JP,stillI,IOp.kind,JQ,JR,JS,JT,JU,JV,JW,JX,JY,JZ,Y0,Y1,Y2,Y3,Y4,Y5,Y6,Y7,Y8,Y9,Ya,Yb,Yc,Yd,Ye,Yf,Yg,Yh,Yi,Yj,Yk,Yl,Ym,Yn,ial,Yo,Yp,Yq,Yr,Ys,Yt,Yu,Yv,ires,iresL,ires1,Yw,Yx,Yy,Yz,YA,YB,bin2,YC,YD,YE,YF,YG,YH,YI,YJ,YK,YL,YM,YN,YO,YP,YQ,YR,un1,shOk,eqL,eq1,fillL,putAt,IHeap.load1,IHeap.loadL,IHeap.storeL,YS,YT,YU,YV,YW,YX,YY,YZ,B0,B1,B2,B3,B4,B5,B6,B7,B8,B9,Ba,Bb,Bc,Bd,Be,Bf,Bg,Bh,Bi,Bj,Bk,Bl,Bm, stillI, g4, strV, str2, e, m1, m2, m3, m4]
    refine dcall_of c.mono (refInts_ok c hc (w2.le (kk3.trans k4)).1 hoS (by omega) fun H5 k5 => ?_)
    have m5 : ¬ (9223372036854775807 : Int) < ((encI m.e).length : Int) + ((encI m.h).length + ((encI m.g).length + ((encI m.L.length).length + (encInts m.L).length) + 1)) + ((encI m.S.length).length + (encInts m.S).length) := by omega
    simp -implicitDefEqProofs [J0,J1,J2,J3,J4,J5,J6,J7,J8,J9,Ja,Jb,Jc,Jd,Je,Jf,Jg,Jh,Ji,Jj,Jk,Jl,Jm,Jn,Jo,Jp,Jq,Jr,Js,Jt,Ju,Jv,Jw,Jx,Jy,Jz,JA,JB,JC,JD,JE,JF,JG,JH,JI,JJ,JK,JL,JM,JN,JO,JP,stillI,IOp.kind,JQ,JR,JS,JT,JU,JV,JW,JX,JY,JZ,Y0,Y1,Y2,Y3,Y4,Y5,Y6,Y7,Y8,Y9,Ya,Yb,Yc,Yd,Ye,Yf,Yg,Yh,Yi,Yj,Yk,Yl,Ym,Yn,ial,Yo,Yp,Yq,Yr,Ys,Yt,Yu,Yv,ires,iresL,ires1,Yw,Yx,Yy,Yz,YA,YB,bin2,YC,YD,YE,YF,YG,YH,YI,YJ,YK,YL,YM,YN,YO,YP,YQ,YR,un1,shOk,eqL,eq1,fillL,putAt,IHeap.load1,IHeap.loadL,IHeap.storeL,YS,YT,YU,YV,YW,YX,YY,YZ,B0,B1,B2,B3,B4,B5,B6,B7,B8,B9,Ba,Bb,Bc,Bd,Be,Bf,Bg,Bh,Bi,Bj,Bk,Bl,Bm, strV, str2, e, m5]
    have := hK H5 ((kk3.trans k4).trans k5)
    simpa [encM, strV, flag, hf] using this

end
end Go.Proofs.YtkphglpmhebglaaI
