/- Stripes that are known: the document's deeds, a fragment moves. -/
import Derived.Test.YtmdkkhnenciknaaSmM
namespace Go.Proofs.YtmdkkhnenciknaaI
set_option linter.unusedSimpArgs false
set_option linter.unusedVariables false
open Go

section
variable (c : Ctx) (hR : HasRef24 c) (h23 : HasRef23 c) {H : IHeap} {K : Value → IHeap → Prop}

include hR h23 in
theorem RMove_ok {S : List Nat} {u : Value} {L : List St} {id ix sr : Int} (h : RS H S u L) (hl : L.length ≤ 4096) (hS : ∀ b ∈ S, b < H.next) (hsv : ∀ x ∈ L, x.sv.length ≤ 1000000)
    (hK : ∀ v' H', H.le H' → RS H' S v' (SMove L id ix sr).1 → K (.tuple #[v', .int .i64 (SMove L id ix sr).2]) H') : c.C (c.F n_hurdleref24_Move) [u, .int .i64 id, .int .i64 ix, .int .i64 sr] H K := by
  refine c.enter hR.hurdleref24_Move rfl ?_
  have le0 : H.le H := IHeap.le_refl _
  have hKn := fun (b : Bool) (K2 : Value → IHeap → Prop) (e : (getS L id).isSome = b) (hk : K2 (.bool b) H) => Rknown_ok c hR (id := id) (K := K2) h hl (by rw [e]; exact hk)
  unfold SMove at hK
  by_cases h3 : sr < 0
  · rw [if_pos (.inr (.inr (.inl h3)))] at hK
    simp -implicitDefEqProofs [J0,J1,J2,J3,J4,J5,J6,J7,J8,J9,Ja,Jb,Jc,Jd,Je,Jf,Jg,Jh,Ji,Jj,Jk,Jl,Jm,Jn,Jo,Jp,Jq,Jr,Js,Jt,Ju,Jv,Jw,Jx,Jy,Jz,JA,JB,JC,JD,JE,JF,JG,JH,JI,JJ,JK,JL,JM,JN,JO,JP,stillI,IOp.kind,JQ,JR,JS,JT,JU,JV,JW,JX,JY,JZ,Y0,Y1,Y2,Y3,Y4,Y5,Y6,Y7,Y8,Y9,Ya,Yb,Yc,Yd,Ye,Yf,Yg,Yh,Yi,Yj,Yk,Yl,Ym,Yn,ial,Yo,Yp,Yq,Yr,Ys,Yt,Yu,Yv,ires,iresL,ires1,Yw,Yx,Yy,Yz,YA,YB,bin2,YC,YD,YE,YF,YG,YH,YI,YJ,YK,YL,YM,YN,YO,YP,YQ,YR,un1,shOk,eqL,eq1,fillL,putAt,IHeap.load1,IHeap.loadL,IHeap.storeL,YS,YT,YU,YV,YW,YX,YY,YZ,B0,B1,B2,B3,B4,B5,B6,B7,B8,B9,Ba,Bb,Bc,Bd,Be,Bf,Bg,Bh,Bi,Bj,Bk,Bl,Bm, c_hurdleref24_Move, h3]
    exact hK _ _ le0 h
  · by_cases h4 : 63 < sr
    · rw [if_pos (.inr (.inr (.inr h4)))] at hK
      simp -implicitDefEqProofs [J0,J1,J2,J3,J4,J5,J6,J7,J8,J9,Ja,Jb,Jc,Jd,Je,Jf,Jg,Jh,Ji,Jj,Jk,Jl,Jm,Jn,Jo,Jp,Jq,Jr,Js,Jt,Ju,Jv,Jw,Jx,Jy,Jz,JA,JB,JC,JD,JE,JF,JG,JH,JI,JJ,JK,JL,JM,JN,JO,JP,stillI,IOp.kind,JQ,JR,JS,JT,JU,JV,JW,JX,JY,JZ,Y0,Y1,Y2,Y3,Y4,Y5,Y6,Y7,Y8,Y9,Ya,Yb,Yc,Yd,Ye,Yf,Yg,Yh,Yi,Yj,Yk,Yl,Ym,Yn,ial,Yo,Yp,Yq,Yr,Ys,Yt,Yu,Yv,ires,iresL,ires1,Yw,Yx,Yy,Yz,YA,YB,bin2,YC,YD,YE,YF,YG,YH,YI,YJ,YK,YL,YM,YN,YO,YP,YQ,YR,un1,shOk,eqL,eq1,fillL,putAt,IHeap.load1,IHeap.loadL,IHeap.storeL,YS,YT,YU,YV,YW,YX,YY,YZ,B0,B1,B2,B3,B4,B5,B6,B7,B8,B9,Ba,Bb,Bc,Bd,Be,Bf,Bg,Bh,Bi,Bj,Bk,Bl,Bm, c_hurdleref24_Move, h3, h4]
      exact hK _ _ le0 h
    · cases hg : getS L id with
      | none =>
        have e : (getS L id).isSome = false := by rw [hg]; rfl
        rw [hg] at hK
        simp only at hK
        simp -implicitDefEqProofs [J0,J1,J2,J3,J4,J5,J6,J7,J8,J9,Ja,Jb,Jc,Jd,Je,Jf,Jg,Jh,Ji,Jj,Jk,Jl,Jm,Jn,Jo,Jp,Jq,Jr,Js,Jt,Ju,Jv,Jw,Jx,Jy,Jz,JA,JB,JC,JD,JE,JF,JG,JH,JI,JJ,JK,JL,JM,JN,JO,JP,stillI,IOp.kind,JQ,JR,JS,JT,JU,JV,JW,JX,JY,JZ,Y0,Y1,Y2,Y3,Y4,Y5,Y6,Y7,Y8,Y9,Ya,Yb,Yc,Yd,Ye,Yf,Yg,Yh,Yi,Yj,Yk,Yl,Ym,Yn,ial,Yo,Yp,Yq,Yr,Ys,Yt,Yu,Yv,ires,iresL,ires1,Yw,Yx,Yy,Yz,YA,YB,bin2,YC,YD,YE,YF,YG,YH,YI,YJ,YK,YL,YM,YN,YO,YP,YQ,YR,un1,shOk,eqL,eq1,fillL,putAt,IHeap.load1,IHeap.loadL,IHeap.storeL,YS,YT,YU,YV,YW,YX,YY,YZ,B0,B1,B2,B3,B4,B5,B6,B7,B8,B9,Ba,Bb,Bc,Bd,Be,Bf,Bg,Bh,Bi,Bj,Bk,Bl,Bm, c_hurdleref24_Move, h3, h4]
        refine call_of (hKn false _ e ?_)
        simp -implicitDefEqProofs [J0,J1,J2,J3,J4,J5,J6,J7,J8,J9,Ja,Jb,Jc,Jd,Je,Jf,Jg,Jh,Ji,Jj,Jk,Jl,Jm,Jn,Jo,Jp,Jq,Jr,Js,Jt,Ju,Jv,Jw,Jx,Jy,Jz,JA,JB,JC,JD,JE,JF,JG,JH,JI,JJ,JK,JL,JM,JN,JO,JP,stillI,IOp.kind,JQ,JR,JS,JT,JU,JV,JW,JX,JY,JZ,Y0,Y1,Y2,Y3,Y4,Y5,Y6,Y7,Y8,Y9,Ya,Yb,Yc,Yd,Ye,Yf,Yg,Yh,Yi,Yj,Yk,Yl,Ym,Yn,ial,Yo,Yp,Yq,Yr,Ys,Yt,Yu,Yv,ires,iresL,ires1,Yw,Yx,Yy,Yz,YA,YB,bin2,YC,YD,YE,YF,YG,YH,YI,YJ,YK,YL,YM,YN,YO,YP,YQ,YR,un1,shOk,eqL,eq1,fillL,putAt,IHeap.load1,IHeap.loadL,IHeap.storeL,YS,YT,YU,YV,YW,YX,YY,YZ,B0,B1,B2,B3,B4,B5,B6,B7,B8,B9,Ba,Bb,Bc,Bd,Be,Bf,Bg,Bh,Bi,Bj,Bk,Bl,Bm]
        refine call_of (hKn false _ e ?_)
        by_cases h1 : ix < 0
        · rw [if_pos (.inl h1)] at hK
          simp -implicitDefEqProofs [J0,J1,J2,J3,J4,J5,J6,J7,J8,J9,Ja,Jb,Jc,Jd,Je,Jf,Jg,Jh,Ji,Jj,Jk,Jl,Jm,Jn,Jo,Jp,Jq,Jr,Js,Jt,Ju,Jv,Jw,Jx,Jy,Jz,JA,JB,JC,JD,JE,JF,JG,JH,JI,JJ,JK,JL,JM,JN,JO,JP,stillI,IOp.kind,JQ,JR,JS,JT,JU,JV,JW,JX,JY,JZ,Y0,Y1,Y2,Y3,Y4,Y5,Y6,Y7,Y8,Y9,Ya,Yb,Yc,Yd,Ye,Yf,Yg,Yh,Yi,Yj,Yk,Yl,Ym,Yn,ial,Yo,Yp,Yq,Yr,Ys,Yt,Yu,Yv,ires,iresL,ires1,Yw,Yx,Yy,Yz,YA,YB,bin2,YC,YD,YE,YF,YG,YH,YI,YJ,YK,YL,YM,YN,YO,YP,YQ,YR,un1,shOk,eqL,eq1,fillL,putAt,IHeap.load1,IHeap.loadL,IHeap.storeL,YS,YT,YU,YV,YW,YX,YY,YZ,B0,B1,B2,B3,B4,B5,B6,B7,B8,B9,Ba,Bb,Bc,Bd,Be,Bf,Bg,Bh,Bi,Bj,Bk,Bl,Bm, h1]
          exact hK _ _ le0 h
        · by_cases h2 : 8 ≤ ix
          · rw [if_pos (.inr (.inl h2))] at hK
            simp -implicitDefEqProofs [J0,J1,J2,J3,J4,J5,J6,J7,J8,J9,Ja,Jb,Jc,Jd,Je,Jf,Jg,Jh,Ji,Jj,Jk,Jl,Jm,Jn,Jo,Jp,Jq,Jr,Js,Jt,Ju,Jv,Jw,Jx,Jy,Jz,JA,JB,JC,JD,JE,JF,JG,JH,JI,JJ,JK,JL,JM,JN,JO,JP,stillI,IOp.kind,JQ,JR,JS,JT,JU,JV,JW,JX,JY,JZ,Y0,Y1,Y2,Y3,Y4,Y5,Y6,Y7,Y8,Y9,Ya,Yb,Yc,Yd,Ye,Yf,Yg,Yh,Yi,Yj,Yk,Yl,Ym,Yn,ial,Yo,Yp,Yq,Yr,Ys,Yt,Yu,Yv,ires,iresL,ires1,Yw,Yx,Yy,Yz,YA,YB,bin2,YC,YD,YE,YF,YG,YH,YI,YJ,YK,YL,YM,YN,YO,YP,YQ,YR,un1,shOk,eqL,eq1,fillL,putAt,IHeap.load1,IHeap.loadL,IHeap.storeL,YS,YT,YU,YV,YW,YX,YY,YZ,B0,B1,B2,B3,B4,B5,B6,B7,B8,B9,Ba,Bb,Bc,Bd,Be,Bf,Bg,Bh,Bi,Bj,Bk,Bl,Bm, h1, h2]
            exact hK _ _ le0 h
          · rw [if_neg (by omega)] at hK
            simp -implicitDefEqProofs [J0,J1,J2,J3,J4,J5,J6,J7,J8,J9,Ja,Jb,Jc,Jd,Je,Jf,Jg,Jh,Ji,Jj,Jk,Jl,Jm,Jn,Jo,Jp,Jq,Jr,Js,Jt,Ju,Jv,Jw,Jx,Jy,Jz,JA,JB,JC,JD,JE,JF,JG,JH,JI,JJ,JK,JL,JM,JN,JO,JP,stillI,IOp.kind,JQ,JR,JS,JT,JU,JV,JW,JX,JY,JZ,Y0,Y1,Y2,Y3,Y4,Y5,Y6,Y7,Y8,Y9,Ya,Yb,Yc,Yd,Ye,Yf,Yg,Yh,Yi,Yj,Yk,Yl,Ym,Yn,ial,Yo,Yp,Yq,Yr,Ys,Yt,Yu,Yv,ires,iresL,ires1,Yw,Yx,Yy,Yz,YA,YB,bin2,YC,YD,YE,YF,YG,YH,YI,YJ,YK,YL,YM,YN,YO,YP,YQ,YR,un1,shOk,eqL,eq1,fillL,putAt,IHeap.load1,IHeap.loadL,IHeap.storeL,YS,YT,YU,YV,YW,YX,YY,YZ,B0,B1,B2,B3,B4,B5,B6,B7,B8,B9,Ba,Bb,Bc,Bd,Be,Bf,Bg,Bh,Bi,Bj,Bk,Bl,Bm, h1, h2]
            refine call_of (hKn false _ e ?_)
            simp -implicitDefEqProofs [J0,J1,J2,J3,J4,J5,J6,J7,J8,J9,Ja,Jb,Jc,Jd,Je,Jf,Jg,Jh,Ji,Jj,Jk,Jl,Jm,Jn,Jo,Jp,Jq,Jr,Js,Jt,Ju,Jv,Jw,Jx,Jy,Jz,JA,JB,JC,JD,JE,JF,JG,JH,JI,JJ,JK,JL,JM,JN,JO,JP,stillI,IOp.kind,JQ,JR,JS,JT,JU,JV,JW,JX,JY,JZ,Y0,Y1,Y2,Y3,Y4,Y5,Y6,Y7,Y8,Y9,Ya,Yb,Yc,Yd,Ye,Yf,Yg,Yh,Yi,Yj,Yk,Yl,Ym,Yn,ial,Yo,Yp,Yq,Yr,Ys,Yt,Yu,Yv,ires,iresL,ires1,Yw,Yx,Yy,Yz,YA,YB,bin2,YC,YD,YE,YF,YG,YH,YI,YJ,YK,YL,YM,YN,YO,YP,YQ,YR,un1,shOk,eqL,eq1,fillL,putAt,IHeap.load1,IHeap.loadL,IHeap.storeL,YS,YT,YU,YV,YW,YX,YY,YZ,B0,B1,B2,B3,B4,B5,B6,B7,B8,B9,Ba,Bb,Bc,Bd,Be,Bf,Bg,Bh,Bi,Bj,Bk,Bl,Bm]
            exact hK _ _ le0 h
      | some x =>
        have e : (getS L id).isSome = true := by rw [hg]; rfl
        rw [hg] at hK
        simp only at hK
        obtain ⟨i0, i1, hx⟩ := getS_some hg
        obtain ⟨b, o, cp, cs, ro, v, eu, hb, hget, hrow, hbd, s5, o5, a5, c5, ev⟩ := h.at hx
        subst eu
        subst ev
        have r1 := row_get hrow 1 (by omega)
        have r5 := row_get hrow 5 (by omega)
        simp only [rowSt, List.getElem?_cons_succ, List.getElem?_cons_zero] at r1 r5
        have hi' : id < (L.length : Int) := by omega
        have eid : ((id.toNat : Nat) : Int) = id := by omega
        have hxl := hsv x (List.mem_of_getElem? hx)
        simp -implicitDefEqProofs [J0,J1,J2,J3,J4,J5,J6,J7,J8,J9,Ja,Jb,Jc,Jd,Je,Jf,Jg,Jh,Ji,Jj,Jk,Jl,Jm,Jn,Jo,Jp,Jq,Jr,Js,Jt,Ju,Jv,Jw,Jx,Jy,Jz,JA,JB,JC,JD,JE,JF,JG,JH,JI,JJ,JK,JL,JM,JN,JO,JP,stillI,IOp.kind,JQ,JR,JS,JT,JU,JV,JW,JX,JY,JZ,Y0,Y1,Y2,Y3,Y4,Y5,Y6,Y7,Y8,Y9,Ya,Yb,Yc,Yd,Ye,Yf,Yg,Yh,Yi,Yj,Yk,Yl,Ym,Yn,ial,Yo,Yp,Yq,Yr,Ys,Yt,Yu,Yv,ires,iresL,ires1,Yw,Yx,Yy,Yz,YA,YB,bin2,YC,YD,YE,YF,YG,YH,YI,YJ,YK,YL,YM,YN,YO,YP,YQ,YR,un1,shOk,eqL,eq1,fillL,putAt,IHeap.load1,IHeap.loadL,IHeap.storeL,YS,YT,YU,YV,YW,YX,YY,YZ,B0,B1,B2,B3,B4,B5,B6,B7,B8,B9,Ba,Bb,Bc,Bd,Be,Bf,Bg,Bh,Bi,Bj,Bk,Bl,Bm, c_hurdleref24_Move, h3, h4]
        refine call_of (hKn true _ e ?_)
        by_cases h1 : ix < 0
        · rw [if_pos (.inl h1)] at hK
          simp -implicitDefEqProofs [J0,J1,J2,J3,J4,J5,J6,J7,J8,J9,Ja,Jb,Jc,Jd,Je,Jf,Jg,Jh,Ji,Jj,Jk,Jl,Jm,Jn,Jo,Jp,Jq,Jr,Js,Jt,Ju,Jv,Jw,Jx,Jy,Jz,JA,JB,JC,JD,JE,JF,JG,JH,JI,JJ,JK,JL,JM,JN,JO,JP,stillI,IOp.kind,JQ,JR,JS,JT,JU,JV,JW,JX,JY,JZ,Y0,Y1,Y2,Y3,Y4,Y5,Y6,Y7,Y8,Y9,Ya,Yb,Yc,Yd,Ye,Yf,Yg,Yh,Yi,Yj,Yk,Yl,Ym,Yn,ial,Yo,Yp,Yq,Yr,Ys,Yt,Yu,Yv,ires,iresL,ires1,Yw,Yx,Yy,Yz,YA,YB,bin2,YC,YD,YE,YF,YG,YH,YI,YJ,YK,YL,YM,YN,YO,YP,YQ,YR,un1,shOk,eqL,eq1,fillL,putAt,IHeap.load1,IHeap.loadL,IHeap.storeL,YS,YT,YU,YV,YW,YX,YY,YZ,B0,B1,B2,B3,B4,B5,B6,B7,B8,B9,Ba,Bb,Bc,Bd,Be,Bf,Bg,Bh,Bi,Bj,Bk,Bl,Bm, h1]
          exact hK _ _ le0 h
        · by_cases h2 : (x.sv.length : Int) ≤ ix
          · rw [if_pos (.inr (.inl h2))] at hK
            simp -implicitDefEqProofs [J0,J1,J2,J3,J4,J5,J6,J7,J8,J9,Ja,Jb,Jc,Jd,Je,Jf,Jg,Jh,Ji,Jj,Jk,Jl,Jm,Jn,Jo,Jp,Jq,Jr,Js,Jt,Ju,Jv,Jw,Jx,Jy,Jz,JA,JB,JC,JD,JE,JF,JG,JH,JI,JJ,JK,JL,JM,JN,JO,JP,stillI,IOp.kind,JQ,JR,JS,JT,JU,JV,JW,JX,JY,JZ,Y0,Y1,Y2,Y3,Y4,Y5,Y6,Y7,Y8,Y9,Ya,Yb,Yc,Yd,Ye,Yf,Yg,Yh,Yi,Yj,Yk,Yl,Ym,Yn,ial,Yo,Yp,Yq,Yr,Ys,Yt,Yu,Yv,ires,iresL,ires1,Yw,Yx,Yy,Yz,YA,YB,bin2,YC,YD,YE,YF,YG,YH,YI,YJ,YK,YL,YM,YN,YO,YP,YQ,YR,un1,shOk,eqL,eq1,fillL,putAt,IHeap.load1,IHeap.loadL,IHeap.storeL,YS,YT,YU,YV,YW,YX,YY,YZ,B0,B1,B2,B3,B4,B5,B6,B7,B8,B9,Ba,Bb,Bc,Bd,Be,Bf,Bg,Bh,Bi,Bj,Bk,Bl,Bm, h1, i0, hi', hget, r5, h2]
            exact hK _ _ le0 h
          · rw [if_neg (by omega)] at hK
            simp -implicitDefEqProofs [J0,J1,J2,J3,J4,J5,J6,J7,J8,J9,Ja,Jb,Jc,Jd,Je,Jf,Jg,Jh,Ji,Jj,Jk,Jl,Jm,Jn,Jo,Jp,Jq,Jr,Js,Jt,Ju,Jv,Jw,Jx,Jy,Jz,JA,JB,JC,JD,JE,JF,JG,JH,JI,JJ,JK,JL,JM,JN,JO,JP,stillI,IOp.kind,JQ,JR,JS,JT,JU,JV,JW,JX,JY,JZ,Y0,Y1,Y2,Y3,Y4,Y5,Y6,Y7,Y8,Y9,Ya,Yb,Yc,Yd,Ye,Yf,Yg,Yh,Yi,Yj,Yk,Yl,Ym,Yn,ial,Yo,Yp,Yq,Yr,Ys,Yt,Yu,Yv,ires,iresL,ires1,Yw,Yx,Yy,Yz,YA,YB,bin2,YC,YD,YE,YF,YG,YH,YI,YJ,YK,YL,YM,YN,YO,YP,YQ,YR,un1,shOk,eqL,eq1,fillL,putAt,IHeap.load1,IHeap.loadL,IHeap.storeL,YS,YT,YU,YV,YW,YX,YY,YZ,B0,B1,B2,B3,B4,B5,B6,B7,B8,B9,Ba,Bb,Bc,Bd,Be,Bf,Bg,Bh,Bi,Bj,Bk,Bl,Bm, h1, i0, hi', hget, r5, h2]
            refine call_of (hKn true _ e ?_)
            simp -implicitDefEqProofs [J0,J1,J2,J3,J4,J5,J6,J7,J8,J9,Ja,Jb,Jc,Jd,Je,Jf,Jg,Jh,Ji,Jj,Jk,Jl,Jm,Jn,Jo,Jp,Jq,Jr,Js,Jt,Ju,Jv,Jw,Jx,Jy,Jz,JA,JB,JC,JD,JE,JF,JG,JH,JI,JJ,JK,JL,JM,JN,JO,JP,stillI,IOp.kind,JQ,JR,JS,JT,JU,JV,JW,JX,JY,JZ,Y0,Y1,Y2,Y3,Y4,Y5,Y6,Y7,Y8,Y9,Ya,Yb,Yc,Yd,Ye,Yf,Yg,Yh,Yi,Yj,Yk,Yl,Ym,Yn,ial,Yo,Yp,Yq,Yr,Ys,Yt,Yu,Yv,ires,iresL,ires1,Yw,Yx,Yy,Yz,YA,YB,bin2,YC,YD,YE,YF,YG,YH,YI,YJ,YK,YL,YM,YN,YO,YP,YQ,YR,un1,shOk,eqL,eq1,fillL,putAt,IHeap.load1,IHeap.loadL,IHeap.storeL,YS,YT,YU,YV,YW,YX,YY,YZ,B0,B1,B2,B3,B4,B5,B6,B7,B8,B9,Ba,Bb,Bc,Bd,Be,Bf,Bg,Bh,Bi,Bj,Bk,Bl,Bm]
            refine call_of (hKn true _ e ?_)
            simp -implicitDefEqProofs [J0,J1,J2,J3,J4,J5,J6,J7,J8,J9,Ja,Jb,Jc,Jd,Je,Jf,Jg,Jh,Ji,Jj,Jk,Jl,Jm,Jn,Jo,Jp,Jq,Jr,Js,Jt,Ju,Jv,Jw,Jx,Jy,Jz,JA,JB,JC,JD,JE,JF,JG,JH,JI,JJ,JK,JL,JM,JN,JO,JP,stillI,IOp.kind,JQ,JR,JS,JT,JU,JV,JW,JX,JY,JZ,Y0,Y1,Y2,Y3,Y4,Y5,Y6,Y7,Y8,Y9,Ya,Yb,Yc,Yd,Ye,Yf,Yg,Yh,Yi,Yj,Yk,Yl,Ym,Yn,ial,Yo,Yp,Yq,Yr,Ys,Yt,Yu,Yv,ires,iresL,ires1,Yw,Yx,Yy,Yz,YA,YB,bin2,YC,YD,YE,YF,YG,YH,YI,YJ,YK,YL,YM,YN,YO,YP,YQ,YR,un1,shOk,eqL,eq1,fillL,putAt,IHeap.load1,IHeap.loadL,IHeap.storeL,YS,YT,YU,YV,YW,YX,YY,YZ,B0,B1,B2,B3,B4,B5,B6,B7,B8,B9,Ba,Bb,Bc,Bd,Be,Bf,Bg,Bh,Bi,Bj,Bk,Bl,Bm, i0, hi', hget, r5]
            refine call_of (At_ok c h23 s5 (by omega) ?_)
            have fin : ¬ (0 ≤ atI x.sv sr ∧ atI x.sv sr ≠ ix) → x.st ≠ 3 → ∀ (P : Prop), (∀ (rows : List (List Value)) (blk blk2 : Nat) (H1 H2 : IHeap), rows.length = L.length → firstI H 6 L.length (.slice (some ⟨b, o, none⟩) L.length cp) = some rows.flatten → appendI H 6 64 (.slice none 0 0) L.length rows.flatten = some (.slice (some ⟨blk, 0, none⟩) L.length (UNK + 6), H1) → H.le H1 → H.next ≤ blk → blk < H1.next → H1.next ≤ blk2 → blk2 < H2.next →
                firstI H1 1 x.sv.length (.slice a5 x.sv.length c5) = some (x.sv.map iV) → appendI H1 1 8 (.slice none 0 0) x.sv.length (x.sv.map iV) = some (.slice (some ⟨blk2, 0, none⟩) x.sv.length (UNK + 1), H2) → H1.le H2 → H1.get blk = some (.cells rows.flatten false) → H2.get blk2 = some (.cells (x.sv.map iV) false) → rows.flatten.length = L.length * 6 → (∀ w, rows.flatten.set (id.toNat * 6 + 5) w = (rows.modify id.toNat fun r => r.set 5 w).flatten) →
                (∀ H', H.le H' → blk < H'.next → H'.get blk = some (.cells (rows.modify id.toNat fun r => r.set 5 (.slice (some ⟨blk2, 0, none⟩) x.sv.length (UNK + 1))).flatten false) → blk2 < H'.next → H'.get blk2 = some (.cells ((x.sv.set ix.toNat sr).map iV) false) → RS H' S (.slice (some ⟨blk, 0, none⟩) L.length (UNK + 6)) (L.set id.toNat { x with sv := x.sv.set ix.toNat sr })) → P) → P := by
              intro _ _ P hP
              obtain ⟨rows, hr⟩ := h
              obtain ⟨f1, v1, H1, e1, g1, k1⟩ := hr.copy hl (B := H.next) (Nat.le_refl _)
              obtain ⟨blk, hb1, hbn, rfl, hgb⟩ : ∃ blk, H.next ≤ blk ∧ blk < H1.next ∧ v1 = .slice (some ⟨blk, 0, none⟩) L.length (UNK + 6) ∧ H1.get blk = some (.cells rows.flatten false) := by
                rcases g1 with ⟨e0, _⟩ | ⟨_, blk, q1, q2, q3, q4⟩
                · have := hr.len; rw [e0] at this; simp at this; omega
                · exact ⟨blk, q1, q2, by rw [q3, hr.len], q4⟩
              have k1l := k1.le (Nat.le_refl _)
              obtain ⟨f2, v2, H2, e2, g2, k2⟩ := app_ok (l := x.sv) (old := []) (B := H1.next) (s5.le k1l) (Grow.nil _ _ _) (Nat.le_refl _) hxl (by simp)
              obtain ⟨blk2, hb2, hbn2, rfl, hgb2⟩ : ∃ blk2, H1.next ≤ blk2 ∧ blk2 < H2.next ∧ v2 = .slice (some ⟨blk2, 0, none⟩) x.sv.length (UNK + 1) ∧ H2.get blk2 = some (.cells (x.sv.map iV) false) := by
                rcases g2 with ⟨e0, _⟩ | ⟨_, blk, q1, q2, q3, q4⟩
                · rw [List.nil_append, List.map_eq_nil_iff] at e0; rw [e0] at h2; simp at h2; omega
                · rw [List.nil_append] at q3 q4
                  exact ⟨blk, q1, q2, by rw [q3, List.length_map], by rw [q4, flat_rowI]⟩
              have hfl := flat_len rows 6 hr.all.2
              refine hP rows blk blk2 H1 H2 hr.len f1 e1 k1l hb1 hbn hb2 hbn2 f2 (by simpa using e2) (k2.le (Nat.le_refl _)) hgb hgb2 (by rw [hfl, hr.len]) (fun w => flat_set rows id.toNat 5 w hr.all.2 (by omega)) fun H' hle hn' hg' hn2' hg2' => ?_
              have hw2 : SlW H' 1 (.slice (some ⟨blk2, 0, none⟩) (x.sv.set ix.toNat sr).length (UNK + 1)) ((x.sv.set ix.toNat sr).map rowI) :=
                ⟨slr_ints hn2' hg2' (by rw [List.drop_zero, List.take_of_length_le (by simp)]) (by simp), _, _, by rw [List.length_map], .inr ⟨_, _, rfl⟩, .inr ⟨rfl, by simp⟩⟩
              rw [List.length_set] at hw2
              refine hr.mod hx hle (fun v s f => ⟨.slice (some ⟨blk2, 0, none⟩) x.sv.length (UNK + 1), rfl, hw2, fun b' o' n' cc e' => ?_⟩) hb1 hn' hg' hS
              simp only [Value.slice.injEq, Option.some.injEq, Addr.mk.injEq] at e'
              obtain ⟨⟨rfl, _⟩, _⟩ := e'
              exact ⟨fun hm => by have := hS _ hm; have := k1l.next; omega, hn2'⟩
            by_cases h5 : 0 ≤ atI x.sv sr ∧ atI x.sv sr ≠ ix
            · rw [if_pos h5] at hK
              simp -implicitDefEqProofs [J0,J1,J2,J3,J4,J5,J6,J7,J8,J9,Ja,Jb,Jc,Jd,Je,Jf,Jg,Jh,Ji,Jj,Jk,Jl,Jm,Jn,Jo,Jp,Jq,Jr,Js,Jt,Ju,Jv,Jw,Jx,Jy,Jz,JA,JB,JC,JD,JE,JF,JG,JH,JI,JJ,JK,JL,JM,JN,JO,JP,stillI,IOp.kind,JQ,JR,JS,JT,JU,JV,JW,JX,JY,JZ,Y0,Y1,Y2,Y3,Y4,Y5,Y6,Y7,Y8,Y9,Ya,Yb,Yc,Yd,Ye,Yf,Yg,Yh,Yi,Yj,Yk,Yl,Ym,Yn,ial,Yo,Yp,Yq,Yr,Ys,Yt,Yu,Yv,ires,iresL,ires1,Yw,Yx,Yy,Yz,YA,YB,bin2,YC,YD,YE,YF,YG,YH,YI,YJ,YK,YL,YM,YN,YO,YP,YQ,YR,un1,shOk,eqL,eq1,fillL,putAt,IHeap.load1,IHeap.loadL,IHeap.storeL,YS,YT,YU,YV,YW,YX,YY,YZ,B0,B1,B2,B3,B4,B5,B6,B7,B8,B9,Ba,Bb,Bc,Bd,Be,Bf,Bg,Bh,Bi,Bj,Bk,Bl,Bm, h5.1, h5.2]
              exact hK _ _ le0 h
            · rw [if_neg h5] at hK
              have h5' : 0 ≤ atI x.sv sr → atI x.sv sr = ix := fun h0 => Classical.byContradiction fun hn => h5 ⟨h0, hn⟩
              by_cases h7 : x.st = 3
              · rw [if_pos h7] at hK
                by_cases h6 : 0 ≤ atI x.sv sr
                · have h6' := h5' h6
                  rw [h6'] at h6
                  simp -implicitDefEqProofs [J0,J1,J2,J3,J4,J5,J6,J7,J8,J9,Ja,Jb,Jc,Jd,Je,Jf,Jg,Jh,Ji,Jj,Jk,Jl,Jm,Jn,Jo,Jp,Jq,Jr,Js,Jt,Ju,Jv,Jw,Jx,Jy,Jz,JA,JB,JC,JD,JE,JF,JG,JH,JI,JJ,JK,JL,JM,JN,JO,JP,stillI,IOp.kind,JQ,JR,JS,JT,JU,JV,JW,JX,JY,JZ,Y0,Y1,Y2,Y3,Y4,Y5,Y6,Y7,Y8,Y9,Ya,Yb,Yc,Yd,Ye,Yf,Yg,Yh,Yi,Yj,Yk,Yl,Ym,Yn,ial,Yo,Yp,Yq,Yr,Ys,Yt,Yu,Yv,ires,iresL,ires1,Yw,Yx,Yy,Yz,YA,YB,bin2,YC,YD,YE,YF,YG,YH,YI,YJ,YK,YL,YM,YN,YO,YP,YQ,YR,un1,shOk,eqL,eq1,fillL,putAt,IHeap.load1,IHeap.loadL,IHeap.storeL,YS,YT,YU,YV,YW,YX,YY,YZ,B0,B1,B2,B3,B4,B5,B6,B7,B8,B9,Ba,Bb,Bc,Bd,Be,Bf,Bg,Bh,Bi,Bj,Bk,Bl,Bm, h6', h6, i0, hi', hget, r1, h7]
                  exact hK _ _ le0 h
                · simp -implicitDefEqProofs [J0,J1,J2,J3,J4,J5,J6,J7,J8,J9,Ja,Jb,Jc,Jd,Je,Jf,Jg,Jh,Ji,Jj,Jk,Jl,Jm,Jn,Jo,Jp,Jq,Jr,Js,Jt,Ju,Jv,Jw,Jx,Jy,Jz,JA,JB,JC,JD,JE,JF,JG,JH,JI,JJ,JK,JL,JM,JN,JO,JP,stillI,IOp.kind,JQ,JR,JS,JT,JU,JV,JW,JX,JY,JZ,Y0,Y1,Y2,Y3,Y4,Y5,Y6,Y7,Y8,Y9,Ya,Yb,Yc,Yd,Ye,Yf,Yg,Yh,Yi,Yj,Yk,Yl,Ym,Yn,ial,Yo,Yp,Yq,Yr,Ys,Yt,Yu,Yv,ires,iresL,ires1,Yw,Yx,Yy,Yz,YA,YB,bin2,YC,YD,YE,YF,YG,YH,YI,YJ,YK,YL,YM,YN,YO,YP,YQ,YR,un1,shOk,eqL,eq1,fillL,putAt,IHeap.load1,IHeap.loadL,IHeap.storeL,YS,YT,YU,YV,YW,YX,YY,YZ,B0,B1,B2,B3,B4,B5,B6,B7,B8,B9,Ba,Bb,Bc,Bd,Be,Bf,Bg,Bh,Bi,Bj,Bk,Bl,Bm, h6, i0, hi', hget, r1, h7]
                  exact hK _ _ le0 h
              · rw [if_neg h7] at hK
                refine fin h5 h7 _ fun rows blk blk2 H1 H2 hrl f1 e1 k1 hb1 hbn hb2 hbn2 f2 e2 k2 gb gb2 hfl hset hRS => ?_
                have n1 := k1.next
                have n2 := k2.next
                have hget1 := (k1.get b hb).trans hget
                have hget2 := (k2.get b (by omega)).trans hget1
                have gb' := (k2.get blk hbn).trans gb
                have hix : ix.toNat < x.sv.length := by omega
                have hst : ix.toNat + 1 ≤ x.sv.length := by omega
                have h2' : ix < (x.sv.length : Int) := by omega
                have h1' : 0 ≤ ix := by omega
                have hput' : List.take ix.toNat (List.map iV x.sv) ++ Value.int .i64 sr :: List.drop (ix.toNat + 1) (List.map iV x.sv) = (x.sv.set ix.toNat sr).map iV := by
                  have : putAt (List.map iV x.sv) ix.toNat [.int .i64 sr] = List.take ix.toNat (List.map iV x.sv) ++ Value.int .i64 sr :: List.drop (ix.toNat + 1) (List.map iV x.sv) := by simp [putAt]
                  rw [← this, putAt_iV hix sr]
                have hne : blk ≠ blk2 := by omega
                have hne' : blk2 ≠ blk := by omega
                obtain ⟨cs2, hcs2⟩ : ∃ cs, cs = rows.flatten := ⟨_, rfl⟩
                have hset2 := hset (.slice (some ⟨blk2, 0, none⟩) x.sv.length (UNK + 1))
                rw [← hcs2] at f1 e1 gb gb' hfl hset2
                have hbd2 : id.toNat * 6 + 5 + 1 ≤ cs2.length := by rw [hfl]; omega
                have hset3 : List.take (id.toNat * 6 + 5) cs2 ++ Value.slice (some ⟨blk2, 0, none⟩) x.sv.length (UNK + 1) :: List.drop (id.toNat * 6 + 5 + 1) cs2 = (rows.modify id.toNat fun r => r.set 5 (.slice (some ⟨blk2, 0, none⟩) x.sv.length (UNK + 1))).flatten := by
                  rw [← hset2, List.set_eq_take_append_cons_drop, if_pos (by omega)]
                obtain ⟨ys, hys⟩ : ∃ ys, ys = (x.sv.set ix.toNat sr).map iV := ⟨_, rfl⟩
                rw [← hys] at hput' hRS
                obtain ⟨xs, hxs⟩ : ∃ xs, xs = x.sv.map iV := ⟨_, rfl⟩
                have hxsl : xs.length = x.sv.length := by rw [hxs]; simp
                rw [← hxs] at f2 e2 gb2 hput'
                by_cases h6 : 0 ≤ atI x.sv sr
                · have h6' := h5' h6
                  rw [h6'] at h6
                  simp -implicitDefEqProofs [J0,J1,J2,J3,J4,J5,J6,J7,J8,J9,Ja,Jb,Jc,Jd,Je,Jf,Jg,Jh,Ji,Jj,Jk,Jl,Jm,Jn,Jo,Jp,Jq,Jr,Js,Jt,Ju,Jv,Jw,Jx,Jy,Jz,JA,JB,JC,JD,JE,JF,JG,JH,JI,JJ,JK,JL,JM,JN,JO,JP,stillI,IOp.kind,JQ,JR,JS,JT,JU,JV,JW,JX,JY,JZ,Y0,Y1,Y2,Y3,Y4,Y5,Y6,Y7,Y8,Y9,Ya,Yb,Yc,Yd,Ye,Yf,Yg,Yh,Yi,Yj,Yk,Yl,Ym,Yn,ial,Yo,Yp,Yq,Yr,Ys,Yt,Yu,Yv,ires,iresL,ires1,Yw,Yx,Yy,Yz,YA,YB,bin2,YC,YD,YE,YF,YG,YH,YI,YJ,YK,YL,YM,YN,YO,YP,YQ,YR,un1,shOk,eqL,eq1,fillL,putAt,IHeap.load1,IHeap.loadL,IHeap.storeL,YS,YT,YU,YV,YW,YX,YY,YZ,B0,B1,B2,B3,B4,B5,B6,B7,B8,B9,Ba,Bb,Bc,Bd,Be,Bf,Bg,Bh,Bi,Bj,Bk,Bl,Bm, h6', h6, i0, hi', hget, r1, h7, lenOfI, f1, e1, hget1, r5, f2, e2, gb2, hxsl, hst, h1', h2', hput', hne, hne', gb', hbd2, hset3]
                  have kk := ((k1.trans k2).set (i := blk2) (by omega) (.cells ys false)).set hb1 (.cells (rows.modify id.toNat fun r => r.set 5 (.slice (some ⟨blk2, 0, none⟩) x.sv.length (UNK + 1))).flatten false)
                  exact hK _ _ kk (hRS _ kk (by simp only [YV]; omega) (by rw [YT, if_pos rfl]) (by simp only [YV]; omega) (by rw [YT, if_neg hne', YT, if_pos rfl]))
                · simp -implicitDefEqProofs [J0,J1,J2,J3,J4,J5,J6,J7,J8,J9,Ja,Jb,Jc,Jd,Je,Jf,Jg,Jh,Ji,Jj,Jk,Jl,Jm,Jn,Jo,Jp,Jq,Jr,Js,Jt,Ju,Jv,Jw,Jx,Jy,Jz,JA,JB,JC,JD,JE,JF,JG,JH,JI,JJ,JK,JL,JM,JN,JO,JP,stillI,IOp.kind,JQ,JR,JS,JT,JU,JV,JW,JX,JY,JZ,Y0,Y1,Y2,Y3,Y4,Y5,Y6,Y7,Y8,Y9,Ya,Yb,Yc,Yd,Ye,Yf,Yg,Yh,Yi,Yj,Yk,Yl,Ym,Yn,ial,Yo,Yp,Yq,Yr,Ys,Yt,Yu,Yv,ires,iresL,ires1,Yw,Yx,Yy,Yz,YA,YB,bin2,YC,YD,YE,YF,YG,YH,YI,YJ,YK,YL,YM,YN,YO,YP,YQ,YR,un1,shOk,eqL,eq1,fillL,putAt,IHeap.load1,IHeap.loadL,IHeap.storeL,YS,YT,YU,YV,YW,YX,YY,YZ,B0,B1,B2,B3,B4,B5,B6,B7,B8,B9,Ba,Bb,Bc,Bd,Be,Bf,Bg,Bh,Bi,Bj,Bk,Bl,Bm, h6, i0, hi', hget, r1, h7, lenOfI, f1, e1, hget1, r5, f2, e2, gb2, hxsl, hst, h1', h2', hput', hne, hne', gb', hbd2, hset3]
                  have kk := ((k1.trans k2).set (i := blk2) (by omega) (.cells ys false)).set hb1 (.cells (rows.modify id.toNat fun r => r.set 5 (.slice (some ⟨blk2, 0, none⟩) x.sv.length (UNK + 1))).flatten false)
                  exact hK _ _ kk (hRS _ kk (by simp only [YV]; omega) (by rw [YT, if_pos rfl]) (by simp only [YV]; omega) (by rw [YT, if_neg hne', YT, if_pos rfl]))

end
end Go.Proofs.YtmdkkhnenciknaaI
