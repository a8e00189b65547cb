/- Who proposes: the chapter's example; one that is none. -/
import Derived.Test.YtafnkmiggmfbdaaProG
import Derived.Test.YtafnkmiggmfbdaaPartLaw19
namespace Go.Proofs.YtafnkmiggmfbdaaI
set_option linter.unusedSimpArgs false
set_option linter.unusedVariables false
open Go

section
variable (c : Ctx) (hA : HasBalA c) (hB : HasBalB c) (hD : HasBalD c) (hc : HasProp c) (hT : ProT c) (hL : HasLaw19 c) {H : IHeap} {K : Value → IHeap → Prop}

include hc hL in
theorem none_ok19 (hW : ∀ H K, (∀ H', K (.bool true) H') → c.C (c.F n_hurdlelaw19_awake) [] H K) {k f s a n : Int} {x : ByteArray} {u o : Value} (hK : ∀ H', K (.bool true) H') :
    c.C (c.F n_hurdlelaw19_ProposerNone) [.agg #[.int .i64 k, .int .i64 f, .int .i64 s, .int .i64 a, .int .i64 n, .string x, u, o]] H K := by
  refine c.enter hL.hurdlelaw19_ProposerNone rfl ?_
  obtain ⟨H0, hH0⟩ : ∃ X : IHeap, X = H.alloc (.cells [.int .i64 k, .int .i64 f, .int .i64 s, .int .i64 a, .int .i64 n, .string x, u, o] false) := ⟨_, rfl⟩
  have n0 : H0.next = H.next + 1 := by rw [hH0]; rfl
  have b0 : H0.get H.next = some (.cells [.int .i64 k, .int .i64 f, .int .i64 s, .int .i64 a, .int .i64 n, .string x, u, o] false) := by rw [hH0, YV, if_pos rfl]
  simp -implicitDefEqProofs [J0,J1,J2,J3,J4,J5,J6,J7,J8,J9,Ja,Jb,Jc,Jd,Je,Jf,Jg,Jh,Ji,Jj,Jk,Jl,Jm,Jn,Jo,Jp,Jq,Jr,Js,Jt,Ju,Jv,Jw,Jx,Jy,Jz,JA,JB,JC,JD,JE,JF,JG,JH,JI,JJ,JK,JL,JM,JN,JO,JP,JQ,JR,JS,stillI,IOp.kind,JT,JU,JV,JW,JX,JY,JZ,Y0,Y1,Y2,Y3,Y4,Y5,Y6,Y7,Y8,Y9,Ya,Yb,Yc,Yd,Ye,Yf,Yg,Yh,Yi,Yj,Yk,Yl,Ym,Yn,Yo,Yp,Yq,ial,Yr,Ys,Yt,Yu,Yv,Yw,Yx,Yy,ires,iresL,ires1,Yz,YA,YB,YC,YD,YE,bin2,YF,YG,YH,YI,YJ,YK,YL,YM,YN,YO,YP,YQ,YR,YS,YT,YU,un1,shOk,eqL,eq1,fillL,putAt,IHeap.load1,IHeap.loadL,IHeap.storeL,YV,YW,YX,YY,YZ,B0,B1,B2,B3,B4,B5,B6,B7,B8,B9,Ba,Bb,Bc,Bd,Be,Bf,Bg,Bh,Bi,Bj,Bk,Bl,Bm,Bn,Bo,Bp, c_hurdlelaw19_ProposerNone, ← hH0, b0]
  refine call_of (PLead_none c hc (a := a) (n := n) fun H1 k1 => ?_)
  have n1 := k1.next
  have b1 := (k1.get H.next (by omega)).trans b0
  obtain ⟨H2, hH2⟩ : ∃ X : IHeap, X = (H1.alloc (.cells [.int .i64 0, .int .i64 0] false)).set H1.next (.cells [.int .i64 0, .int .i64 0] false) := ⟨_, rfl⟩
  have k2 : H1.le H2 := by rw [hH2]; exact (H1.le_alloc _).set (Nat.le_refl _) _
  have n2 : H2.next = H1.next + 1 := by rw [hH2]; rfl
  have b2 := (k2.get H.next (by omega)).trans b1
  have c2 : H2.get H1.next = some (.cells [.int .i64 0, .int .i64 0] false) := by rw [hH2, YW, if_pos rfl]
  simp -implicitDefEqProofs [J0,J1,J2,J3,J4,J5,J6,J7,J8,J9,Ja,Jb,Jc,Jd,Je,Jf,Jg,Jh,Ji,Jj,Jk,Jl,Jm,Jn,Jo,Jp,Jq,Jr,Js,Jt,Ju,Jv,Jw,Jx,Jy,Jz,JA,JB,JC,JD,JE,JF,JG,JH,JI,JJ,JK,JL,JM,JN,JO,JP,JQ,JR,JS,stillI,IOp.kind,JT,JU,JV,JW,JX,JY,JZ,Y0,Y1,Y2,Y3,Y4,Y5,Y6,Y7,Y8,Y9,Ya,Yb,Yc,Yd,Ye,Yf,Yg,Yh,Yi,Yj,Yk,Yl,Ym,Yn,Yo,Yp,Yq,ial,Yr,Ys,Yt,Yu,Yv,Yw,Yx,Yy,ires,iresL,ires1,Yz,YA,YB,YC,YD,YE,bin2,YF,YG,YH,YI,YJ,YK,YL,YM,YN,YO,YP,YQ,YR,YS,YT,YU,un1,shOk,eqL,eq1,fillL,putAt,IHeap.load1,IHeap.loadL,IHeap.storeL,YV,YW,YX,YY,YZ,B0,B1,B2,B3,B4,B5,B6,B7,B8,B9,Ba,Bb,Bc,Bd,Be,Bf,Bg,Bh,Bi,Bj,Bk,Bl,Bm,Bn,Bo,Bp, vB, ← hH2, b2]
  refine call_of (PPropose_none c hc fun H3 k3 => ?_)
  have n3 := k3.next
  have b3 := (k3.get H.next (by omega)).trans b2
  have c3 := (k3.get H1.next (by omega)).trans c2
  obtain ⟨H4, hH4⟩ : ∃ X : IHeap, X = (H3.alloc (.cells [.int .i64 0, .int .i64 0, .int .i64 0, .string ⟨#[]⟩] false)).set H3.next (.cells [.int .i64 0, .int .i64 0, .int .i64 0, .string ⟨#[]⟩] false) := ⟨_, rfl⟩
  have k4 : H3.le H4 := by rw [hH4]; exact (H3.le_alloc _).set (Nat.le_refl _) _
  have n4 : H4.next = H3.next + 1 := by rw [hH4]; rfl
  have b4 := (k4.get H.next (by omega)).trans b3
  have c4 := (k4.get H1.next (by omega)).trans c3
  have d4 : H4.get H3.next = some (.cells [.int .i64 0, .int .i64 0, .int .i64 0, .string ⟨#[]⟩] false) := by rw [hH4, YW, if_pos rfl]
  simp -implicitDefEqProofs [J0,J1,J2,J3,J4,J5,J6,J7,J8,J9,Ja,Jb,Jc,Jd,Je,Jf,Jg,Jh,Ji,Jj,Jk,Jl,Jm,Jn,Jo,Jp,Jq,Jr,Js,Jt,Ju,Jv,Jw,Jx,Jy,Jz,JA,JB,JC,JD,JE,JF,JG,JH,JI,JJ,JK,JL,JM,JN,JO,JP,JQ,JR,JS,stillI,IOp.kind,JT,JU,JV,JW,JX,JY,JZ,Y0,Y1,Y2,Y3,Y4,Y5,Y6,Y7,Y8,Y9,Ya,Yb,Yc,Yd,Ye,Yf,Yg,Yh,Yi,Yj,Yk,Yl,Ym,Yn,Yo,Yp,Yq,ial,Yr,Ys,Yt,Yu,Yv,Yw,Yx,Yy,ires,iresL,ires1,Yz,YA,YB,YC,YD,YE,bin2,YF,YG,YH,YI,YJ,YK,YL,YM,YN,YO,YP,YQ,YR,YS,YT,YU,un1,shOk,eqL,eq1,fillL,putAt,IHeap.load1,IHeap.loadL,IHeap.storeL,YV,YW,YX,YY,YZ,B0,B1,B2,B3,B4,B5,B6,B7,B8,B9,Ba,Bb,Bc,Bd,Be,Bf,Bg,Bh,Bi,Bj,Bk,Bl,Bm,Bn,Bo,Bp, vV, zeroVote, noS, ← hH4, b4, c4]
  refine call_of (PPromise_none c hc (a := a) (n := n) fun H5 k5 => ?_)
  have b5 := (k5.get H.next (by omega)).trans b4
  have d5 := (k5.get H3.next (by omega)).trans d4
  have n5 := k5.next
  simp -implicitDefEqProofs [J0,J1,J2,J3,J4,J5,J6,J7,J8,J9,Ja,Jb,Jc,Jd,Je,Jf,Jg,Jh,Ji,Jj,Jk,Jl,Jm,Jn,Jo,Jp,Jq,Jr,Js,Jt,Ju,Jv,Jw,Jx,Jy,Jz,JA,JB,JC,JD,JE,JF,JG,JH,JI,JJ,JK,JL,JM,JN,JO,JP,JQ,JR,JS,stillI,IOp.kind,JT,JU,JV,JW,JX,JY,JZ,Y0,Y1,Y2,Y3,Y4,Y5,Y6,Y7,Y8,Y9,Ya,Yb,Yc,Yd,Ye,Yf,Yg,Yh,Yi,Yj,Yk,Yl,Ym,Yn,Yo,Yp,Yq,ial,Yr,Ys,Yt,Yu,Yv,Yw,Yx,Yy,ires,iresL,ires1,Yz,YA,YB,YC,YD,YE,bin2,YF,YG,YH,YI,YJ,YK,YL,YM,YN,YO,YP,YQ,YR,YS,YT,YU,un1,shOk,eqL,eq1,fillL,putAt,IHeap.load1,IHeap.loadL,IHeap.storeL,YV,YW,YX,YY,YZ,B0,B1,B2,B3,B4,B5,B6,B7,B8,B9,Ba,Bb,Bc,Bd,Be,Bf,Bg,Bh,Bi,Bj,Bk,Bl,Bm,Bn,Bo,Bp]
  refine call_of (PLeads_none c hc ?_)
  simp -implicitDefEqProofs [J0,J1,J2,J3,J4,J5,J6,J7,J8,J9,Ja,Jb,Jc,Jd,Je,Jf,Jg,Jh,Ji,Jj,Jk,Jl,Jm,Jn,Jo,Jp,Jq,Jr,Js,Jt,Ju,Jv,Jw,Jx,Jy,Jz,JA,JB,JC,JD,JE,JF,JG,JH,JI,JJ,JK,JL,JM,JN,JO,JP,JQ,JR,JS,stillI,IOp.kind,JT,JU,JV,JW,JX,JY,JZ,Y0,Y1,Y2,Y3,Y4,Y5,Y6,Y7,Y8,Y9,Ya,Yb,Yc,Yd,Ye,Yf,Yg,Yh,Yi,Yj,Yk,Yl,Ym,Yn,Yo,Yp,Yq,ial,Yr,Ys,Yt,Yu,Yv,Yw,Yx,Yy,ires,iresL,ires1,Yz,YA,YB,YC,YD,YE,bin2,YF,YG,YH,YI,YJ,YK,YL,YM,YN,YO,YP,YQ,YR,YS,YT,YU,un1,shOk,eqL,eq1,fillL,putAt,IHeap.load1,IHeap.loadL,IHeap.storeL,YV,YW,YX,YY,YZ,B0,B1,B2,B3,B4,B5,B6,B7,B8,B9,Ba,Bb,Bc,Bd,Be,Bf,Bg,Bh,Bi,Bj,Bk,Bl,Bm,Bn,Bo,Bp]
  refine call_of (PFill_none c hc ?_)
  simp -implicitDefEqProofs [J0,J1,J2,J3,J4,J5,J6,J7,J8,J9,Ja,Jb,Jc,Jd,Je,Jf,Jg,Jh,Ji,Jj,Jk,Jl,Jm,Jn,Jo,Jp,Jq,Jr,Js,Jt,Ju,Jv,Jw,Jx,Jy,Jz,JA,JB,JC,JD,JE,JF,JG,JH,JI,JJ,JK,JL,JM,JN,JO,JP,JQ,JR,JS,stillI,IOp.kind,JT,JU,JV,JW,JX,JY,JZ,Y0,Y1,Y2,Y3,Y4,Y5,Y6,Y7,Y8,Y9,Ya,Yb,Yc,Yd,Ye,Yf,Yg,Yh,Yi,Yj,Yk,Yl,Ym,Yn,Yo,Yp,Yq,ial,Yr,Ys,Yt,Yu,Yv,Yw,Yx,Yy,ires,iresL,ires1,Yz,YA,YB,YC,YD,YE,bin2,YF,YG,YH,YI,YJ,YK,YL,YM,YN,YO,YP,YQ,YR,YS,YT,YU,un1,shOk,eqL,eq1,fillL,putAt,IHeap.load1,IHeap.loadL,IHeap.storeL,YV,YW,YX,YY,YZ,B0,B1,B2,B3,B4,B5,B6,B7,B8,B9,Ba,Bb,Bc,Bd,Be,Bf,Bg,Bh,Bi,Bj,Bk,Bl,Bm,Bn,Bo,Bp, d5, b5]
  refine call_of (PStep_none c hc (a := a) (n := n) fun H6 k6 => ?_)
  simp -implicitDefEqProofs [J0,J1,J2,J3,J4,J5,J6,J7,J8,J9,Ja,Jb,Jc,Jd,Je,Jf,Jg,Jh,Ji,Jj,Jk,Jl,Jm,Jn,Jo,Jp,Jq,Jr,Js,Jt,Ju,Jv,Jw,Jx,Jy,Jz,JA,JB,JC,JD,JE,JF,JG,JH,JI,JJ,JK,JL,JM,JN,JO,JP,JQ,JR,JS,stillI,IOp.kind,JT,JU,JV,JW,JX,JY,JZ,Y0,Y1,Y2,Y3,Y4,Y5,Y6,Y7,Y8,Y9,Ya,Yb,Yc,Yd,Ye,Yf,Yg,Yh,Yi,Yj,Yk,Yl,Ym,Yn,Yo,Yp,Yq,ial,Yr,Ys,Yt,Yu,Yv,Yw,Yx,Yy,ires,iresL,ires1,Yz,YA,YB,YC,YD,YE,bin2,YF,YG,YH,YI,YJ,YK,YL,YM,YN,YO,YP,YQ,YR,YS,YT,YU,un1,shOk,eqL,eq1,fillL,putAt,IHeap.load1,IHeap.loadL,IHeap.storeL,YV,YW,YX,YY,YZ,B0,B1,B2,B3,B4,B5,B6,B7,B8,B9,Ba,Bb,Bc,Bd,Be,Bf,Bg,Bh,Bi,Bj,Bk,Bl,Bm,Bn,Bo,Bp]
  refine call_of (PNext_none c hc ?_)
  simp -implicitDefEqProofs [J0,J1,J2,J3,J4,J5,J6,J7,J8,J9,Ja,Jb,Jc,Jd,Je,Jf,Jg,Jh,Ji,Jj,Jk,Jl,Jm,Jn,Jo,Jp,Jq,Jr,Js,Jt,Ju,Jv,Jw,Jx,Jy,Jz,JA,JB,JC,JD,JE,JF,JG,JH,JI,JJ,JK,JL,JM,JN,JO,JP,JQ,JR,JS,stillI,IOp.kind,JT,JU,JV,JW,JX,JY,JZ,Y0,Y1,Y2,Y3,Y4,Y5,Y6,Y7,Y8,Y9,Ya,Yb,Yc,Yd,Ye,Yf,Yg,Yh,Yi,Yj,Yk,Yl,Ym,Yn,Yo,Yp,Yq,ial,Yr,Ys,Yt,Yu,Yv,Yw,Yx,Yy,ires,iresL,ires1,Yz,YA,YB,YC,YD,YE,bin2,YF,YG,YH,YI,YJ,YK,YL,YM,YN,YO,YP,YQ,YR,YS,YT,YU,un1,shOk,eqL,eq1,fillL,putAt,IHeap.load1,IHeap.loadL,IHeap.storeL,YV,YW,YX,YY,YZ,B0,B1,B2,B3,B4,B5,B6,B7,B8,B9,Ba,Bb,Bc,Bd,Be,Bf,Bg,Bh,Bi,Bj,Bk,Bl,Bm,Bn,Bo,Bp]
  refine call_of (hW _ _ fun H7 => ?_)
  simp -implicitDefEqProofs [J0,J1,J2,J3,J4,J5,J6,J7,J8,J9,Ja,Jb,Jc,Jd,Je,Jf,Jg,Jh,Ji,Jj,Jk,Jl,Jm,Jn,Jo,Jp,Jq,Jr,Js,Jt,Ju,Jv,Jw,Jx,Jy,Jz,JA,JB,JC,JD,JE,JF,JG,JH,JI,JJ,JK,JL,JM,JN,JO,JP,JQ,JR,JS,stillI,IOp.kind,JT,JU,JV,JW,JX,JY,JZ,Y0,Y1,Y2,Y3,Y4,Y5,Y6,Y7,Y8,Y9,Ya,Yb,Yc,Yd,Ye,Yf,Yg,Yh,Yi,Yj,Yk,Yl,Ym,Yn,Yo,Yp,Yq,ial,Yr,Ys,Yt,Yu,Yv,Yw,Yx,Yy,ires,iresL,ires1,Yz,YA,YB,YC,YD,YE,bin2,YF,YG,YH,YI,YJ,YK,YL,YM,YN,YO,YP,YQ,YR,YS,YT,YU,un1,shOk,eqL,eq1,fillL,putAt,IHeap.load1,IHeap.loadL,IHeap.storeL,YV,YW,YX,YY,YZ,B0,B1,B2,B3,B4,B5,B6,B7,B8,B9,Ba,Bb,Bc,Bd,Be,Bf,Bg,Bh,Bi,Bj,Bk,Bl,Bm,Bn,Bo,Bp]
  exact hK _
end
end Go.Proofs.YtafnkmiggmfbdaaI
