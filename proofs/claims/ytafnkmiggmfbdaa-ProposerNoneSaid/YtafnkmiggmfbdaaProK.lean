/- Who proposes: ProposerSafe, walked. -/
import Derived.Test.YtafnkmiggmfbdaaProJ
namespace Go.Proofs.YtafnkmiggmfbdaaI
set_option linter.unusedSimpArgs false
set_option linter.unusedVariables false
open Go

def accV (ls : List (List VoteD)) (i : Nat) (l : List VoteD) (j : Nat) : List VoteD := allV ls i ++ (l.take j).filter goodV
def Few20 (ls : List (List VoteD)) (i : Nat) : Prop := ∀ j, j < i → (ls.getD j []).length ≤ 20
/-- Lists of votes, as they lie. -/
def RepLL (H : IHeap) (u : Value) (ls : List (List VoteD)) : Prop :=
  ∃ us : List Value, us.length = ls.length ∧ SlR H 1 u (us.map fun x => [x]) ∧ ∀ (i : Nat) (x : Value) (l : List VoteD), us[i]? = some x → ls[i]? = some l → SlR H 4 x (l.map rowV)
theorem RepLL.le {H H' : IHeap} {u : Value} {ls : List (List VoteD)} (h : RepLL H u ls) (k : H.le H') : RepLL H' u ls := by
  obtain ⟨us, h1, h2, h3⟩ := h
  exact ⟨us, h1, h2.le k, fun i x l a b => (h3 i x l a b).le k⟩
theorem RepLL.at {H : IHeap} {u : Value} {ls : List (List VoteD)} {i : Nat} {l : List VoteD} (h : RepLL H u ls) (hi : ls[i]? = some l) :
    ∃ x b o cap cs ro, u = .slice (some ⟨b, o, none⟩) ls.length cap ∧ H.get b = some (.cells cs ro) ∧ cs[o + i]? = some x ∧ SlR H 4 x (l.map rowV) := by
  obtain ⟨us, h1, h2, h3⟩ := h
  have hil := (List.getElem?_eq_some_iff.1 hi).1
  have hx : us[i]? = some us[i] := List.getElem?_eq_getElem (by omega)
  obtain ⟨b, o, cap, cs, ro, e, _, hg, hc⟩ := h2.at1 (i := i) (x := us[i]) (by rw [List.getElem?_map, hx]; rfl)
  rw [List.length_map, h1] at e
  exact ⟨us[i], b, o, cap, cs, ro, e, hg, hc, h3 i _ l hx hi⟩
theorem RepLL.len {H : IHeap} {u : Value} {ls : List (List VoteD)} (h : RepLL H u ls) : ∃ a cap, u = .slice a ls.length cap := by
  obtain ⟨us, h1, ⟨a, cap, h2, _⟩, _⟩ := h
  rw [List.length_map, h1] at h2
  exact ⟨a, cap, h2⟩

section
variable (c : Ctx) (hA : HasBalA c) (hB : HasBalB c) (hBC : HasBalC c) (hD : HasBalD c) (hc : HasProp c) (hT : ProT c) (hL : HasLaw19 c) {H : IHeap} {K : Value → IHeap → Prop}

include hA hB hBC hD hc hT hL in
theorem safe_ok19 (hW : ∀ H K, (∀ H', K (.bool true) H') → c.C (c.F n_hurdlelaw19_awake) [] H K) {n me : Int} {u : Value} {ls : List (List VoteD)} (hu : RepLL H u ls) (hls : (ls.length : Int) < 9223372036854775808) (hK : ∀ H', K (.bool true) H') :
    c.C (c.F n_hurdlelaw19_ProposerSafe) [.int .i64 n, .int .i64 me, u] H K := by
  refine c.enter hL.hurdlelaw19_ProposerSafe rfl ?_
  obtain ⟨ua, ucap, hue⟩ := hu.len
  by_cases h7 : (7 : Int) < (ls.length : Int)
  · subst hue
    simp -implicitDefEqProofs [J0,J1,J2,J3,J4,J5,J6,J7,J8,J9,Ja,Jb,Jc,Jd,Je,Jf,Jg,Jh,Ji,Jj,Jk,Jl,Jm,Jn,Jo,Jp,Jq,Jr,Js,Jt,Ju,Jv,Jw,Jx,Jy,Jz,JA,JB,JC,JD,JE,JF,JG,JH,JI,JJ,JK,JL,JM,JN,JO,JP,JQ,JR,JS,stillI,IOp.kind,JT,JU,JV,JW,JX,JY,JZ,Y0,Y1,Y2,Y3,Y4,Y5,Y6,Y7,Y8,Y9,Ya,Yb,Yc,Yd,Ye,Yf,Yg,Yh,Yi,Yj,Yk,Yl,Ym,Yn,Yo,Yp,Yq,ial,Yr,Ys,Yt,Yu,Yv,Yw,Yx,Yy,ires,iresL,ires1,Yz,YA,YB,YC,YD,YE,bin2,YF,YG,YH,YI,YJ,YK,YL,YM,YN,YO,YP,YQ,YR,YS,YT,YU,un1,shOk,eqL,eq1,fillL,putAt,IHeap.load1,IHeap.loadL,IHeap.storeL,YV,YW,YX,YY,YZ,B0,B1,B2,B3,B4,B5,B6,B7,B8,B9,Ba,Bb,Bc,Bd,Be,Bf,Bg,Bh,Bi,Bj,Bk,Bl,Bm,Bn,Bo,Bp, c_hurdlelaw19_ProposerSafe, h7]
    refine call_of (hW _ _ fun H' => ?_)
    simp -implicitDefEqProofs [J0,J1,J2,J3,J4,J5,J6,J7,J8,J9,Ja,Jb,Jc,Jd,Je,Jf,Jg,Jh,Ji,Jj,Jk,Jl,Jm,Jn,Jo,Jp,Jq,Jr,Js,Jt,Ju,Jv,Jw,Jx,Jy,Jz,JA,JB,JC,JD,JE,JF,JG,JH,JI,JJ,JK,JL,JM,JN,JO,JP,JQ,JR,JS,stillI,IOp.kind,JT,JU,JV,JW,JX,JY,JZ,Y0,Y1,Y2,Y3,Y4,Y5,Y6,Y7,Y8,Y9,Ya,Yb,Yc,Yd,Ye,Yf,Yg,Yh,Yi,Yj,Yk,Yl,Ym,Yn,Yo,Yp,Yq,ial,Yr,Ys,Yt,Yu,Yv,Yw,Yx,Yy,ires,iresL,ires1,Yz,YA,YB,YC,YD,YE,bin2,YF,YG,YH,YI,YJ,YK,YL,YM,YN,YO,YP,YQ,YR,YS,YT,YU,un1,shOk,eqL,eq1,fillL,putAt,IHeap.load1,IHeap.loadL,IHeap.storeL,YV,YW,YX,YY,YZ,B0,B1,B2,B3,B4,B5,B6,B7,B8,B9,Ba,Bb,Bc,Bd,Be,Bf,Bg,Bh,Bi,Bj,Bk,Bl,Bm,Bn,Bo,Bp]
    exact hK _
  · by_cases hlq : (ls.length : Int) < quorumI n
    · subst hue
      simp -implicitDefEqProofs [J0,J1,J2,J3,J4,J5,J6,J7,J8,J9,Ja,Jb,Jc,Jd,Je,Jf,Jg,Jh,Ji,Jj,Jk,Jl,Jm,Jn,Jo,Jp,Jq,Jr,Js,Jt,Ju,Jv,Jw,Jx,Jy,Jz,JA,JB,JC,JD,JE,JF,JG,JH,JI,JJ,JK,JL,JM,JN,JO,JP,JQ,JR,JS,stillI,IOp.kind,JT,JU,JV,JW,JX,JY,JZ,Y0,Y1,Y2,Y3,Y4,Y5,Y6,Y7,Y8,Y9,Ya,Yb,Yc,Yd,Ye,Yf,Yg,Yh,Yi,Yj,Yk,Yl,Ym,Yn,Yo,Yp,Yq,ial,Yr,Ys,Yt,Yu,Yv,Yw,Yx,Yy,ires,iresL,ires1,Yz,YA,YB,YC,YD,YE,bin2,YF,YG,YH,YI,YJ,YK,YL,YM,YN,YO,YP,YQ,YR,YS,YT,YU,un1,shOk,eqL,eq1,fillL,putAt,IHeap.load1,IHeap.loadL,IHeap.storeL,YV,YW,YX,YY,YZ,B0,B1,B2,B3,B4,B5,B6,B7,B8,B9,Ba,Bb,Bc,Bd,Be,Bf,Bg,Bh,Bi,Bj,Bk,Bl,Bm,Bn,Bo,Bp, c_hurdlelaw19_ProposerSafe, h7]
      refine call_of (refQuorum_ok c hB ?_)
      simp -implicitDefEqProofs [J0,J1,J2,J3,J4,J5,J6,J7,J8,J9,Ja,Jb,Jc,Jd,Je,Jf,Jg,Jh,Ji,Jj,Jk,Jl,Jm,Jn,Jo,Jp,Jq,Jr,Js,Jt,Ju,Jv,Jw,Jx,Jy,Jz,JA,JB,JC,JD,JE,JF,JG,JH,JI,JJ,JK,JL,JM,JN,JO,JP,JQ,JR,JS,stillI,IOp.kind,JT,JU,JV,JW,JX,JY,JZ,Y0,Y1,Y2,Y3,Y4,Y5,Y6,Y7,Y8,Y9,Ya,Yb,Yc,Yd,Ye,Yf,Yg,Yh,Yi,Yj,Yk,Yl,Ym,Yn,Yo,Yp,Yq,ial,Yr,Ys,Yt,Yu,Yv,Yw,Yx,Yy,ires,iresL,ires1,Yz,YA,YB,YC,YD,YE,bin2,YF,YG,YH,YI,YJ,YK,YL,YM,YN,YO,YP,YQ,YR,YS,YT,YU,un1,shOk,eqL,eq1,fillL,putAt,IHeap.load1,IHeap.loadL,IHeap.storeL,YV,YW,YX,YY,YZ,B0,B1,B2,B3,B4,B5,B6,B7,B8,B9,Ba,Bb,Bc,Bd,Be,Bf,Bg,Bh,Bi,Bj,Bk,Bl,Bm,Bn,Bo,Bp, hlq]
      refine call_of (hW _ _ fun H' => ?_)
      simp -implicitDefEqProofs [J0,J1,J2,J3,J4,J5,J6,J7,J8,J9,Ja,Jb,Jc,Jd,Je,Jf,Jg,Jh,Ji,Jj,Jk,Jl,Jm,Jn,Jo,Jp,Jq,Jr,Js,Jt,Ju,Jv,Jw,Jx,Jy,Jz,JA,JB,JC,JD,JE,JF,JG,JH,JI,JJ,JK,JL,JM,JN,JO,JP,JQ,JR,JS,stillI,IOp.kind,JT,JU,JV,JW,JX,JY,JZ,Y0,Y1,Y2,Y3,Y4,Y5,Y6,Y7,Y8,Y9,Ya,Yb,Yc,Yd,Ye,Yf,Yg,Yh,Yi,Yj,Yk,Yl,Ym,Yn,Yo,Yp,Yq,ial,Yr,Ys,Yt,Yu,Yv,Yw,Yx,Yy,ires,iresL,ires1,Yz,YA,YB,YC,YD,YE,bin2,YF,YG,YH,YI,YJ,YK,YL,YM,YN,YO,YP,YQ,YR,YS,YT,YU,un1,shOk,eqL,eq1,fillL,putAt,IHeap.load1,IHeap.loadL,IHeap.storeL,YV,YW,YX,YY,YZ,B0,B1,B2,B3,B4,B5,B6,B7,B8,B9,Ba,Bb,Bc,Bd,Be,Bf,Bg,Bh,Bi,Bj,Bk,Bl,Bm,Bn,Bo,Bp]
      exact hK _
    · by_cases hq : quorumI n = 0
      · subst hue
        simp -implicitDefEqProofs [J0,J1,J2,J3,J4,J5,J6,J7,J8,J9,Ja,Jb,Jc,Jd,Je,Jf,Jg,Jh,Ji,Jj,Jk,Jl,Jm,Jn,Jo,Jp,Jq,Jr,Js,Jt,Ju,Jv,Jw,Jx,Jy,Jz,JA,JB,JC,JD,JE,JF,JG,JH,JI,JJ,JK,JL,JM,JN,JO,JP,JQ,JR,JS,stillI,IOp.kind,JT,JU,JV,JW,JX,JY,JZ,Y0,Y1,Y2,Y3,Y4,Y5,Y6,Y7,Y8,Y9,Ya,Yb,Yc,Yd,Ye,Yf,Yg,Yh,Yi,Yj,Yk,Yl,Ym,Yn,Yo,Yp,Yq,ial,Yr,Ys,Yt,Yu,Yv,Yw,Yx,Yy,ires,iresL,ires1,Yz,YA,YB,YC,YD,YE,bin2,YF,YG,YH,YI,YJ,YK,YL,YM,YN,YO,YP,YQ,YR,YS,YT,YU,un1,shOk,eqL,eq1,fillL,putAt,IHeap.load1,IHeap.loadL,IHeap.storeL,YV,YW,YX,YY,YZ,B0,B1,B2,B3,B4,B5,B6,B7,B8,B9,Ba,Bb,Bc,Bd,Be,Bf,Bg,Bh,Bi,Bj,Bk,Bl,Bm,Bn,Bo,Bp, c_hurdlelaw19_ProposerSafe, h7]
        refine call_of (refQuorum_ok c hB ?_)
        simp -implicitDefEqProofs [J0,J1,J2,J3,J4,J5,J6,J7,J8,J9,Ja,Jb,Jc,Jd,Je,Jf,Jg,Jh,Ji,Jj,Jk,Jl,Jm,Jn,Jo,Jp,Jq,Jr,Js,Jt,Ju,Jv,Jw,Jx,Jy,Jz,JA,JB,JC,JD,JE,JF,JG,JH,JI,JJ,JK,JL,JM,JN,JO,JP,JQ,JR,JS,stillI,IOp.kind,JT,JU,JV,JW,JX,JY,JZ,Y0,Y1,Y2,Y3,Y4,Y5,Y6,Y7,Y8,Y9,Ya,Yb,Yc,Yd,Ye,Yf,Yg,Yh,Yi,Yj,Yk,Yl,Ym,Yn,Yo,Yp,Yq,ial,Yr,Ys,Yt,Yu,Yv,Yw,Yx,Yy,ires,iresL,ires1,Yz,YA,YB,YC,YD,YE,bin2,YF,YG,YH,YI,YJ,YK,YL,YM,YN,YO,YP,YQ,YR,YS,YT,YU,un1,shOk,eqL,eq1,fillL,putAt,IHeap.load1,IHeap.loadL,IHeap.storeL,YV,YW,YX,YY,YZ,B0,B1,B2,B3,B4,B5,B6,B7,B8,B9,Ba,Bb,Bc,Bd,Be,Bf,Bg,Bh,Bi,Bj,Bk,Bl,Bm,Bn,Bo,Bp, hlq]
        refine call_of (refQuorum_ok c hB ?_)
        simp -implicitDefEqProofs [J0,J1,J2,J3,J4,J5,J6,J7,J8,J9,Ja,Jb,Jc,Jd,Je,Jf,Jg,Jh,Ji,Jj,Jk,Jl,Jm,Jn,Jo,Jp,Jq,Jr,Js,Jt,Ju,Jv,Jw,Jx,Jy,Jz,JA,JB,JC,JD,JE,JF,JG,JH,JI,JJ,JK,JL,JM,JN,JO,JP,JQ,JR,JS,stillI,IOp.kind,JT,JU,JV,JW,JX,JY,JZ,Y0,Y1,Y2,Y3,Y4,Y5,Y6,Y7,Y8,Y9,Ya,Yb,Yc,Yd,Ye,Yf,Yg,Yh,Yi,Yj,Yk,Yl,Ym,Yn,Yo,Yp,Yq,ial,Yr,Ys,Yt,Yu,Yv,Yw,Yx,Yy,ires,iresL,ires1,Yz,YA,YB,YC,YD,YE,bin2,YF,YG,YH,YI,YJ,YK,YL,YM,YN,YO,YP,YQ,YR,YS,YT,YU,un1,shOk,eqL,eq1,fillL,putAt,IHeap.load1,IHeap.loadL,IHeap.storeL,YV,YW,YX,YY,YZ,B0,B1,B2,B3,B4,B5,B6,B7,B8,B9,Ba,Bb,Bc,Bd,Be,Bf,Bg,Bh,Bi,Bj,Bk,Bl,Bm,Bn,Bo,Bp, hq]
        refine call_of (hW _ _ fun H' => ?_)
        simp -implicitDefEqProofs [J0,J1,J2,J3,J4,J5,J6,J7,J8,J9,Ja,Jb,Jc,Jd,Je,Jf,Jg,Jh,Ji,Jj,Jk,Jl,Jm,Jn,Jo,Jp,Jq,Jr,Js,Jt,Ju,Jv,Jw,Jx,Jy,Jz,JA,JB,JC,JD,JE,JF,JG,JH,JI,JJ,JK,JL,JM,JN,JO,JP,JQ,JR,JS,stillI,IOp.kind,JT,JU,JV,JW,JX,JY,JZ,Y0,Y1,Y2,Y3,Y4,Y5,Y6,Y7,Y8,Y9,Ya,Yb,Yc,Yd,Ye,Yf,Yg,Yh,Yi,Yj,Yk,Yl,Ym,Yn,Yo,Yp,Yq,ial,Yr,Ys,Yt,Yu,Yv,Yw,Yx,Yy,ires,iresL,ires1,Yz,YA,YB,YC,YD,YE,bin2,YF,YG,YH,YI,YJ,YK,YL,YM,YN,YO,YP,YQ,YR,YS,YT,YU,un1,shOk,eqL,eq1,fillL,putAt,IHeap.load1,IHeap.loadL,IHeap.storeL,YV,YW,YX,YY,YZ,B0,B1,B2,B3,B4,B5,B6,B7,B8,B9,Ba,Bb,Bc,Bd,Be,Bf,Bg,Bh,Bi,Bj,Bk,Bl,Bm,Bn,Bo,Bp]
        exact hK _
      · have hqb := quorumI_ne hq
        obtain ⟨q, hqe⟩ : ∃ q : Nat, quorumI n = q := ⟨(quorumI n).toNat, by omega⟩
        rw [hue]
        simp -implicitDefEqProofs [J0,J1,J2,J3,J4,J5,J6,J7,J8,J9,Ja,Jb,Jc,Jd,Je,Jf,Jg,Jh,Ji,Jj,Jk,Jl,Jm,Jn,Jo,Jp,Jq,Jr,Js,Jt,Ju,Jv,Jw,Jx,Jy,Jz,JA,JB,JC,JD,JE,JF,JG,JH,JI,JJ,JK,JL,JM,JN,JO,JP,JQ,JR,JS,stillI,IOp.kind,JT,JU,JV,JW,JX,JY,JZ,Y0,Y1,Y2,Y3,Y4,Y5,Y6,Y7,Y8,Y9,Ya,Yb,Yc,Yd,Ye,Yf,Yg,Yh,Yi,Yj,Yk,Yl,Ym,Yn,Yo,Yp,Yq,ial,Yr,Ys,Yt,Yu,Yv,Yw,Yx,Yy,ires,iresL,ires1,Yz,YA,YB,YC,YD,YE,bin2,YF,YG,YH,YI,YJ,YK,YL,YM,YN,YO,YP,YQ,YR,YS,YT,YU,un1,shOk,eqL,eq1,fillL,putAt,IHeap.load1,IHeap.loadL,IHeap.storeL,YV,YW,YX,YY,YZ,B0,B1,B2,B3,B4,B5,B6,B7,B8,B9,Ba,Bb,Bc,Bd,Be,Bf,Bg,Bh,Bi,Bj,Bk,Bl,Bm,Bn,Bo,Bp, c_hurdlelaw19_ProposerSafe, h7]
        refine call_of (refQuorum_ok c hB ?_)
        simp -implicitDefEqProofs [J0,J1,J2,J3,J4,J5,J6,J7,J8,J9,Ja,Jb,Jc,Jd,Je,Jf,Jg,Jh,Ji,Jj,Jk,Jl,Jm,Jn,Jo,Jp,Jq,Jr,Js,Jt,Ju,Jv,Jw,Jx,Jy,Jz,JA,JB,JC,JD,JE,JF,JG,JH,JI,JJ,JK,JL,JM,JN,JO,JP,JQ,JR,JS,stillI,IOp.kind,JT,JU,JV,JW,JX,JY,JZ,Y0,Y1,Y2,Y3,Y4,Y5,Y6,Y7,Y8,Y9,Ya,Yb,Yc,Yd,Ye,Yf,Yg,Yh,Yi,Yj,Yk,Yl,Ym,Yn,Yo,Yp,Yq,ial,Yr,Ys,Yt,Yu,Yv,Yw,Yx,Yy,ires,iresL,ires1,Yz,YA,YB,YC,YD,YE,bin2,YF,YG,YH,YI,YJ,YK,YL,YM,YN,YO,YP,YQ,YR,YS,YT,YU,un1,shOk,eqL,eq1,fillL,putAt,IHeap.load1,IHeap.loadL,IHeap.storeL,YV,YW,YX,YY,YZ,B0,B1,B2,B3,B4,B5,B6,B7,B8,B9,Ba,Bb,Bc,Bd,Be,Bf,Bg,Bh,Bi,Bj,Bk,Bl,Bm,Bn,Bo,Bp, hlq]
        refine call_of (refQuorum_ok c hB ?_)
        simp -implicitDefEqProofs [J0,J1,J2,J3,J4,J5,J6,J7,J8,J9,Ja,Jb,Jc,Jd,Je,Jf,Jg,Jh,Ji,Jj,Jk,Jl,Jm,Jn,Jo,Jp,Jq,Jr,Js,Jt,Ju,Jv,Jw,Jx,Jy,Jz,JA,JB,JC,JD,JE,JF,JG,JH,JI,JJ,JK,JL,JM,JN,JO,JP,JQ,JR,JS,stillI,IOp.kind,JT,JU,JV,JW,JX,JY,JZ,Y0,Y1,Y2,Y3,Y4,Y5,Y6,Y7,Y8,Y9,Ya,Yb,Yc,Yd,Ye,Yf,Yg,Yh,Yi,Yj,Yk,Yl,Ym,Yn,Yo,Yp,Yq,ial,Yr,Ys,Yt,Yu,Yv,Yw,Yx,Yy,ires,iresL,ires1,Yz,YA,YB,YC,YD,YE,bin2,YF,YG,YH,YI,YJ,YK,YL,YM,YN,YO,YP,YQ,YR,YS,YT,YU,un1,shOk,eqL,eq1,fillL,putAt,IHeap.load1,IHeap.loadL,IHeap.storeL,YV,YW,YX,YY,YZ,B0,B1,B2,B3,B4,B5,B6,B7,B8,B9,Ba,Bb,Bc,Bd,Be,Bf,Bg,Bh,Bi,Bj,Bk,Bl,Bm,Bn,Bo,Bp, hq]
        rw [← hue]
        refine call_of (PNew_ok c hB hc (fun _ => ?_) fun _ h0 hmn p B H1 k1 hb1 i1 => ?_)
        · simp -implicitDefEqProofs [J0,J1,J2,J3,J4,J5,J6,J7,J8,J9,Ja,Jb,Jc,Jd,Je,Jf,Jg,Jh,Ji,Jj,Jk,Jl,Jm,Jn,Jo,Jp,Jq,Jr,Js,Jt,Ju,Jv,Jw,Jx,Jy,Jz,JA,JB,JC,JD,JE,JF,JG,JH,JI,JJ,JK,JL,JM,JN,JO,JP,JQ,JR,JS,stillI,IOp.kind,JT,JU,JV,JW,JX,JY,JZ,Y0,Y1,Y2,Y3,Y4,Y5,Y6,Y7,Y8,Y9,Ya,Yb,Yc,Yd,Ye,Yf,Yg,Yh,Yi,Yj,Yk,Yl,Ym,Yn,Yo,Yp,Yq,ial,Yr,Ys,Yt,Yu,Yv,Yw,Yx,Yy,ires,iresL,ires1,Yz,YA,YB,YC,YD,YE,bin2,YF,YG,YH,YI,YJ,YK,YL,YM,YN,YO,YP,YQ,YR,YS,YT,YU,un1,shOk,eqL,eq1,fillL,putAt,IHeap.load1,IHeap.loadL,IHeap.storeL,YV,YW,YX,YY,YZ,B0,B1,B2,B3,B4,B5,B6,B7,B8,B9,Ba,Bb,Bc,Bd,Be,Bf,Bg,Bh,Bi,Bj,Bk,Bl,Bm,Bn,Bo,Bp, nilOf]
          refine call_of (hW _ _ fun H' => ?_)
          simp -implicitDefEqProofs [J0,J1,J2,J3,J4,J5,J6,J7,J8,J9,Ja,Jb,Jc,Jd,Je,Jf,Jg,Jh,Ji,Jj,Jk,Jl,Jm,Jn,Jo,Jp,Jq,Jr,Js,Jt,Ju,Jv,Jw,Jx,Jy,Jz,JA,JB,JC,JD,JE,JF,JG,JH,JI,JJ,JK,JL,JM,JN,JO,JP,JQ,JR,JS,stillI,IOp.kind,JT,JU,JV,JW,JX,JY,JZ,Y0,Y1,Y2,Y3,Y4,Y5,Y6,Y7,Y8,Y9,Ya,Yb,Yc,Yd,Ye,Yf,Yg,Yh,Yi,Yj,Yk,Yl,Ym,Yn,Yo,Yp,Yq,ial,Yr,Ys,Yt,Yu,Yv,Yw,Yx,Yy,ires,iresL,ires1,Yz,YA,YB,YC,YD,YE,bin2,YF,YG,YH,YI,YJ,YK,YL,YM,YN,YO,YP,YQ,YR,YS,YT,YU,un1,shOk,eqL,eq1,fillL,putAt,IHeap.load1,IHeap.loadL,IHeap.storeL,YV,YW,YX,YY,YZ,B0,B1,B2,B3,B4,B5,B6,B7,B8,B9,Ba,Bb,Bc,Bd,Be,Bf,Bg,Bh,Bi,Bj,Bk,Bl,Bm,Bn,Bo,Bp]
          exact hK _
        · simp -implicitDefEqProofs [J0,J1,J2,J3,J4,J5,J6,J7,J8,J9,Ja,Jb,Jc,Jd,Je,Jf,Jg,Jh,Ji,Jj,Jk,Jl,Jm,Jn,Jo,Jp,Jq,Jr,Js,Jt,Ju,Jv,Jw,Jx,Jy,Jz,JA,JB,JC,JD,JE,JF,JG,JH,JI,JJ,JK,JL,JM,JN,JO,JP,JQ,JR,JS,stillI,IOp.kind,JT,JU,JV,JW,JX,JY,JZ,Y0,Y1,Y2,Y3,Y4,Y5,Y6,Y7,Y8,Y9,Ya,Yb,Yc,Yd,Ye,Yf,Yg,Yh,Yi,Yj,Yk,Yl,Ym,Yn,Yo,Yp,Yq,ial,Yr,Ys,Yt,Yu,Yv,Yw,Yx,Yy,ires,iresL,ires1,Yz,YA,YB,YC,YD,YE,bin2,YF,YG,YH,YI,YJ,YK,YL,YM,YN,YO,YP,YQ,YR,YS,YT,YU,un1,shOk,eqL,eq1,fillL,putAt,IHeap.load1,IHeap.loadL,IHeap.storeL,YV,YW,YX,YY,YZ,B0,B1,B2,B3,B4,B5,B6,B7,B8,B9,Ba,Bb,Bc,Bd,Be,Bf,Bg,Bh,Bi,Bj,Bk,Bl,Bm,Bn,Bo,Bp, nilOf]
          refine call_of (PLead_ok c hA hD hc (a := 9) (n := 0) (fr := 0) i1 fun H2 BS2 f2 g2 i2 => ?_)
          rw [lead_nine h0 (by omega)] at i2 ⊢
          have n1 := k1.next
          have n2 := f2.next
          obtain ⟨H3, hH3⟩ : ∃ X : IHeap, X = (H2.alloc (.cells [.int .i64 0, .int .i64 0] false)).set H2.next (.cells [.int .i64 10, .int .i64 me] false) := ⟨_, rfl⟩
          have k3 : H2.le H3 := by rw [hH3]; exact (H2.le_alloc _).set (Nat.le_refl _) _
          have n3 : H3.next = H2.next + 1 := by rw [hH3]; rfl
          have b3 : H3.get H2.next = some (.cells [.int .i64 10, .int .i64 me] false) := by rw [hH3, YW, if_pos rfl]
          have nb : ¬ BS2 H2.next := fun h => by have := i2.lt _ h; omega
          have hB2 : ∀ b, BS2 b → H.next ≤ b ∧ b < H2.next := fun b hb => ⟨by rcases g2 b hb with h | h; exact hb1 b h; omega, i2.lt b hb⟩
          have k03 : H.le H3 := (k1.trans_fr f2).le (fun b hb => hb1 b hb) |>.trans k3
          simp -implicitDefEqProofs [J0,J1,J2,J3,J4,J5,J6,J7,J8,J9,Ja,Jb,Jc,Jd,Je,Jf,Jg,Jh,Ji,Jj,Jk,Jl,Jm,Jn,Jo,Jp,Jq,Jr,Js,Jt,Ju,Jv,Jw,Jx,Jy,Jz,JA,JB,JC,JD,JE,JF,JG,JH,JI,JJ,JK,JL,JM,JN,JO,JP,JQ,JR,JS,stillI,IOp.kind,JT,JU,JV,JW,JX,JY,JZ,Y0,Y1,Y2,Y3,Y4,Y5,Y6,Y7,Y8,Y9,Ya,Yb,Yc,Yd,Ye,Yf,Yg,Yh,Yi,Yj,Yk,Yl,Ym,Yn,Yo,Yp,Yq,ial,Yr,Ys,Yt,Yu,Yv,Yw,Yx,Yy,ires,iresL,ires1,Yz,YA,YB,YC,YD,YE,bin2,YF,YG,YH,YI,YJ,YK,YL,YM,YN,YO,YP,YQ,YR,YS,YT,YU,un1,shOk,eqL,eq1,fillL,putAt,IHeap.load1,IHeap.loadL,IHeap.storeL,YV,YW,YX,YY,YZ,B0,B1,B2,B3,B4,B5,B6,B7,B8,B9,Ba,Bb,Bc,Bd,Be,Bf,Bg,Bh,Bi,Bj,Bk,Bl,Bm,Bn,Bo,Bp, vB, ← hH3]
          refine loop_nat c.mono (fun k T H' => ∃ i : Nat, i ≤ q ∧ k = q - i ∧ T 0 = .int .i64 n ∧ T 2 = u ∧ T 7 = .pointer (some ⟨p, 0, none⟩) ∧ T 8 = .pointer (some ⟨H2.next, 0, none⟩) ∧ T 11 = .int .i64 i ∧
            Fr BS2 H3 H' ∧ IsP BS2 H' p (promP n me ls i) ∧ Grow H' H3.next 4 (T 10) ((allV ls i).map rowV) ∧ Few20 ls i) q ?_ ?_
          · refine ⟨0, by omega, rfl, ?_⟩
            simp -implicitDefEqProofs [J0,J1,J2,J3,J4,J5,J6,J7,J8,J9,Ja,Jb,Jc,Jd,Je,Jf,Jg,Jh,Ji,Jj,Jk,Jl,Jm,Jn,Jo,Jp,Jq,Jr,Js,Jt,Ju,Jv,Jw,Jx,Jy,Jz,JA,JB,JC,JD,JE,JF,JG,JH,JI,JJ,JK,JL,JM,JN,JO,JP,JQ,JR,JS,stillI,IOp.kind,JT,JU,JV,JW,JX,JY,JZ,Y0,Y1,Y2,Y3,Y4,Y5,Y6,Y7,Y8,Y9,Ya,Yb,Yc,Yd,Ye,Yf,Yg,Yh,Yi,Yj,Yk,Yl,Ym,Yn,Yo,Yp,Yq,ial,Yr,Ys,Yt,Yu,Yv,Yw,Yx,Yy,ires,iresL,ires1,Yz,YA,YB,YC,YD,YE,bin2,YF,YG,YH,YI,YJ,YK,YL,YM,YN,YO,YP,YQ,YR,YS,YT,YU,un1,shOk,eqL,eq1,fillL,putAt,IHeap.load1,IHeap.loadL,IHeap.storeL,YV,YW,YX,YY,YZ,B0,B1,B2,B3,B4,B5,B6,B7,B8,B9,Ba,Bb,Bc,Bd,Be,Bf,Bg,Bh,Bi,Bj,Bk,Bl,Bm,Bn,Bo,Bp]
            exact ⟨Fr.refl _ _, i2.le k3, Grow.nil _ _ _, fun j hj => by omega⟩
          · rintro k T H' ⟨i, hi, rfl, t0, t2, t7, t8, t11, fH, iH, gH, h20⟩
            simp -implicitDefEqProofs [J0,J1,J2,J3,J4,J5,J6,J7,J8,J9,Ja,Jb,Jc,Jd,Je,Jf,Jg,Jh,Ji,Jj,Jk,Jl,Jm,Jn,Jo,Jp,Jq,Jr,Js,Jt,Ju,Jv,Jw,Jx,Jy,Jz,JA,JB,JC,JD,JE,JF,JG,JH,JI,JJ,JK,JL,JM,JN,JO,JP,JQ,JR,JS,stillI,IOp.kind,JT,JU,JV,JW,JX,JY,JZ,Y0,Y1,Y2,Y3,Y4,Y5,Y6,Y7,Y8,Y9,Ya,Yb,Yc,Yd,Ye,Yf,Yg,Yh,Yi,Yj,Yk,Yl,Ym,Yn,Yo,Yp,Yq,ial,Yr,Ys,Yt,Yu,Yv,Yw,Yx,Yy,ires,iresL,ires1,Yz,YA,YB,YC,YD,YE,bin2,YF,YG,YH,YI,YJ,YK,YL,YM,YN,YO,YP,YQ,YR,YS,YT,YU,un1,shOk,eqL,eq1,fillL,putAt,IHeap.load1,IHeap.loadL,IHeap.storeL,YV,YW,YX,YY,YZ,B0,B1,B2,B3,B4,B5,B6,B7,B8,B9,Ba,Bb,Bc,Bd,Be,Bf,Bg,Bh,Bi,Bj,Bk,Bl,Bm,Bn,Bo,Bp, t0, t2, t7, t8, t11]
            refine call_of (refQuorum_ok c hB ?_)
            have k0H : H.le H' := ⟨Nat.le_trans k03.next fH.next, fun b hb => (fH.get b (by have := k03.next; omega) (fun h => by have := hB2 b h; omega)).trans (k03.get b hb)⟩
            by_cases hiq : (i : Int) < (q : Int)
            · have hil : i < ls.length := by omega
              have hx : ls[i]? = some ls[i] := List.getElem?_eq_getElem hil
              obtain ⟨l, hle⟩ : ∃ l, l = ls[i] := ⟨_, rfl⟩
              rw [← hle] at hx
              have hgd : ls.getD i [] = l := by rw [List.getD_eq_getElem?_getD, hx]; rfl
              obtain ⟨x, b, o, cap, cs, ro, ea, hget, hcx, hsx⟩ := (hu.le k0H).at hx
              rw [ea] at t2
              obtain ⟨xa, xcap, hxe, _⟩ := id hsx
              rw [List.length_map] at hxe
              have hil' : (i : Int) < (ls.length : Int) := by omega
              by_cases hl20 : (20 : Int) < (l.length : Int)
              · subst hxe
                simp -implicitDefEqProofs [J0,J1,J2,J3,J4,J5,J6,J7,J8,J9,Ja,Jb,Jc,Jd,Je,Jf,Jg,Jh,Ji,Jj,Jk,Jl,Jm,Jn,Jo,Jp,Jq,Jr,Js,Jt,Ju,Jv,Jw,Jx,Jy,Jz,JA,JB,JC,JD,JE,JF,JG,JH,JI,JJ,JK,JL,JM,JN,JO,JP,JQ,JR,JS,stillI,IOp.kind,JT,JU,JV,JW,JX,JY,JZ,Y0,Y1,Y2,Y3,Y4,Y5,Y6,Y7,Y8,Y9,Ya,Yb,Yc,Yd,Ye,Yf,Yg,Yh,Yi,Yj,Yk,Yl,Ym,Yn,Yo,Yp,Yq,ial,Yr,Ys,Yt,Yu,Yv,Yw,Yx,Yy,ires,iresL,ires1,Yz,YA,YB,YC,YD,YE,bin2,YF,YG,YH,YI,YJ,YK,YL,YM,YN,YO,YP,YQ,YR,YS,YT,YU,un1,shOk,eqL,eq1,fillL,putAt,IHeap.load1,IHeap.loadL,IHeap.storeL,YV,YW,YX,YY,YZ,B0,B1,B2,B3,B4,B5,B6,B7,B8,B9,Ba,Bb,Bc,Bd,Be,Bf,Bg,Bh,Bi,Bj,Bk,Bl,Bm,Bn,Bo,Bp, hqe, hiq, t0, t2, t7, t8, t11, hil', hil, hget, hcx, hl20]
                refine call_of (hW _ _ fun H' => ?_)
                simp -implicitDefEqProofs [J0,J1,J2,J3,J4,J5,J6,J7,J8,J9,Ja,Jb,Jc,Jd,Je,Jf,Jg,Jh,Ji,Jj,Jk,Jl,Jm,Jn,Jo,Jp,Jq,Jr,Js,Jt,Ju,Jv,Jw,Jx,Jy,Jz,JA,JB,JC,JD,JE,JF,JG,JH,JI,JJ,JK,JL,JM,JN,JO,JP,JQ,JR,JS,stillI,IOp.kind,JT,JU,JV,JW,JX,JY,JZ,Y0,Y1,Y2,Y3,Y4,Y5,Y6,Y7,Y8,Y9,Ya,Yb,Yc,Yd,Ye,Yf,Yg,Yh,Yi,Yj,Yk,Yl,Ym,Yn,Yo,Yp,Yq,ial,Yr,Ys,Yt,Yu,Yv,Yw,Yx,Yy,ires,iresL,ires1,Yz,YA,YB,YC,YD,YE,bin2,YF,YG,YH,YI,YJ,YK,YL,YM,YN,YO,YP,YQ,YR,YS,YT,YU,un1,shOk,eqL,eq1,fillL,putAt,IHeap.load1,IHeap.loadL,IHeap.storeL,YV,YW,YX,YY,YZ,B0,B1,B2,B3,B4,B5,B6,B7,B8,B9,Ba,Bb,Bc,Bd,Be,Bf,Bg,Bh,Bi,Bj,Bk,Bl,Bm,Bn,Bo,Bp]
                exact hK _
              · have hl20' : l.length ≤ 20 := by omega
                have hsD : SlD (fun b => b < H.next) H 4 x (l.map rowV) := by
                  obtain ⟨x', b', o', cap', cs', ro', ea', hget', hcx', hsx'⟩ := hu.at hx
                  rw [ea] at ea'
                  simp only [Value.slice.injEq, Option.some.injEq, Addr.mk.injEq] at ea'
                  obtain ⟨⟨rfl, rfl, -⟩, -, rfl⟩ := ea'
                  have hbH : b < H.next := by
                    obtain ⟨us, e1, ⟨a9, c9, e2, e3⟩, _⟩ := hu
                    rw [ea] at e2
                    obtain ⟨b9, o9, cs9, ro9, e4, e5, _⟩ := e3 (by intro h; simp at h; rw [h] at e1; simp at e1; omega)
                    subst e4
                    simp only [Value.slice.injEq, Option.some.injEq, Addr.mk.injEq] at e2
                    omega
                  rw [k0H.get b hbH, hget'] at hget
                  simp only [Option.some.injEq, IObj.cells.injEq] at hget
                  obtain ⟨rfl, rfl⟩ := hget
                  rw [hcx'] at hcx
                  injection hcx with hcx
                  subst hcx
                  exact hsx'.slD
                have bH := (fH.get H2.next (by omega) nb).trans b3
                subst hxe
                simp -implicitDefEqProofs [J0,J1,J2,J3,J4,J5,J6,J7,J8,J9,Ja,Jb,Jc,Jd,Je,Jf,Jg,Jh,Ji,Jj,Jk,Jl,Jm,Jn,Jo,Jp,Jq,Jr,Js,Jt,Ju,Jv,Jw,Jx,Jy,Jz,JA,JB,JC,JD,JE,JF,JG,JH,JI,JJ,JK,JL,JM,JN,JO,JP,JQ,JR,JS,stillI,IOp.kind,JT,JU,JV,JW,JX,JY,JZ,Y0,Y1,Y2,Y3,Y4,Y5,Y6,Y7,Y8,Y9,Ya,Yb,Yc,Yd,Ye,Yf,Yg,Yh,Yi,Yj,Yk,Yl,Ym,Yn,Yo,Yp,Yq,ial,Yr,Ys,Yt,Yu,Yv,Yw,Yx,Yy,ires,iresL,ires1,Yz,YA,YB,YC,YD,YE,bin2,YF,YG,YH,YI,YJ,YK,YL,YM,YN,YO,YP,YQ,YR,YS,YT,YU,un1,shOk,eqL,eq1,fillL,putAt,IHeap.load1,IHeap.loadL,IHeap.storeL,YV,YW,YX,YY,YZ,B0,B1,B2,B3,B4,B5,B6,B7,B8,B9,Ba,Bb,Bc,Bd,Be,Bf,Bg,Bh,Bi,Bj,Bk,Bl,Bm,Bn,Bo,Bp, hqe, hiq, t0, t2, t7, t8, t11, hil', hil, hget, hcx, hl20, bH]
                refine dcall_of c.mono (PPromise_ok c hA hB hc hT (fr := i) (a := 10) (n := me) (l := l) iH (by rw [(promP_ok (ls := ls) hq h0 hmn i (by omega)).2.2.2.2.2.1]; omega) (by rw [(promP_ok (ls := ls) hq h0 hmn i (by omega)).2.1]; omega) (hsD.le k0H) (fun b hb h => by have := hB2 b h; omega) (by omega) fun H4 f4 i4 => ?_)
                have i4' : IsP BS2 H4 p (promP n me ls (i + 1)) := by
                  have : promP n me ls (i + 1) = ((promP n me ls i).promise i 10 me l).1 := by rw [← hgd]; rfl
                  rw [this]; exact i4
                have f34 := fH.trans f4 (fun b hb => .inl hb)
                have g4 : Grow H4 H3.next 4 (T 10) ((allV ls i).map rowV) := by
                  rcases gH with ⟨a1, a2⟩ | ⟨a1, blk, a2, a3, a4, a5⟩
                  · exact .inl ⟨a1, a2⟩
                  · exact .inr ⟨a1, blk, a2, Nat.lt_of_lt_of_le a3 f4.next, a4, (f4.get blk a3 (fun h => by have := hB2 blk h; omega)).trans a5⟩
                rw [← ea] at t2
                simp -implicitDefEqProofs [J0,J1,J2,J3,J4,J5,J6,J7,J8,J9,Ja,Jb,Jc,Jd,Je,Jf,Jg,Jh,Ji,Jj,Jk,Jl,Jm,Jn,Jo,Jp,Jq,Jr,Js,Jt,Ju,Jv,Jw,Jx,Jy,Jz,JA,JB,JC,JD,JE,JF,JG,JH,JI,JJ,JK,JL,JM,JN,JO,JP,JQ,JR,JS,stillI,IOp.kind,JT,JU,JV,JW,JX,JY,JZ,Y0,Y1,Y2,Y3,Y4,Y5,Y6,Y7,Y8,Y9,Ya,Yb,Yc,Yd,Ye,Yf,Yg,Yh,Yi,Yj,Yk,Yl,Ym,Yn,Yo,Yp,Yq,ial,Yr,Ys,Yt,Yu,Yv,Yw,Yx,Yy,ires,iresL,ires1,Yz,YA,YB,YC,YD,YE,bin2,YF,YG,YH,YI,YJ,YK,YL,YM,YN,YO,YP,YQ,YR,YS,YT,YU,un1,shOk,eqL,eq1,fillL,putAt,IHeap.load1,IHeap.loadL,IHeap.storeL,YV,YW,YX,YY,YZ,B0,B1,B2,B3,B4,B5,B6,B7,B8,B9,Ba,Bb,Bc,Bd,Be,Bf,Bg,Bh,Bi,Bj,Bk,Bl,Bm,Bn,Bo,Bp, t0, t2, t7, t8, t11]
                refine loop_nat c.mono (fun k T H' => ∃ j : Nat, j ≤ l.length ∧ k = l.length - j ∧ T 0 = .int .i64 n ∧ T 2 = u ∧ T 7 = .pointer (some ⟨p, 0, none⟩) ∧ T 8 = .pointer (some ⟨H2.next, 0, none⟩) ∧ T 11 = .int .i64 i ∧ T 12 = .int .i64 j ∧
                  Fr BS2 H3 H' ∧ IsP BS2 H' p (promP n me ls (i + 1)) ∧ Grow H' H3.next 4 (T 10) ((accV ls i l j).map rowV)) l.length ?_ ?_
                · refine ⟨0, by omega, rfl, ?_⟩
                  simp -implicitDefEqProofs [J0,J1,J2,J3,J4,J5,J6,J7,J8,J9,Ja,Jb,Jc,Jd,Je,Jf,Jg,Jh,Ji,Jj,Jk,Jl,Jm,Jn,Jo,Jp,Jq,Jr,Js,Jt,Ju,Jv,Jw,Jx,Jy,Jz,JA,JB,JC,JD,JE,JF,JG,JH,JI,JJ,JK,JL,JM,JN,JO,JP,JQ,JR,JS,stillI,IOp.kind,JT,JU,JV,JW,JX,JY,JZ,Y0,Y1,Y2,Y3,Y4,Y5,Y6,Y7,Y8,Y9,Ya,Yb,Yc,Yd,Ye,Yf,Yg,Yh,Yi,Yj,Yk,Yl,Ym,Yn,Yo,Yp,Yq,ial,Yr,Ys,Yt,Yu,Yv,Yw,Yx,Yy,ires,iresL,ires1,Yz,YA,YB,YC,YD,YE,bin2,YF,YG,YH,YI,YJ,YK,YL,YM,YN,YO,YP,YQ,YR,YS,YT,YU,un1,shOk,eqL,eq1,fillL,putAt,IHeap.load1,IHeap.loadL,IHeap.storeL,YV,YW,YX,YY,YZ,B0,B1,B2,B3,B4,B5,B6,B7,B8,B9,Ba,Bb,Bc,Bd,Be,Bf,Bg,Bh,Bi,Bj,Bk,Bl,Bm,Bn,Bo,Bp, t0, t2, t7, t8, t11]
                  exact ⟨f34, i4', by simpa [accV] using g4⟩
                · rintro k T5 H5 ⟨j, hj, rfl, t0, t2, t7, t8, t11, t12, f5, i5, g5⟩
                  have k05 : H.le H5 := ⟨Nat.le_trans k03.next f5.next, fun b hb => (f5.get b (by have := k03.next; omega) (fun h => by have := hB2 b h; omega)).trans (k03.get b hb)⟩
                  obtain ⟨x5, b5, o5, cap5, cs5, ro5, ea5, hget5, hcx5, hsx5⟩ := (hu.le k05).at hx
                  obtain ⟨xa5, xcap5, hxe5, _⟩ := id hsx5
                  rw [List.length_map] at hxe5
                  subst hxe5
                  rw [ea5] at t2
                  by_cases hjl : j < l.length
                  · have hjl' : (j : Int) < (l.length : Int) := by omega
                    have hv0 : l[j]? = some l[j] := List.getElem?_eq_getElem hjl
                    obtain ⟨v, hv⟩ : ∃ v, v = l[j] := ⟨_, rfl⟩
                    rw [← hv] at hv0
                    obtain ⟨b6, o6, cp6, cs6, ro6, ea6, hb6, hget6, hrl6, hrow6, hbd6⟩ := hsx5.at (i := j) (r := rowV v) (by simp [hv0])
                    rw [List.length_map] at ea6
                    simp only [Value.slice.injEq] at ea6
                    obtain ⟨rfl, -, rfl⟩ := ea6
                    simp only [rowV] at hrow6
                    have wj : IntKind.i64.wrap ((j : Int) + 1) = (j : Int) + 1 := wrap64 (by omega) (by omega)
                    obtain ⟨H6, hH6⟩ : ∃ X : IHeap, X = (H5.alloc (.cells [.int .i64 0, .int .i64 0, .int .i64 0, .string ⟨#[]⟩] false)).set H5.next (.cells [.int .i64 v.slot, .int .i64 v.a, .int .i64 v.n, .string v.val] false) := ⟨_, rfl⟩
                    have k6 : H5.le H6 := by rw [hH6]; exact (H5.le_alloc _).set (Nat.le_refl _) _
                    have b60 : H6.get H5.next = some (.cells [.int .i64 v.slot, .int .i64 v.a, .int .i64 v.n, .string v.val] false) := by rw [hH6, YW, if_pos rfl]
                    have n6 : H6.next = H5.next + 1 := by rw [hH6]; rfl
                    have hlv : v.val.data.toList.length = v.val.size := rfl
                    have tk : l.take (j + 1) = l.take j ++ [v] := by rw [List.take_add_one, hv0]; rfl
                    have bad : ∀ HX, H5.le HX → goodV v = false → Fr BS2 H3 HX ∧ IsP BS2 HX p (promP n me ls (i + 1)) ∧ Grow HX H3.next 4 (T5 10) ((accV ls i l (j + 1)).map rowV) := by
                      intro HX kX hg
                      refine ⟨f5.trans_le kX, i5.le kX, ?_⟩
                      unfold accV
                      rw [tk, List.filter_append, List.filter_cons, hg]
                      simpa [accV] using g5.le kX
                    by_cases c1 : 0 ≤ v.slot
                    · by_cases c2 : v.slot < 1024
                      · simp -implicitDefEqProofs [J0,J1,J2,J3,J4,J5,J6,J7,J8,J9,Ja,Jb,Jc,Jd,Je,Jf,Jg,Jh,Ji,Jj,Jk,Jl,Jm,Jn,Jo,Jp,Jq,Jr,Js,Jt,Ju,Jv,Jw,Jx,Jy,Jz,JA,JB,JC,JD,JE,JF,JG,JH,JI,JJ,JK,JL,JM,JN,JO,JP,JQ,JR,JS,stillI,IOp.kind,JT,JU,JV,JW,JX,JY,JZ,Y0,Y1,Y2,Y3,Y4,Y5,Y6,Y7,Y8,Y9,Ya,Yb,Yc,Yd,Ye,Yf,Yg,Yh,Yi,Yj,Yk,Yl,Ym,Yn,Yo,Yp,Yq,ial,Yr,Ys,Yt,Yu,Yv,Yw,Yx,Yy,ires,iresL,ires1,Yz,YA,YB,YC,YD,YE,bin2,YF,YG,YH,YI,YJ,YK,YL,YM,YN,YO,YP,YQ,YR,YS,YT,YU,un1,shOk,eqL,eq1,fillL,putAt,IHeap.load1,IHeap.loadL,IHeap.storeL,YV,YW,YX,YY,YZ,B0,B1,B2,B3,B4,B5,B6,B7,B8,B9,Ba,Bb,Bc,Bd,Be,Bf,Bg,Bh,Bi,Bj,Bk,Bl,Bm,Bn,Bo,Bp, t0, t2, t7, t8, t11, t12, hjl, hjl', hil, hil', hget5, hcx5, hget6, hrow6, hbd6, ← hH6, b60, c1, c2]
                        refine call_of (refValid_ok c hBC (a := v.a) (n := v.n) fun H7 k7 => ?_)
                        have b70 := (k7.get H5.next (by omega)).trans b60
                        have n7 := k7.next
                        cases c3 : validB v.a v.n with
                        | false =>
                          simp -implicitDefEqProofs [J0,J1,J2,J3,J4,J5,J6,J7,J8,J9,Ja,Jb,Jc,Jd,Je,Jf,Jg,Jh,Ji,Jj,Jk,Jl,Jm,Jn,Jo,Jp,Jq,Jr,Js,Jt,Ju,Jv,Jw,Jx,Jy,Jz,JA,JB,JC,JD,JE,JF,JG,JH,JI,JJ,JK,JL,JM,JN,JO,JP,JQ,JR,JS,stillI,IOp.kind,JT,JU,JV,JW,JX,JY,JZ,Y0,Y1,Y2,Y3,Y4,Y5,Y6,Y7,Y8,Y9,Ya,Yb,Yc,Yd,Ye,Yf,Yg,Yh,Yi,Yj,Yk,Yl,Ym,Yn,Yo,Yp,Yq,ial,Yr,Ys,Yt,Yu,Yv,Yw,Yx,Yy,ires,iresL,ires1,Yz,YA,YB,YC,YD,YE,bin2,YF,YG,YH,YI,YJ,YK,YL,YM,YN,YO,YP,YQ,YR,YS,YT,YU,un1,shOk,eqL,eq1,fillL,putAt,IHeap.load1,IHeap.loadL,IHeap.storeL,YV,YW,YX,YY,YZ,B0,B1,B2,B3,B4,B5,B6,B7,B8,B9,Ba,Bb,Bc,Bd,Be,Bf,Bg,Bh,Bi,Bj,Bk,Bl,Bm,Bn,Bo,Bp, t0, t2, t7, t8, t11, t12, wj, b70]
                          exact ⟨l.length - (j + 1), by omega, j + 1, by omega, rfl, ea5.symm, rfl, bad H7 (k6.trans k7) (by unfold goodV; rw [c3]; simp)⟩
                        | true =>
                          by_cases c4 : v.val.size ≤ 4096
                          · have c4' : (v.val.size : Int) ≤ 4096 := by omega
                            have hg : goodV v = true := by unfold goodV; simp [c1, c2, c3, c4]
                            obtain ⟨H8, hH8⟩ : ∃ X : IHeap, X = H7.alloc (.cells [.int .i64 v.slot, .int .i64 v.a, .int .i64 v.n, .string v.val] false) := ⟨_, rfl⟩
                            have k8 : H7.le H8 := by rw [hH8]; exact H7.le_alloc _
                            have b80 : H8.get H7.next = some (.cells [.int .i64 v.slot, .int .i64 v.a, .int .i64 v.n, .string v.val] false) := by rw [hH8, YV, if_pos rfl]
                            have k58 := (k6.trans k7).trans k8
                            have n5 := f5.next
                            have n8 := k58.next
                            have hlen : (accV ls i l j).length ≤ 1000 := by
                              unfold accV
                              have q1 : (allV ls i).length ≤ 20 * i := by
                                have q0 : ∀ j, j ≤ i → (allV ls j).length ≤ 20 * j := by
                                  intro j
                                  induction j with
                                  | zero => intro _; exact Nat.le_refl _
                                  | succ j ih =>
                                    intro hj
                                    have q2 := ih (by omega)
                                    have q3 := List.length_filter_le goodV (ls.getD j [])
                                    have q4 := h20 j (by omega)
                                    simp only [allV, List.length_append]; omega
                                exact q0 i (Nat.le_refl _)
                              have q2 := List.length_filter_le goodV (l.take j)
                              have q3 : (l.take j).length ≤ l.length := by rw [List.length_take]; omega
                              rw [List.length_append]
                              omega
                            obtain ⟨v9, H9, ap, gr9, kp9⟩ := (g5.le k58).append1 (bytes := 40) (new := rowV v) (by omega) (by omega) (by omega) (by rw [List.length_map]; omega) (by rw [List.length_map]; omega) rfl rfl
                            simp only [rowV] at ap
                            simp -implicitDefEqProofs [J0,J1,J2,J3,J4,J5,J6,J7,J8,J9,Ja,Jb,Jc,Jd,Je,Jf,Jg,Jh,Ji,Jj,Jk,Jl,Jm,Jn,Jo,Jp,Jq,Jr,Js,Jt,Ju,Jv,Jw,Jx,Jy,Jz,JA,JB,JC,JD,JE,JF,JG,JH,JI,JJ,JK,JL,JM,JN,JO,JP,JQ,JR,JS,stillI,IOp.kind,JT,JU,JV,JW,JX,JY,JZ,Y0,Y1,Y2,Y3,Y4,Y5,Y6,Y7,Y8,Y9,Ya,Yb,Yc,Yd,Ye,Yf,Yg,Yh,Yi,Yj,Yk,Yl,Ym,Yn,Yo,Yp,Yq,ial,Yr,Ys,Yt,Yu,Yv,Yw,Yx,Yy,ires,iresL,ires1,Yz,YA,YB,YC,YD,YE,bin2,YF,YG,YH,YI,YJ,YK,YL,YM,YN,YO,YP,YQ,YR,YS,YT,YU,un1,shOk,eqL,eq1,fillL,putAt,IHeap.load1,IHeap.loadL,IHeap.storeL,YV,YW,YX,YY,YZ,B0,B1,B2,B3,B4,B5,B6,B7,B8,B9,Ba,Bb,Bc,Bd,Be,Bf,Bg,Bh,Bi,Bj,Bk,Bl,Bm,Bn,Bo,Bp, t0, t2, t7, t8, t11, t12, wj, b70, hlv, c4', ← hH8, lenOfI, firstI, b80, ap]
                            refine ⟨l.length - (j + 1), by omega, j + 1, by omega, rfl, ea5.symm, rfl, ?_, ?_, ?_⟩
                            · exact ⟨Nat.le_trans (f5.trans_le k58).next kp9.next, fun b hb hn => (kp9.get b hb).trans ((f5.trans_le k58).get b hb hn)⟩
                            · exact (i5.le k58).keep kp9 (fun b hb => by have := hB2 b hb; omega)
                            · unfold accV
                              rw [tk, List.filter_append, List.filter_cons, hg, ← List.append_assoc, List.map_append]
                              exact gr9
                          · have c4' : ¬ (v.val.size : Int) ≤ 4096 := by omega
                            simp -implicitDefEqProofs [J0,J1,J2,J3,J4,J5,J6,J7,J8,J9,Ja,Jb,Jc,Jd,Je,Jf,Jg,Jh,Ji,Jj,Jk,Jl,Jm,Jn,Jo,Jp,Jq,Jr,Js,Jt,Ju,Jv,Jw,Jx,Jy,Jz,JA,JB,JC,JD,JE,JF,JG,JH,JI,JJ,JK,JL,JM,JN,JO,JP,JQ,JR,JS,stillI,IOp.kind,JT,JU,JV,JW,JX,JY,JZ,Y0,Y1,Y2,Y3,Y4,Y5,Y6,Y7,Y8,Y9,Ya,Yb,Yc,Yd,Ye,Yf,Yg,Yh,Yi,Yj,Yk,Yl,Ym,Yn,Yo,Yp,Yq,ial,Yr,Ys,Yt,Yu,Yv,Yw,Yx,Yy,ires,iresL,ires1,Yz,YA,YB,YC,YD,YE,bin2,YF,YG,YH,YI,YJ,YK,YL,YM,YN,YO,YP,YQ,YR,YS,YT,YU,un1,shOk,eqL,eq1,fillL,putAt,IHeap.load1,IHeap.loadL,IHeap.storeL,YV,YW,YX,YY,YZ,B0,B1,B2,B3,B4,B5,B6,B7,B8,B9,Ba,Bb,Bc,Bd,Be,Bf,Bg,Bh,Bi,Bj,Bk,Bl,Bm,Bn,Bo,Bp, t0, t2, t7, t8, t11, t12, wj, b70, hlv, c4']
                            exact ⟨l.length - (j + 1), by omega, j + 1, by omega, rfl, ea5.symm, rfl, bad H7 (k6.trans k7) (by unfold goodV; simp [c4])⟩
                      · simp -implicitDefEqProofs [J0,J1,J2,J3,J4,J5,J6,J7,J8,J9,Ja,Jb,Jc,Jd,Je,Jf,Jg,Jh,Ji,Jj,Jk,Jl,Jm,Jn,Jo,Jp,Jq,Jr,Js,Jt,Ju,Jv,Jw,Jx,Jy,Jz,JA,JB,JC,JD,JE,JF,JG,JH,JI,JJ,JK,JL,JM,JN,JO,JP,JQ,JR,JS,stillI,IOp.kind,JT,JU,JV,JW,JX,JY,JZ,Y0,Y1,Y2,Y3,Y4,Y5,Y6,Y7,Y8,Y9,Ya,Yb,Yc,Yd,Ye,Yf,Yg,Yh,Yi,Yj,Yk,Yl,Ym,Yn,Yo,Yp,Yq,ial,Yr,Ys,Yt,Yu,Yv,Yw,Yx,Yy,ires,iresL,ires1,Yz,YA,YB,YC,YD,YE,bin2,YF,YG,YH,YI,YJ,YK,YL,YM,YN,YO,YP,YQ,YR,YS,YT,YU,un1,shOk,eqL,eq1,fillL,putAt,IHeap.load1,IHeap.loadL,IHeap.storeL,YV,YW,YX,YY,YZ,B0,B1,B2,B3,B4,B5,B6,B7,B8,B9,Ba,Bb,Bc,Bd,Be,Bf,Bg,Bh,Bi,Bj,Bk,Bl,Bm,Bn,Bo,Bp, t0, t2, t7, t8, t11, t12, hjl, hjl', hil, hil', hget5, hcx5, hget6, hrow6, hbd6, ← hH6, b60, c1, c2, wj]
                        exact ⟨l.length - (j + 1), by omega, j + 1, by omega, rfl, ea5.symm, rfl, bad H6 k6 (by unfold goodV; simp [c2])⟩
                    · simp -implicitDefEqProofs [J0,J1,J2,J3,J4,J5,J6,J7,J8,J9,Ja,Jb,Jc,Jd,Je,Jf,Jg,Jh,Ji,Jj,Jk,Jl,Jm,Jn,Jo,Jp,Jq,Jr,Js,Jt,Ju,Jv,Jw,Jx,Jy,Jz,JA,JB,JC,JD,JE,JF,JG,JH,JI,JJ,JK,JL,JM,JN,JO,JP,JQ,JR,JS,stillI,IOp.kind,JT,JU,JV,JW,JX,JY,JZ,Y0,Y1,Y2,Y3,Y4,Y5,Y6,Y7,Y8,Y9,Ya,Yb,Yc,Yd,Ye,Yf,Yg,Yh,Yi,Yj,Yk,Yl,Ym,Yn,Yo,Yp,Yq,ial,Yr,Ys,Yt,Yu,Yv,Yw,Yx,Yy,ires,iresL,ires1,Yz,YA,YB,YC,YD,YE,bin2,YF,YG,YH,YI,YJ,YK,YL,YM,YN,YO,YP,YQ,YR,YS,YT,YU,un1,shOk,eqL,eq1,fillL,putAt,IHeap.load1,IHeap.loadL,IHeap.storeL,YV,YW,YX,YY,YZ,B0,B1,B2,B3,B4,B5,B6,B7,B8,B9,Ba,Bb,Bc,Bd,Be,Bf,Bg,Bh,Bi,Bj,Bk,Bl,Bm,Bn,Bo,Bp, t0, t2, t7, t8, t11, t12, hjl, hjl', hil, hil', hget5, hcx5, hget6, hrow6, hbd6, ← hH6, b60, c1, wj]
                      exact ⟨l.length - (j + 1), by omega, j + 1, by omega, rfl, ea5.symm, rfl, bad H6 k6 (by unfold goodV; simp [c1])⟩
                  · have hjl' : ¬ (j : Int) < (l.length : Int) := by omega
                    have hje : j = l.length := by omega
                    have wi : IntKind.i64.wrap ((i : Int) + 1) = (i : Int) + 1 := wrap64 (by omega) (by omega)
                    simp -implicitDefEqProofs [J0,J1,J2,J3,J4,J5,J6,J7,J8,J9,Ja,Jb,Jc,Jd,Je,Jf,Jg,Jh,Ji,Jj,Jk,Jl,Jm,Jn,Jo,Jp,Jq,Jr,Js,Jt,Ju,Jv,Jw,Jx,Jy,Jz,JA,JB,JC,JD,JE,JF,JG,JH,JI,JJ,JK,JL,JM,JN,JO,JP,JQ,JR,JS,stillI,IOp.kind,JT,JU,JV,JW,JX,JY,JZ,Y0,Y1,Y2,Y3,Y4,Y5,Y6,Y7,Y8,Y9,Ya,Yb,Yc,Yd,Ye,Yf,Yg,Yh,Yi,Yj,Yk,Yl,Ym,Yn,Yo,Yp,Yq,ial,Yr,Ys,Yt,Yu,Yv,Yw,Yx,Yy,ires,iresL,ires1,Yz,YA,YB,YC,YD,YE,bin2,YF,YG,YH,YI,YJ,YK,YL,YM,YN,YO,YP,YQ,YR,YS,YT,YU,un1,shOk,eqL,eq1,fillL,putAt,IHeap.load1,IHeap.loadL,IHeap.storeL,YV,YW,YX,YY,YZ,B0,B1,B2,B3,B4,B5,B6,B7,B8,B9,Ba,Bb,Bc,Bd,Be,Bf,Bg,Bh,Bi,Bj,Bk,Bl,Bm,Bn,Bo,Bp, t0, t2, t7, t8, t11, t12, hjl, hjl', hil, hil', hget5, hcx5, wi]
                    refine ⟨q - (i + 1), by omega, i + 1, by omega, rfl, ea5.symm, rfl, f5, i5, ?_, ?_⟩
                    · unfold accV at g5
                      rw [hje, List.take_length] at g5
                      show Grow H5 H3.next 4 (T5 10) ((allV ls i ++ (ls.getD i []).filter goodV).map rowV)
                      rw [hgd]; exact g5
                    · intro j' hj'
                      by_cases hji : j' < i
                      · exact h20 j' hji
                      · have : j' = i := by omega
                        subst this
                        rw [hgd]; exact hl20'
            · have hie : i = q := by omega
              subst hie
              obtain ⟨p1, p2, p3, p4, p5, p6, p7, p8, p9, p10⟩ := promP_ok (ls := ls) hq h0 hmn i (by omega)
              obtain ⟨PF, hPF⟩ : ∃ PF, PF = promP n me ls i := ⟨_, rfl⟩
              obtain ⟨A, hAV⟩ : ∃ A, A = allV ls i := ⟨_, rfl⟩
              rw [← hPF] at p1 p2 p3 p4 p5 p6 p7 p8 p9 p10 iH
              rw [← hAV] at p10 gH
              have hdoes : PF.does = 2 := by rw [p9, if_neg (by omega)]
              have hAl : A.length ≤ 1000 := by
                have q0 : ∀ j, j ≤ i → (allV ls j).length ≤ 20 * j := by
                  intro j
                  induction j with
                  | zero => intro _; exact Nat.le_refl _
                  | succ j ih =>
                    intro hj
                    have q2 := ih (by omega)
                    have q3 := List.length_filter_le goodV (ls.getD j [])
                    have q4 := h20 j (by omega)
                    simp only [allV, List.length_append]; omega
                have := q0 i (Nat.le_refl _)
                rw [hAV]; omega
              simp -implicitDefEqProofs [J0,J1,J2,J3,J4,J5,J6,J7,J8,J9,Ja,Jb,Jc,Jd,Je,Jf,Jg,Jh,Ji,Jj,Jk,Jl,Jm,Jn,Jo,Jp,Jq,Jr,Js,Jt,Ju,Jv,Jw,Jx,Jy,Jz,JA,JB,JC,JD,JE,JF,JG,JH,JI,JJ,JK,JL,JM,JN,JO,JP,JQ,JR,JS,stillI,IOp.kind,JT,JU,JV,JW,JX,JY,JZ,Y0,Y1,Y2,Y3,Y4,Y5,Y6,Y7,Y8,Y9,Ya,Yb,Yc,Yd,Ye,Yf,Yg,Yh,Yi,Yj,Yk,Yl,Ym,Yn,Yo,Yp,Yq,ial,Yr,Ys,Yt,Yu,Yv,Yw,Yx,Yy,ires,iresL,ires1,Yz,YA,YB,YC,YD,YE,bin2,YF,YG,YH,YI,YJ,YK,YL,YM,YN,YO,YP,YQ,YR,YS,YT,YU,un1,shOk,eqL,eq1,fillL,putAt,IHeap.load1,IHeap.loadL,IHeap.storeL,YV,YW,YX,YY,YZ,B0,B1,B2,B3,B4,B5,B6,B7,B8,B9,Ba,Bb,Bc,Bd,Be,Bf,Bg,Bh,Bi,Bj,Bk,Bl,Bm,Bn,Bo,Bp, hqe, hiq, t0, t2, t7, t8, t11]
              refine call_of (PLeads_ok c hc iH ?_)
              rw [decide_eq_true hdoes]
              simp -implicitDefEqProofs [J0,J1,J2,J3,J4,J5,J6,J7,J8,J9,Ja,Jb,Jc,Jd,Je,Jf,Jg,Jh,Ji,Jj,Jk,Jl,Jm,Jn,Jo,Jp,Jq,Jr,Js,Jt,Ju,Jv,Jw,Jx,Jy,Jz,JA,JB,JC,JD,JE,JF,JG,JH,JI,JJ,JK,JL,JM,JN,JO,JP,JQ,JR,JS,stillI,IOp.kind,JT,JU,JV,JW,JX,JY,JZ,Y0,Y1,Y2,Y3,Y4,Y5,Y6,Y7,Y8,Y9,Ya,Yb,Yc,Yd,Ye,Yf,Yg,Yh,Yi,Yj,Yk,Yl,Ym,Yn,Yo,Yp,Yq,ial,Yr,Ys,Yt,Yu,Yv,Yw,Yx,Yy,ires,iresL,ires1,Yz,YA,YB,YC,YD,YE,bin2,YF,YG,YH,YI,YJ,YK,YL,YM,YN,YO,YP,YQ,YR,YS,YT,YU,un1,shOk,eqL,eq1,fillL,putAt,IHeap.load1,IHeap.loadL,IHeap.storeL,YV,YW,YX,YY,YZ,B0,B1,B2,B3,B4,B5,B6,B7,B8,B9,Ba,Bb,Bc,Bd,Be,Bf,Bg,Bh,Bi,Bj,Bk,Bl,Bm,Bn,Bo,Bp, t0, t2, t7, t8, t11]
              refine call_of (PFill_ok c hc hT iH p1 (fun h => ?_) fun _ _ e he v7 H7 f7 i7 g7 => ?_)
              · rcases h with h | h
                · exact absurd hdoes h
                · rw [p7] at h; cases h
              · obtain ⟨he1, he2, he3⟩ := he
                rw [p6] at he1
                obtain ⟨N, hN⟩ : ∃ N : Nat, e = N := ⟨e.toNat, by omega⟩
                have hNb : N ≤ 1024 := by
                  obtain ⟨_, _, _, _, z5, z6, _, z8⟩ := p1
                  rcases he3 with he3 | ⟨w, he3⟩
                  · omega
                  · have := z8 _ _ he3; omega
                have hfill : PF.fill e = filledL PF 0 N := by unfold Pro.fill; rw [p6, hN]; rfl
                have hol : (PF.fill e).length = N := by rw [hfill, filledL_len]
                have hog : ∀ j, j < N → (PF.fill e)[j]? = some ⟨(j : Int), 10, me, valOf (PF.best j)⟩ := by
                  intro j hj
                  rw [hfill, filledL_get PF N 0 j hj, p4, p5]
                  simp
                obtain ⟨out, hout⟩ : ∃ out, out = PF.fill e := ⟨_, rfl⟩
                rw [← hout] at g7 hol hog
                have bH := (fH.get H2.next (by omega) nb).trans b3
                have b7 := (f7.get H2.next (by have := fH.next; omega) nb).trans bH
                have sA : SlR H7 4 (T 10) (A.map rowV) := (gH.slD.fr f7 (fun b hb h => by have := hB2 b h; omega)).sl
                have sO : SlR H7 4 v7 (out.map rowV) := g7.slr
                obtain ⟨aa, acap, hae, _⟩ := id sA
                obtain ⟨oa, ocap, hoe, _⟩ := id sO
                rw [List.length_map] at hae hoe
                rw [hol] at hoe
                rw [hae] at sA
                subst hoe
                have n3f := fH.next
                have n7 := f7.next
                simp -implicitDefEqProofs [J0,J1,J2,J3,J4,J5,J6,J7,J8,J9,Ja,Jb,Jc,Jd,Je,Jf,Jg,Jh,Ji,Jj,Jk,Jl,Jm,Jn,Jo,Jp,Jq,Jr,Js,Jt,Ju,Jv,Jw,Jx,Jy,Jz,JA,JB,JC,JD,JE,JF,JG,JH,JI,JJ,JK,JL,JM,JN,JO,JP,JQ,JR,JS,stillI,IOp.kind,JT,JU,JV,JW,JX,JY,JZ,Y0,Y1,Y2,Y3,Y4,Y5,Y6,Y7,Y8,Y9,Ya,Yb,Yc,Yd,Ye,Yf,Yg,Yh,Yi,Yj,Yk,Yl,Ym,Yn,Yo,Yp,Yq,ial,Yr,Ys,Yt,Yu,Yv,Yw,Yx,Yy,ires,iresL,ires1,Yz,YA,YB,YC,YD,YE,bin2,YF,YG,YH,YI,YJ,YK,YL,YM,YN,YO,YP,YQ,YR,YS,YT,YU,un1,shOk,eqL,eq1,fillL,putAt,IHeap.load1,IHeap.loadL,IHeap.storeL,YV,YW,YX,YY,YZ,B0,B1,B2,B3,B4,B5,B6,B7,B8,B9,Ba,Bb,Bc,Bd,Be,Bf,Bg,Bh,Bi,Bj,Bk,Bl,Bm,Bn,Bo,Bp, t0, t2, t7, t8, t11, hae]
                refine loop_nat c.mono (fun k T H' => ∃ j : Nat, j ≤ N ∧ k = N - j ∧ T 8 = .pointer (some ⟨H2.next, 0, none⟩) ∧ T 10 = .slice aa A.length acap ∧ T 14 = .slice oa N ocap ∧ T 15 = .int .i64 j ∧ H' = H7) N ?_ ?_
                · refine ⟨0, by omega, rfl, ?_⟩
                  simp -implicitDefEqProofs [J0,J1,J2,J3,J4,J5,J6,J7,J8,J9,Ja,Jb,Jc,Jd,Je,Jf,Jg,Jh,Ji,Jj,Jk,Jl,Jm,Jn,Jo,Jp,Jq,Jr,Js,Jt,Ju,Jv,Jw,Jx,Jy,Jz,JA,JB,JC,JD,JE,JF,JG,JH,JI,JJ,JK,JL,JM,JN,JO,JP,JQ,JR,JS,stillI,IOp.kind,JT,JU,JV,JW,JX,JY,JZ,Y0,Y1,Y2,Y3,Y4,Y5,Y6,Y7,Y8,Y9,Ya,Yb,Yc,Yd,Ye,Yf,Yg,Yh,Yi,Yj,Yk,Yl,Ym,Yn,Yo,Yp,Yq,ial,Yr,Ys,Yt,Yu,Yv,Yw,Yx,Yy,ires,iresL,ires1,Yz,YA,YB,YC,YD,YE,bin2,YF,YG,YH,YI,YJ,YK,YL,YM,YN,YO,YP,YQ,YR,YS,YT,YU,un1,shOk,eqL,eq1,fillL,putAt,IHeap.load1,IHeap.loadL,IHeap.storeL,YV,YW,YX,YY,YZ,B0,B1,B2,B3,B4,B5,B6,B7,B8,B9,Ba,Bb,Bc,Bd,Be,Bf,Bg,Bh,Bi,Bj,Bk,Bl,Bm,Bn,Bo,Bp, t0, t2, t7, t8, t11, hae]
                · rintro k T8 H8 ⟨j, hj, rfl, t8, t10, t14, t15, rfl⟩
                  by_cases hjN : j < N
                  · have hjN' : (j : Int) < (N : Int) := by omega
                    obtain ⟨b9, o9, cp9, cs9, ro9, ea9, hb9, hget9, hrl9, hrow9, hbd9⟩ := sO.at (i := j) (r := rowV ⟨(j : Int), 10, me, valOf (PF.best j)⟩) (by rw [List.getElem?_map, hog j hjN]; rfl)
                    rw [List.length_map, hol] at ea9
                    simp only [Value.slice.injEq] at ea9
                    obtain ⟨rfl, -, rfl⟩ := ea9
                    have r0 := row_at hrow9 0 (by omega)
                    have r1 := win hrow9 1 2 (by omega)
                    simp only [rowV, List.getElem?_cons_zero, Nat.add_zero, List.drop_succ_cons, List.drop_zero, List.take_succ_cons, List.take_zero] at r0 r1
                    have hbd9' : o9 + j * 4 + 1 + 2 ≤ cs9.length := by omega
                    have wj : IntKind.i64.wrap ((j : Int) + 1) = (j : Int) + 1 := wrap64 (by omega) (by omega)
                    simp -implicitDefEqProofs [J0,J1,J2,J3,J4,J5,J6,J7,J8,J9,Ja,Jb,Jc,Jd,Je,Jf,Jg,Jh,Ji,Jj,Jk,Jl,Jm,Jn,Jo,Jp,Jq,Jr,Js,Jt,Ju,Jv,Jw,Jx,Jy,Jz,JA,JB,JC,JD,JE,JF,JG,JH,JI,JJ,JK,JL,JM,JN,JO,JP,JQ,JR,JS,stillI,IOp.kind,JT,JU,JV,JW,JX,JY,JZ,Y0,Y1,Y2,Y3,Y4,Y5,Y6,Y7,Y8,Y9,Ya,Yb,Yc,Yd,Ye,Yf,Yg,Yh,Yi,Yj,Yk,Yl,Ym,Yn,Yo,Yp,Yq,ial,Yr,Ys,Yt,Yu,Yv,Yw,Yx,Yy,ires,iresL,ires1,Yz,YA,YB,YC,YD,YE,bin2,YF,YG,YH,YI,YJ,YK,YL,YM,YN,YO,YP,YQ,YR,YS,YT,YU,un1,shOk,eqL,eq1,fillL,putAt,IHeap.load1,IHeap.loadL,IHeap.storeL,YV,YW,YX,YY,YZ,B0,B1,B2,B3,B4,B5,B6,B7,B8,B9,Ba,Bb,Bc,Bd,Be,Bf,Bg,Bh,Bi,Bj,Bk,Bl,Bm,Bn,Bo,Bp, t8, t10, t14, t15, hjN, hjN', hget9, r0, r1, hbd9', b7, wj]
                    exact ⟨N - (j + 1), by omega, j + 1, by omega, rfl, rfl⟩
                  · have hjN' : ¬ (j : Int) < (N : Int) := by omega
                    simp -implicitDefEqProofs [J0,J1,J2,J3,J4,J5,J6,J7,J8,J9,Ja,Jb,Jc,Jd,Je,Jf,Jg,Jh,Ji,Jj,Jk,Jl,Jm,Jn,Jo,Jp,Jq,Jr,Js,Jt,Ju,Jv,Jw,Jx,Jy,Jz,JA,JB,JC,JD,JE,JF,JG,JH,JI,JJ,JK,JL,JM,JN,JO,JP,JQ,JR,JS,stillI,IOp.kind,JT,JU,JV,JW,JX,JY,JZ,Y0,Y1,Y2,Y3,Y4,Y5,Y6,Y7,Y8,Y9,Ya,Yb,Yc,Yd,Ye,Yf,Yg,Yh,Yi,Yj,Yk,Yl,Ym,Yn,Yo,Yp,Yq,ial,Yr,Ys,Yt,Yu,Yv,Yw,Yx,Yy,ires,iresL,ires1,Yz,YA,YB,YC,YD,YE,bin2,YF,YG,YH,YI,YJ,YK,YL,YM,YN,YO,YP,YQ,YR,YS,YT,YU,un1,shOk,eqL,eq1,fillL,putAt,IHeap.load1,IHeap.loadL,IHeap.storeL,YV,YW,YX,YY,YZ,B0,B1,B2,B3,B4,B5,B6,B7,B8,B9,Ba,Bb,Bc,Bd,Be,Bf,Bg,Bh,Bi,Bj,Bk,Bl,Bm,Bn,Bo,Bp, t8, t10, t14, t15, hjN, hjN']
                    refine loop_nat c.mono (fun k T H' => ∃ j : Nat, j ≤ A.length ∧ k = A.length - j ∧ T 10 = .slice aa A.length acap ∧ T 14 = .slice oa N ocap ∧ T 16 = .int .i64 j ∧ H8.le H') A.length ?_ ?_
                    · refine ⟨0, by omega, rfl, ?_⟩
                      simp -implicitDefEqProofs [J0,J1,J2,J3,J4,J5,J6,J7,J8,J9,Ja,Jb,Jc,Jd,Je,Jf,Jg,Jh,Ji,Jj,Jk,Jl,Jm,Jn,Jo,Jp,Jq,Jr,Js,Jt,Ju,Jv,Jw,Jx,Jy,Jz,JA,JB,JC,JD,JE,JF,JG,JH,JI,JJ,JK,JL,JM,JN,JO,JP,JQ,JR,JS,stillI,IOp.kind,JT,JU,JV,JW,JX,JY,JZ,Y0,Y1,Y2,Y3,Y4,Y5,Y6,Y7,Y8,Y9,Ya,Yb,Yc,Yd,Ye,Yf,Yg,Yh,Yi,Yj,Yk,Yl,Ym,Yn,Yo,Yp,Yq,ial,Yr,Ys,Yt,Yu,Yv,Yw,Yx,Yy,ires,iresL,ires1,Yz,YA,YB,YC,YD,YE,bin2,YF,YG,YH,YI,YJ,YK,YL,YM,YN,YO,YP,YQ,YR,YS,YT,YU,un1,shOk,eqL,eq1,fillL,putAt,IHeap.load1,IHeap.loadL,IHeap.storeL,YV,YW,YX,YY,YZ,B0,B1,B2,B3,B4,B5,B6,B7,B8,B9,Ba,Bb,Bc,Bd,Be,Bf,Bg,Bh,Bi,Bj,Bk,Bl,Bm,Bn,Bo,Bp, t10, t14]
                      exact IHeap.le_refl _
                    · rintro k T9 H9 ⟨j, hj, rfl, t10, t14, t16, k9⟩
                      by_cases hjA : j < A.length
                      · have hjA' : (j : Int) < (A.length : Int) := by omega
                        have wj : IntKind.i64.wrap ((j : Int) + 1) = (j : Int) + 1 := wrap64 (by omega) (by omega)
                        have hx0 : A[j]? = some A[j] := List.getElem?_eq_getElem hjA
                        obtain ⟨y, hy⟩ : ∃ y, y = A[j] := ⟨_, rfl⟩
                        rw [← hy] at hx0
                        have hyA : y ∈ A := List.mem_of_getElem? hx0
                        have hyg : goodV y = true := by
                          have : ∀ k, ∀ y ∈ allV ls k, goodV y = true := by
                            intro k
                            induction k with
                            | zero => simp [allV]
                            | succ k ih =>
                              intro y hy
                              rcases List.mem_append.1 hy with h | h
                              · exact ih y h
                              · exact (List.mem_filter.1 h).2
                          exact this i y (hAV ▸ hyA)
                        have hy0 : 0 ≤ y.slot := by
                          unfold goodV at hyg
                          simp only [Bool.and_eq_true, decide_eq_true_eq] at hyg
                          exact hyg.1
                        obtain ⟨w0, hw0⟩ : ∃ w, PF.best y.slot = some w := by
                          cases hb : PF.best y.slot with
                          | none => exact absurd rfl (p10.nope _ hb y hyA)
                          | some w => exact ⟨w, rfl⟩
                        obtain ⟨w1, w2, w3⟩ := p10.yes _ _ hw0
                        have hye := he2 _ _ hw0
                        obtain ⟨sn, hsn⟩ : ∃ sn : Nat, y.slot = sn := ⟨y.slot.toNat, by omega⟩
                        have hsN : sn < N := by omega
                        obtain ⟨k0, hk0⟩ := List.getElem?_of_mem w1
                        obtain ⟨b9, o9, cp9, cs9, ro9, ea9, hb9, hget9, hrl9, hrow9, hbd9⟩ := (sA.le k9).at (i := j) (r := rowV y) (by simp [hx0])
                        rw [List.length_map] at ea9
                        simp only [Value.slice.injEq] at ea9
                        obtain ⟨rfl, -, rfl⟩ := ea9
                        have r0 := row_at hrow9 0 (by omega)
                        have hrow9' := hrow9
                        simp only [rowV, List.getElem?_cons_zero, Nat.add_zero] at r0 hrow9'
                        obtain ⟨H10, hH10⟩ : ∃ X : IHeap, X = (H9.alloc (.cells [.int .i64 0, .int .i64 0, .int .i64 0, .string ⟨#[]⟩] false)).set H9.next (.cells [.int .i64 y.slot, .int .i64 y.a, .int .i64 y.n, .string y.val] false) := ⟨_, rfl⟩
                        have k10 : H9.le H10 := by rw [hH10]; exact (H9.le_alloc _).set (Nat.le_refl _) _
                        have n10 : H10.next = H9.next + 1 := by rw [hH10]; rfl
                        have b10 : H10.get H9.next = some (.cells [.int .i64 y.slot, .int .i64 y.a, .int .i64 y.n, .string y.val] false) := by rw [hH10, YW, if_pos rfl]
                        have n9 := k9.next
                        simp -implicitDefEqProofs [J0,J1,J2,J3,J4,J5,J6,J7,J8,J9,Ja,Jb,Jc,Jd,Je,Jf,Jg,Jh,Ji,Jj,Jk,Jl,Jm,Jn,Jo,Jp,Jq,Jr,Js,Jt,Ju,Jv,Jw,Jx,Jy,Jz,JA,JB,JC,JD,JE,JF,JG,JH,JI,JJ,JK,JL,JM,JN,JO,JP,JQ,JR,JS,stillI,IOp.kind,JT,JU,JV,JW,JX,JY,JZ,Y0,Y1,Y2,Y3,Y4,Y5,Y6,Y7,Y8,Y9,Ya,Yb,Yc,Yd,Ye,Yf,Yg,Yh,Yi,Yj,Yk,Yl,Ym,Yn,Yo,Yp,Yq,ial,Yr,Ys,Yt,Yu,Yv,Yw,Yx,Yy,ires,iresL,ires1,Yz,YA,YB,YC,YD,YE,bin2,YF,YG,YH,YI,YJ,YK,YL,YM,YN,YO,YP,YQ,YR,YS,YT,YU,un1,shOk,eqL,eq1,fillL,putAt,IHeap.load1,IHeap.loadL,IHeap.storeL,YV,YW,YX,YY,YZ,B0,B1,B2,B3,B4,B5,B6,B7,B8,B9,Ba,Bb,Bc,Bd,Be,Bf,Bg,Bh,Bi,Bj,Bk,Bl,Bm,Bn,Bo,Bp, t10, t14, t16, hjA, hjA', hget9, r0, hrow9', hbd9, ← hH10]
                        refine loop_nat c.mono (fun k T H' => ∃ (m : Nat) (w : VoteD), m ≤ A.length ∧ k = A.length - m ∧ T 10 = .slice (some ⟨b9, o9, none⟩) A.length acap ∧ T 14 = .slice oa N ocap ∧ T 16 = .int .i64 j ∧ T 17 = .int .i64 y.slot ∧ T 18 = .pointer (some ⟨H9.next, 0, none⟩) ∧ T 19 = .int .i64 m ∧
                          H9.le H' ∧ H9.next < H'.next ∧ H'.get H9.next = some (.cells [.int .i64 w.slot, .int .i64 w.a, .int .i64 w.n, .string w.val] false) ∧ w ∈ A ∧ w.slot = y.slot ∧ ∀ (t : Nat) (z : VoteD), t < m → A[t]? = some z → z.slot = y.slot → cmpB z.a z.n w.a w.n ≤ 0) A.length ?_ ?_
                        · refine ⟨0, y, by omega, rfl, ?_⟩
                          simp -implicitDefEqProofs [J0,J1,J2,J3,J4,J5,J6,J7,J8,J9,Ja,Jb,Jc,Jd,Je,Jf,Jg,Jh,Ji,Jj,Jk,Jl,Jm,Jn,Jo,Jp,Jq,Jr,Js,Jt,Ju,Jv,Jw,Jx,Jy,Jz,JA,JB,JC,JD,JE,JF,JG,JH,JI,JJ,JK,JL,JM,JN,JO,JP,JQ,JR,JS,stillI,IOp.kind,JT,JU,JV,JW,JX,JY,JZ,Y0,Y1,Y2,Y3,Y4,Y5,Y6,Y7,Y8,Y9,Ya,Yb,Yc,Yd,Ye,Yf,Yg,Yh,Yi,Yj,Yk,Yl,Ym,Yn,Yo,Yp,Yq,ial,Yr,Ys,Yt,Yu,Yv,Yw,Yx,Yy,ires,iresL,ires1,Yz,YA,YB,YC,YD,YE,bin2,YF,YG,YH,YI,YJ,YK,YL,YM,YN,YO,YP,YQ,YR,YS,YT,YU,un1,shOk,eqL,eq1,fillL,putAt,IHeap.load1,IHeap.loadL,IHeap.storeL,YV,YW,YX,YY,YZ,B0,B1,B2,B3,B4,B5,B6,B7,B8,B9,Ba,Bb,Bc,Bd,Be,Bf,Bg,Bh,Bi,Bj,Bk,Bl,Bm,Bn,Bo,Bp, t10, t14, t16]
                          exact ⟨k10, by omega, b10, hyA⟩
                        · rintro k T11 H11 ⟨m, w, hm, rfl, t10, t14, t16, t17, t18, t19, k11, n11, b11, hwA, hws, hwm⟩
                          by_cases hmA : m < A.length
                          · have hmA' : (m : Int) < (A.length : Int) := by omega
                            have wm : IntKind.i64.wrap ((m : Int) + 1) = (m : Int) + 1 := wrap64 (by omega) (by omega)
                            have hz0 : A[m]? = some A[m] := List.getElem?_eq_getElem hmA
                            obtain ⟨z, hz⟩ : ∃ z, z = A[m] := ⟨_, rfl⟩
                            rw [← hz] at hz0
                            obtain ⟨b2, o2, cp2, cs2, ro2, ea2, hb2, hget2, hrl2, hrow2, hbd2⟩ := (sA.le (k9.trans k11)).at (i := m) (r := rowV z) (by simp [hz0])
                            rw [List.length_map] at ea2
                            simp only [Value.slice.injEq, Option.some.injEq, Addr.mk.injEq] at ea2
                            obtain ⟨⟨rfl, rfl, -⟩, -, rfl⟩ := ea2
                            have r20 := row_at hrow2 0 (by omega)
                            have r21 := win hrow2 1 2 (by omega)
                            have hrow2' := hrow2
                            simp only [rowV, List.getElem?_cons_zero, Nat.add_zero, List.drop_succ_cons, List.drop_zero, List.take_succ_cons, List.take_zero] at r20 r21 hrow2'
                            have hbd2' : o9 + m * 4 + 1 + 2 ≤ cs2.length := by omega
                            have stay : ∀ w' : VoteD, (∀ (t : Nat) (u : VoteD), t < m → A[t]? = some u → u.slot = y.slot → cmpB u.a u.n w'.a w'.n ≤ 0) → (z.slot = y.slot → cmpB z.a z.n w'.a w'.n ≤ 0) → ∀ (t : Nat) (u : VoteD), t < m + 1 → A[t]? = some u → u.slot = y.slot → cmpB u.a u.n w'.a w'.n ≤ 0 := by
                              intro w' q1 q2 t u ht hu' hus
                              by_cases htm : t < m
                              · exact q1 t u htm hu' hus
                              · have : t = m := by omega
                                subst this
                                rw [hz0] at hu'
                                have hzu := Option.some.inj hu'
                                rw [← hzu] at hus ⊢
                                exact q2 hus
                            by_cases e1 : z.slot = y.slot
                            · simp -implicitDefEqProofs [J0,J1,J2,J3,J4,J5,J6,J7,J8,J9,Ja,Jb,Jc,Jd,Je,Jf,Jg,Jh,Ji,Jj,Jk,Jl,Jm,Jn,Jo,Jp,Jq,Jr,Js,Jt,Ju,Jv,Jw,Jx,Jy,Jz,JA,JB,JC,JD,JE,JF,JG,JH,JI,JJ,JK,JL,JM,JN,JO,JP,JQ,JR,JS,stillI,IOp.kind,JT,JU,JV,JW,JX,JY,JZ,Y0,Y1,Y2,Y3,Y4,Y5,Y6,Y7,Y8,Y9,Ya,Yb,Yc,Yd,Ye,Yf,Yg,Yh,Yi,Yj,Yk,Yl,Ym,Yn,Yo,Yp,Yq,ial,Yr,Ys,Yt,Yu,Yv,Yw,Yx,Yy,ires,iresL,ires1,Yz,YA,YB,YC,YD,YE,bin2,YF,YG,YH,YI,YJ,YK,YL,YM,YN,YO,YP,YQ,YR,YS,YT,YU,un1,shOk,eqL,eq1,fillL,putAt,IHeap.load1,IHeap.loadL,IHeap.storeL,YV,YW,YX,YY,YZ,B0,B1,B2,B3,B4,B5,B6,B7,B8,B9,Ba,Bb,Bc,Bd,Be,Bf,Bg,Bh,Bi,Bj,Bk,Bl,Bm,Bn,Bo,Bp, t10, t14, t16, t17, t18, t19, hmA, hmA', hget2, r20, r21, hbd2', b11, e1]
                              refine dcall_of c.mono (refCmp_ok c hBC (a := z.a) (n := z.n) (b := w.a) (m := w.n) fun H12 k12 => ?_)
                              have hget3 := (k12.get b9 (by have := k9.next; have := k11.next; omega)).trans hget2
                              have b12 := (k12.get H9.next n11).trans b11
                              have n12 := k12.next
                              by_cases e2 : 0 < cmpB z.a z.n w.a w.n
                              · simp -implicitDefEqProofs [J0,J1,J2,J3,J4,J5,J6,J7,J8,J9,Ja,Jb,Jc,Jd,Je,Jf,Jg,Jh,Ji,Jj,Jk,Jl,Jm,Jn,Jo,Jp,Jq,Jr,Js,Jt,Ju,Jv,Jw,Jx,Jy,Jz,JA,JB,JC,JD,JE,JF,JG,JH,JI,JJ,JK,JL,JM,JN,JO,JP,JQ,JR,JS,stillI,IOp.kind,JT,JU,JV,JW,JX,JY,JZ,Y0,Y1,Y2,Y3,Y4,Y5,Y6,Y7,Y8,Y9,Ya,Yb,Yc,Yd,Ye,Yf,Yg,Yh,Yi,Yj,Yk,Yl,Ym,Yn,Yo,Yp,Yq,ial,Yr,Ys,Yt,Yu,Yv,Yw,Yx,Yy,ires,iresL,ires1,Yz,YA,YB,YC,YD,YE,bin2,YF,YG,YH,YI,YJ,YK,YL,YM,YN,YO,YP,YQ,YR,YS,YT,YU,un1,shOk,eqL,eq1,fillL,putAt,IHeap.load1,IHeap.loadL,IHeap.storeL,YV,YW,YX,YY,YZ,B0,B1,B2,B3,B4,B5,B6,B7,B8,B9,Ba,Bb,Bc,Bd,Be,Bf,Bg,Bh,Bi,Bj,Bk,Bl,Bm,Bn,Bo,Bp, t10, t14, t16, t17, t18, t19, e2, hget3, hrow2', hbd2, b12, wm, hmA, hmA']
                                refine ⟨A.length - (m + 1), by omega, m + 1, by omega, rfl, rfl, ?_, by omega, z, ⟨rfl, rfl, rfl, rfl⟩, List.mem_of_getElem? hz0, e1, ?_⟩
                                · exact (k11.trans k12).set (Nat.le_refl _) _
                                · refine stay z (fun t u ht hu' hus => ?_) (fun _ => by rw [cmpB_le]; omega)
                                  have q1 := hwm t u ht hu' hus
                                  rw [cmpB_le] at q1 ⊢
                                  rw [cmpB_pos] at e2
                                  omega
                              · simp -implicitDefEqProofs [J0,J1,J2,J3,J4,J5,J6,J7,J8,J9,Ja,Jb,Jc,Jd,Je,Jf,Jg,Jh,Ji,Jj,Jk,Jl,Jm,Jn,Jo,Jp,Jq,Jr,Js,Jt,Ju,Jv,Jw,Jx,Jy,Jz,JA,JB,JC,JD,JE,JF,JG,JH,JI,JJ,JK,JL,JM,JN,JO,JP,JQ,JR,JS,stillI,IOp.kind,JT,JU,JV,JW,JX,JY,JZ,Y0,Y1,Y2,Y3,Y4,Y5,Y6,Y7,Y8,Y9,Ya,Yb,Yc,Yd,Ye,Yf,Yg,Yh,Yi,Yj,Yk,Yl,Ym,Yn,Yo,Yp,Yq,ial,Yr,Ys,Yt,Yu,Yv,Yw,Yx,Yy,ires,iresL,ires1,Yz,YA,YB,YC,YD,YE,bin2,YF,YG,YH,YI,YJ,YK,YL,YM,YN,YO,YP,YQ,YR,YS,YT,YU,un1,shOk,eqL,eq1,fillL,putAt,IHeap.load1,IHeap.loadL,IHeap.storeL,YV,YW,YX,YY,YZ,B0,B1,B2,B3,B4,B5,B6,B7,B8,B9,Ba,Bb,Bc,Bd,Be,Bf,Bg,Bh,Bi,Bj,Bk,Bl,Bm,Bn,Bo,Bp, t10, t14, t16, t17, t18, t19, e2, wm]
                                exact ⟨A.length - (m + 1), by omega, m + 1, by omega, rfl, rfl, k11.trans k12, by omega, w, b12, hwA, hws, stay w hwm (fun _ => by omega)⟩
                            · simp -implicitDefEqProofs [J0,J1,J2,J3,J4,J5,J6,J7,J8,J9,Ja,Jb,Jc,Jd,Je,Jf,Jg,Jh,Ji,Jj,Jk,Jl,Jm,Jn,Jo,Jp,Jq,Jr,Js,Jt,Ju,Jv,Jw,Jx,Jy,Jz,JA,JB,JC,JD,JE,JF,JG,JH,JI,JJ,JK,JL,JM,JN,JO,JP,JQ,JR,JS,stillI,IOp.kind,JT,JU,JV,JW,JX,JY,JZ,Y0,Y1,Y2,Y3,Y4,Y5,Y6,Y7,Y8,Y9,Ya,Yb,Yc,Yd,Ye,Yf,Yg,Yh,Yi,Yj,Yk,Yl,Ym,Yn,Yo,Yp,Yq,ial,Yr,Ys,Yt,Yu,Yv,Yw,Yx,Yy,ires,iresL,ires1,Yz,YA,YB,YC,YD,YE,bin2,YF,YG,YH,YI,YJ,YK,YL,YM,YN,YO,YP,YQ,YR,YS,YT,YU,un1,shOk,eqL,eq1,fillL,putAt,IHeap.load1,IHeap.loadL,IHeap.storeL,YV,YW,YX,YY,YZ,B0,B1,B2,B3,B4,B5,B6,B7,B8,B9,Ba,Bb,Bc,Bd,Be,Bf,Bg,Bh,Bi,Bj,Bk,Bl,Bm,Bn,Bo,Bp, t10, t14, t16, t17, t18, t19, hmA, hmA', hget2, r20, r21, hbd2', b11, e1, wm]
                              exact ⟨A.length - (m + 1), by omega, m + 1, by omega, rfl, rfl, k11, n11, w, ⟨rfl, rfl, rfl, rfl⟩, hwA, hws, stay w hwm (fun h => absurd h e1)⟩
                          · have hmA' : ¬ (m : Int) < (A.length : Int) := by omega
                            have hme : m = A.length := by omega
                            have hsN' : ¬ ((N : Int) ≤ y.slot) := by omega
                            simp -implicitDefEqProofs [J0,J1,J2,J3,J4,J5,J6,J7,J8,J9,Ja,Jb,Jc,Jd,Je,Jf,Jg,Jh,Ji,Jj,Jk,Jl,Jm,Jn,Jo,Jp,Jq,Jr,Js,Jt,Ju,Jv,Jw,Jx,Jy,Jz,JA,JB,JC,JD,JE,JF,JG,JH,JI,JJ,JK,JL,JM,JN,JO,JP,JQ,JR,JS,stillI,IOp.kind,JT,JU,JV,JW,JX,JY,JZ,Y0,Y1,Y2,Y3,Y4,Y5,Y6,Y7,Y8,Y9,Ya,Yb,Yc,Yd,Ye,Yf,Yg,Yh,Yi,Yj,Yk,Yl,Ym,Yn,Yo,Yp,Yq,ial,Yr,Ys,Yt,Yu,Yv,Yw,Yx,Yy,ires,iresL,ires1,Yz,YA,YB,YC,YD,YE,bin2,YF,YG,YH,YI,YJ,YK,YL,YM,YN,YO,YP,YQ,YR,YS,YT,YU,un1,shOk,eqL,eq1,fillL,putAt,IHeap.load1,IHeap.loadL,IHeap.storeL,YV,YW,YX,YY,YZ,B0,B1,B2,B3,B4,B5,B6,B7,B8,B9,Ba,Bb,Bc,Bd,Be,Bf,Bg,Bh,Bi,Bj,Bk,Bl,Bm,Bn,Bo,Bp, t10, t14, t16, t17, t18, t19, hmA, hmA', hsN']
                            have hw0eq : w0.a = w.a ∧ w0.n = w.n := by
                              have q1 := w3 w hwA hws
                              have q2 := hwm k0 w0 (by rw [hme]; exact (List.getElem?_eq_some_iff.1 hk0).1) hk0 w2
                              rw [cmpB_le] at q1 q2
                              omega
                            have hk0l := (List.getElem?_eq_some_iff.1 hk0).1
                            have k0H := k9.trans k11
                            obtain ⟨ov, hov⟩ : ∃ ov, ov = valOf (PF.best y.slot) := ⟨_, rfl⟩
                            have hovw : ov = w0.val := by rw [hov, hw0]; rfl
                            refine loop_nat c.mono (fun k T H' => ∃ (r : Nat) (b : Bool), r ≤ A.length ∧ k = A.length - r ∧ T 10 = .slice (some ⟨b9, o9, none⟩) A.length acap ∧ T 14 = .slice oa N ocap ∧ T 16 = .int .i64 j ∧ T 17 = .int .i64 y.slot ∧ T 18 = .pointer (some ⟨H9.next, 0, none⟩) ∧ T 21 = .int .i64 r ∧ T 20 = .bool b ∧
                              H' = H11 ∧ (k0 < r → b = true)) A.length ?_ ?_
                            · refine ⟨0, false, by omega, rfl, ?_⟩
                              simp -implicitDefEqProofs [J0,J1,J2,J3,J4,J5,J6,J7,J8,J9,Ja,Jb,Jc,Jd,Je,Jf,Jg,Jh,Ji,Jj,Jk,Jl,Jm,Jn,Jo,Jp,Jq,Jr,Js,Jt,Ju,Jv,Jw,Jx,Jy,Jz,JA,JB,JC,JD,JE,JF,JG,JH,JI,JJ,JK,JL,JM,JN,JO,JP,JQ,JR,JS,stillI,IOp.kind,JT,JU,JV,JW,JX,JY,JZ,Y0,Y1,Y2,Y3,Y4,Y5,Y6,Y7,Y8,Y9,Ya,Yb,Yc,Yd,Ye,Yf,Yg,Yh,Yi,Yj,Yk,Yl,Ym,Yn,Yo,Yp,Yq,ial,Yr,Ys,Yt,Yu,Yv,Yw,Yx,Yy,ires,iresL,ires1,Yz,YA,YB,YC,YD,YE,bin2,YF,YG,YH,YI,YJ,YK,YL,YM,YN,YO,YP,YQ,YR,YS,YT,YU,un1,shOk,eqL,eq1,fillL,putAt,IHeap.load1,IHeap.loadL,IHeap.storeL,YV,YW,YX,YY,YZ,B0,B1,B2,B3,B4,B5,B6,B7,B8,B9,Ba,Bb,Bc,Bd,Be,Bf,Bg,Bh,Bi,Bj,Bk,Bl,Bm,Bn,Bo,Bp, t10, t14, t16, t17, t18]
                            · rintro k T12 H12 ⟨r, bb, hr, rfl, t10, t14, t16, t17, t18, t21, t20, rfl, hbb⟩
                              by_cases hrA : r < A.length
                              · have hrA' : (r : Int) < (A.length : Int) := by omega
                                have wr : IntKind.i64.wrap ((r : Int) + 1) = (r : Int) + 1 := wrap64 (by omega) (by omega)
                                cases bb with
                                | true =>
                                  simp -implicitDefEqProofs [J0,J1,J2,J3,J4,J5,J6,J7,J8,J9,Ja,Jb,Jc,Jd,Je,Jf,Jg,Jh,Ji,Jj,Jk,Jl,Jm,Jn,Jo,Jp,Jq,Jr,Js,Jt,Ju,Jv,Jw,Jx,Jy,Jz,JA,JB,JC,JD,JE,JF,JG,JH,JI,JJ,JK,JL,JM,JN,JO,JP,JQ,JR,JS,stillI,IOp.kind,JT,JU,JV,JW,JX,JY,JZ,Y0,Y1,Y2,Y3,Y4,Y5,Y6,Y7,Y8,Y9,Ya,Yb,Yc,Yd,Ye,Yf,Yg,Yh,Yi,Yj,Yk,Yl,Ym,Yn,Yo,Yp,Yq,ial,Yr,Ys,Yt,Yu,Yv,Yw,Yx,Yy,ires,iresL,ires1,Yz,YA,YB,YC,YD,YE,bin2,YF,YG,YH,YI,YJ,YK,YL,YM,YN,YO,YP,YQ,YR,YS,YT,YU,un1,shOk,eqL,eq1,fillL,putAt,IHeap.load1,IHeap.loadL,IHeap.storeL,YV,YW,YX,YY,YZ,B0,B1,B2,B3,B4,B5,B6,B7,B8,B9,Ba,Bb,Bc,Bd,Be,Bf,Bg,Bh,Bi,Bj,Bk,Bl,Bm,Bn,Bo,Bp, t10, t14, t16, t17, t18, t21, t20, hrA, hrA', wr]
                                  exact ⟨A.length - (r + 1), by omega, r + 1, by omega, rfl, rfl⟩
                                | false =>
                                  have hk0r : ¬ k0 < r := fun h => by have := hbb h; cases this
                                  have hz0 : A[r]? = some A[r] := List.getElem?_eq_getElem hrA
                                  obtain ⟨z, hz⟩ : ∃ z, z = A[r] := ⟨_, rfl⟩
                                  rw [← hz] at hz0
                                  have hzw : k0 = r → z = w0 := by
                                    rintro rfl
                                    rw [hk0] at hz0
                                    exact (Option.some.inj hz0).symm
                                  obtain ⟨b2, o2, cp2, cs2, ro2, ea2, hb2, hget2, hrl2, hrow2, hbd2⟩ := (sA.le k0H).at (i := r) (r := rowV z) (by simp [hz0])
                                  rw [List.length_map] at ea2
                                  simp only [Value.slice.injEq, Option.some.injEq, Addr.mk.injEq] at ea2
                                  obtain ⟨⟨rfl, rfl, -⟩, -, rfl⟩ := ea2
                                  have r20 := row_at hrow2 0 (by omega)
                                  have r23 := row_at hrow2 3 (by omega)
                                  have r21 := win hrow2 1 2 (by omega)
                                  simp only [rowV, List.getElem?_cons_zero, List.getElem?_cons_succ, Nat.add_zero, List.drop_succ_cons, List.drop_zero, List.take_succ_cons, List.take_zero] at r20 r21 r23
                                  have hbd2' : o9 + r * 4 + 1 + 2 ≤ cs2.length := by omega
                                  obtain ⟨b3', o3, cp3, cs3, ro3, ea3, hb3, hget3, hrl3, hrow3, hbd3⟩ := (sO.le k0H).at (i := sn) (r := rowV ⟨(sn : Int), 10, me, ov⟩) (by rw [List.getElem?_map, hog sn hsN, hov, hsn]; rfl)
                                  rw [List.length_map, hol] at ea3
                                  simp only [Value.slice.injEq] at ea3
                                  obtain ⟨rfl, -, rfl⟩ := ea3
                                  have r33 := row_at hrow3 3 (by omega)
                                  simp only [rowV, List.getElem?_cons_zero, List.getElem?_cons_succ] at r33
                                  have hsnN : (sn : Int) < (N : Int) := by omega
                                  rw [hsn] at t17
                                  by_cases e1 : z.slot = (sn : Int)
                                  · by_cases e2 : z.a = w.a
                                    · by_cases e3 : z.n = w.n
                                      · by_cases e4 : z.val = ov
                                        · simp -implicitDefEqProofs [J0,J1,J2,J3,J4,J5,J6,J7,J8,J9,Ja,Jb,Jc,Jd,Je,Jf,Jg,Jh,Ji,Jj,Jk,Jl,Jm,Jn,Jo,Jp,Jq,Jr,Js,Jt,Ju,Jv,Jw,Jx,Jy,Jz,JA,JB,JC,JD,JE,JF,JG,JH,JI,JJ,JK,JL,JM,JN,JO,JP,JQ,JR,JS,stillI,IOp.kind,JT,JU,JV,JW,JX,JY,JZ,Y0,Y1,Y2,Y3,Y4,Y5,Y6,Y7,Y8,Y9,Ya,Yb,Yc,Yd,Ye,Yf,Yg,Yh,Yi,Yj,Yk,Yl,Ym,Yn,Yo,Yp,Yq,ial,Yr,Ys,Yt,Yu,Yv,Yw,Yx,Yy,ires,iresL,ires1,Yz,YA,YB,YC,YD,YE,bin2,YF,YG,YH,YI,YJ,YK,YL,YM,YN,YO,YP,YQ,YR,YS,YT,YU,un1,shOk,eqL,eq1,fillL,putAt,IHeap.load1,IHeap.loadL,IHeap.storeL,YV,YW,YX,YY,YZ,B0,B1,B2,B3,B4,B5,B6,B7,B8,B9,Ba,Bb,Bc,Bd,Be,Bf,Bg,Bh,Bi,Bj,Bk,Bl,Bm,Bn,Bo,Bp, t10, t14, t16, t17, t18, t21, t20, hrA, hrA', wr, hget2, r20, r21, r23, hbd2', b11, hget3, r33, hsN, hsnN, str2, e1, e2, e3, e4, hsn]
                                          exact ⟨A.length - (r + 1), by omega, r + 1, by omega, rfl, rfl⟩
                                        · have e4' : ¬ z.val.data = ov.data := fun h => e4 (by cases hzv : z.val; cases hovv : ov; rw [hzv, hovv] at h; simp at h; rw [h])
                                          simp -implicitDefEqProofs [J0,J1,J2,J3,J4,J5,J6,J7,J8,J9,Ja,Jb,Jc,Jd,Je,Jf,Jg,Jh,Ji,Jj,Jk,Jl,Jm,Jn,Jo,Jp,Jq,Jr,Js,Jt,Ju,Jv,Jw,Jx,Jy,Jz,JA,JB,JC,JD,JE,JF,JG,JH,JI,JJ,JK,JL,JM,JN,JO,JP,JQ,JR,JS,stillI,IOp.kind,JT,JU,JV,JW,JX,JY,JZ,Y0,Y1,Y2,Y3,Y4,Y5,Y6,Y7,Y8,Y9,Ya,Yb,Yc,Yd,Ye,Yf,Yg,Yh,Yi,Yj,Yk,Yl,Ym,Yn,Yo,Yp,Yq,ial,Yr,Ys,Yt,Yu,Yv,Yw,Yx,Yy,ires,iresL,ires1,Yz,YA,YB,YC,YD,YE,bin2,YF,YG,YH,YI,YJ,YK,YL,YM,YN,YO,YP,YQ,YR,YS,YT,YU,un1,shOk,eqL,eq1,fillL,putAt,IHeap.load1,IHeap.loadL,IHeap.storeL,YV,YW,YX,YY,YZ,B0,B1,B2,B3,B4,B5,B6,B7,B8,B9,Ba,Bb,Bc,Bd,Be,Bf,Bg,Bh,Bi,Bj,Bk,Bl,Bm,Bn,Bo,Bp, t10, t14, t16, t17, t18, t21, t20, hrA, hrA', wr, hget2, r20, r21, r23, hbd2', b11, hget3, r33, hsN, hsnN, str2, e1, e2, e3, e4', hsn]
                                          refine ⟨A.length - (r + 1), by omega, r + 1, by omega, rfl, rfl, ?_⟩
                                          have : ¬ k0 = r := fun h => e4 (by rw [hzw h, hovw])
                                          omega
                                      · simp -implicitDefEqProofs [J0,J1,J2,J3,J4,J5,J6,J7,J8,J9,Ja,Jb,Jc,Jd,Je,Jf,Jg,Jh,Ji,Jj,Jk,Jl,Jm,Jn,Jo,Jp,Jq,Jr,Js,Jt,Ju,Jv,Jw,Jx,Jy,Jz,JA,JB,JC,JD,JE,JF,JG,JH,JI,JJ,JK,JL,JM,JN,JO,JP,JQ,JR,JS,stillI,IOp.kind,JT,JU,JV,JW,JX,JY,JZ,Y0,Y1,Y2,Y3,Y4,Y5,Y6,Y7,Y8,Y9,Ya,Yb,Yc,Yd,Ye,Yf,Yg,Yh,Yi,Yj,Yk,Yl,Ym,Yn,Yo,Yp,Yq,ial,Yr,Ys,Yt,Yu,Yv,Yw,Yx,Yy,ires,iresL,ires1,Yz,YA,YB,YC,YD,YE,bin2,YF,YG,YH,YI,YJ,YK,YL,YM,YN,YO,YP,YQ,YR,YS,YT,YU,un1,shOk,eqL,eq1,fillL,putAt,IHeap.load1,IHeap.loadL,IHeap.storeL,YV,YW,YX,YY,YZ,B0,B1,B2,B3,B4,B5,B6,B7,B8,B9,Ba,Bb,Bc,Bd,Be,Bf,Bg,Bh,Bi,Bj,Bk,Bl,Bm,Bn,Bo,Bp, t10, t14, t16, t17, t18, t21, t20, hrA, hrA', wr, hget2, r20, r21, r23, hbd2', b11, hget3, r33, hsN, hsnN, e1, e2, e3, hsn]
                                        refine ⟨A.length - (r + 1), by omega, r + 1, by omega, rfl, rfl, ?_⟩
                                        have : ¬ k0 = r := fun h => e3 (by rw [hzw h]; exact hw0eq.2)
                                        omega
                                    · simp -implicitDefEqProofs [J0,J1,J2,J3,J4,J5,J6,J7,J8,J9,Ja,Jb,Jc,Jd,Je,Jf,Jg,Jh,Ji,Jj,Jk,Jl,Jm,Jn,Jo,Jp,Jq,Jr,Js,Jt,Ju,Jv,Jw,Jx,Jy,Jz,JA,JB,JC,JD,JE,JF,JG,JH,JI,JJ,JK,JL,JM,JN,JO,JP,JQ,JR,JS,stillI,IOp.kind,JT,JU,JV,JW,JX,JY,JZ,Y0,Y1,Y2,Y3,Y4,Y5,Y6,Y7,Y8,Y9,Ya,Yb,Yc,Yd,Ye,Yf,Yg,Yh,Yi,Yj,Yk,Yl,Ym,Yn,Yo,Yp,Yq,ial,Yr,Ys,Yt,Yu,Yv,Yw,Yx,Yy,ires,iresL,ires1,Yz,YA,YB,YC,YD,YE,bin2,YF,YG,YH,YI,YJ,YK,YL,YM,YN,YO,YP,YQ,YR,YS,YT,YU,un1,shOk,eqL,eq1,fillL,putAt,IHeap.load1,IHeap.loadL,IHeap.storeL,YV,YW,YX,YY,YZ,B0,B1,B2,B3,B4,B5,B6,B7,B8,B9,Ba,Bb,Bc,Bd,Be,Bf,Bg,Bh,Bi,Bj,Bk,Bl,Bm,Bn,Bo,Bp, t10, t14, t16, t17, t18, t21, t20, hrA, hrA', wr, hget2, r20, r21, r23, hbd2', b11, hget3, r33, hsN, hsnN, e1, e2, hsn]
                                      refine ⟨A.length - (r + 1), by omega, r + 1, by omega, rfl, rfl, ?_⟩
                                      have : ¬ k0 = r := fun h => e2 (by rw [hzw h]; exact hw0eq.1)
                                      omega
                                  · simp -implicitDefEqProofs [J0,J1,J2,J3,J4,J5,J6,J7,J8,J9,Ja,Jb,Jc,Jd,Je,Jf,Jg,Jh,Ji,Jj,Jk,Jl,Jm,Jn,Jo,Jp,Jq,Jr,Js,Jt,Ju,Jv,Jw,Jx,Jy,Jz,JA,JB,JC,JD,JE,JF,JG,JH,JI,JJ,JK,JL,JM,JN,JO,JP,JQ,JR,JS,stillI,IOp.kind,JT,JU,JV,JW,JX,JY,JZ,Y0,Y1,Y2,Y3,Y4,Y5,Y6,Y7,Y8,Y9,Ya,Yb,Yc,Yd,Ye,Yf,Yg,Yh,Yi,Yj,Yk,Yl,Ym,Yn,Yo,Yp,Yq,ial,Yr,Ys,Yt,Yu,Yv,Yw,Yx,Yy,ires,iresL,ires1,Yz,YA,YB,YC,YD,YE,bin2,YF,YG,YH,YI,YJ,YK,YL,YM,YN,YO,YP,YQ,YR,YS,YT,YU,un1,shOk,eqL,eq1,fillL,putAt,IHeap.load1,IHeap.loadL,IHeap.storeL,YV,YW,YX,YY,YZ,B0,B1,B2,B3,B4,B5,B6,B7,B8,B9,Ba,Bb,Bc,Bd,Be,Bf,Bg,Bh,Bi,Bj,Bk,Bl,Bm,Bn,Bo,Bp, t10, t14, t16, t17, t18, t21, t20, hrA, hrA', wr, hget2, r20, r21, r23, hbd2', b11, hget3, r33, hsN, hsnN, e1, hsn]
                                    refine ⟨A.length - (r + 1), by omega, r + 1, by omega, rfl, rfl, ?_⟩
                                    have : ¬ k0 = r := fun h => e1 (by rw [hzw h, w2, hsn])
                                    omega
                              · have hrA' : ¬ (r : Int) < (A.length : Int) := by omega
                                have hbt := hbb (by omega)
                                subst hbt
                                simp -implicitDefEqProofs [J0,J1,J2,J3,J4,J5,J6,J7,J8,J9,Ja,Jb,Jc,Jd,Je,Jf,Jg,Jh,Ji,Jj,Jk,Jl,Jm,Jn,Jo,Jp,Jq,Jr,Js,Jt,Ju,Jv,Jw,Jx,Jy,Jz,JA,JB,JC,JD,JE,JF,JG,JH,JI,JJ,JK,JL,JM,JN,JO,JP,JQ,JR,JS,stillI,IOp.kind,JT,JU,JV,JW,JX,JY,JZ,Y0,Y1,Y2,Y3,Y4,Y5,Y6,Y7,Y8,Y9,Ya,Yb,Yc,Yd,Ye,Yf,Yg,Yh,Yi,Yj,Yk,Yl,Ym,Yn,Yo,Yp,Yq,ial,Yr,Ys,Yt,Yu,Yv,Yw,Yx,Yy,ires,iresL,ires1,Yz,YA,YB,YC,YD,YE,bin2,YF,YG,YH,YI,YJ,YK,YL,YM,YN,YO,YP,YQ,YR,YS,YT,YU,un1,shOk,eqL,eq1,fillL,putAt,IHeap.load1,IHeap.loadL,IHeap.storeL,YV,YW,YX,YY,YZ,B0,B1,B2,B3,B4,B5,B6,B7,B8,B9,Ba,Bb,Bc,Bd,Be,Bf,Bg,Bh,Bi,Bj,Bk,Bl,Bm,Bn,Bo,Bp, t10, t14, t16, t17, t18, t21, t20, hrA, hrA', wj]
                                exact ⟨A.length - (j + 1), by omega, j + 1, by omega, rfl, rfl, k9.trans k11⟩
                      · have hjA' : ¬ (j : Int) < (A.length : Int) := by omega
                        simp -implicitDefEqProofs [J0,J1,J2,J3,J4,J5,J6,J7,J8,J9,Ja,Jb,Jc,Jd,Je,Jf,Jg,Jh,Ji,Jj,Jk,Jl,Jm,Jn,Jo,Jp,Jq,Jr,Js,Jt,Ju,Jv,Jw,Jx,Jy,Jz,JA,JB,JC,JD,JE,JF,JG,JH,JI,JJ,JK,JL,JM,JN,JO,JP,JQ,JR,JS,stillI,IOp.kind,JT,JU,JV,JW,JX,JY,JZ,Y0,Y1,Y2,Y3,Y4,Y5,Y6,Y7,Y8,Y9,Ya,Yb,Yc,Yd,Ye,Yf,Yg,Yh,Yi,Yj,Yk,Yl,Ym,Yn,Yo,Yp,Yq,ial,Yr,Ys,Yt,Yu,Yv,Yw,Yx,Yy,ires,iresL,ires1,Yz,YA,YB,YC,YD,YE,bin2,YF,YG,YH,YI,YJ,YK,YL,YM,YN,YO,YP,YQ,YR,YS,YT,YU,un1,shOk,eqL,eq1,fillL,putAt,IHeap.load1,IHeap.loadL,IHeap.storeL,YV,YW,YX,YY,YZ,B0,B1,B2,B3,B4,B5,B6,B7,B8,B9,Ba,Bb,Bc,Bd,Be,Bf,Bg,Bh,Bi,Bj,Bk,Bl,Bm,Bn,Bo,Bp, t10, t14, t16, hjA, hjA']
                        refine call_of (hW _ _ fun H' => ?_)
                        simp -implicitDefEqProofs [J0,J1,J2,J3,J4,J5,J6,J7,J8,J9,Ja,Jb,Jc,Jd,Je,Jf,Jg,Jh,Ji,Jj,Jk,Jl,Jm,Jn,Jo,Jp,Jq,Jr,Js,Jt,Ju,Jv,Jw,Jx,Jy,Jz,JA,JB,JC,JD,JE,JF,JG,JH,JI,JJ,JK,JL,JM,JN,JO,JP,JQ,JR,JS,stillI,IOp.kind,JT,JU,JV,JW,JX,JY,JZ,Y0,Y1,Y2,Y3,Y4,Y5,Y6,Y7,Y8,Y9,Ya,Yb,Yc,Yd,Ye,Yf,Yg,Yh,Yi,Yj,Yk,Yl,Ym,Yn,Yo,Yp,Yq,ial,Yr,Ys,Yt,Yu,Yv,Yw,Yx,Yy,ires,iresL,ires1,Yz,YA,YB,YC,YD,YE,bin2,YF,YG,YH,YI,YJ,YK,YL,YM,YN,YO,YP,YQ,YR,YS,YT,YU,un1,shOk,eqL,eq1,fillL,putAt,IHeap.load1,IHeap.loadL,IHeap.storeL,YV,YW,YX,YY,YZ,B0,B1,B2,B3,B4,B5,B6,B7,B8,B9,Ba,Bb,Bc,Bd,Be,Bf,Bg,Bh,Bi,Bj,Bk,Bl,Bm,Bn,Bo,Bp]
                        exact hK _
end
end Go.Proofs.YtafnkmiggmfbdaaI
