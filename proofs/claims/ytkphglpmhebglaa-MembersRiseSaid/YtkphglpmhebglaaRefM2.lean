/- The document's answer for who is in a group: its deeds. -/
import Derived.Test.YtkphglpmhebglaaRefM
namespace Go.Proofs.YtkphglpmhebglaaI
set_option linter.unusedSimpArgs false
set_option linter.unusedVariables false
open Go

def mV0 : Value := .agg #[.slice none 0 0, .slice none 0 0, .int .i64 0, .int .i64 (-1), .bool false, .int .i64 (-1)]
def RGood (L S : List Int) : Prop := 2 ≤ L.length ∧ L.length ≤ 8 ∧ Apart (L ++ S)

section
variable (c : Ctx) (hR : HasRef23 c) {H : IHeap} {K : Value → IHeap → Prop}

include hR in
theorem RFail_ok {S : List Nat} {v : Value} {m : Mem} {s e : Int} (h : RM H S v m) (hok : m.ok) (hb : m.e < 4611686018427387904) (hK : ∀ v' H', H.le H' → RM H' S v' (m.fail s e).1 → K (.tuple #[v', .int .i64 (m.fail s e).2]) H') :
    c.C (c.F n_hurdleref23_Fail) [v, .int .i64 s, .int .i64 e] H K := by
  refine c.enter hR.hurdleref23_Fail rfl ?_
  have hm := h
  obtain ⟨v1, v2, rfl, w1, w2, o1, o2⟩ := h
  have h8 := hok.eight
  have hep := hok.ep
  obtain ⟨a1, c1, rfl⟩ := w1.len
  obtain ⟨a2, c2, rfl⟩ := w2.len
  simp only [List.length_map] at hm w1 w2 o1 o2
  simp -implicitDefEqProofs [J0,J1,J2,J3,J4,J5,J6,J7,J8,J9,Ja,Jb,Jc,Jd,Je,Jf,Jg,Jh,Ji,Jj,Jk,Jl,Jm,Jn,Jo,Jp,Jq,Jr,Js,Jt,Ju,Jv,Jw,Jx,Jy,Jz,JA,JB,JC,JD,JE,JF,JG,JH,JI,JJ,JK,JL,JM,JN,JO,JP,stillI,IOp.kind,JQ,JR,JS,JT,JU,JV,JW,JX,JY,JZ,Y0,Y1,Y2,Y3,Y4,Y5,Y6,Y7,Y8,Y9,Ya,Yb,Yc,Yd,Ye,Yf,Yg,Yh,Yi,Yj,Yk,Yl,Ym,Yn,ial,Yo,Yp,Yq,Yr,Ys,Yt,Yu,Yv,ires,iresL,ires1,Yw,Yx,Yy,Yz,YA,YB,bin2,YC,YD,YE,YF,YG,YH,YI,YJ,YK,YL,YM,YN,YO,YP,YQ,YR,un1,shOk,eqL,eq1,fillL,putAt,IHeap.load1,IHeap.loadL,IHeap.storeL,YS,YT,YU,YV,YW,YX,YY,YZ,B0,B1,B2,B3,B4,B5,B6,B7,B8,B9,Ba,Bb,Bc,Bd,Be,Bf,Bg,Bh,Bi,Bj,Bk,Bl,Bm, c_hurdleref23_Fail]
  refine call_of (At_ok c hR (w1.le ((H.le_alloc _).alloc _)) (by omega) ?_)
  have leX : ∀ x y, H.le ((H.alloc x).alloc y) := fun x y => (H.le_alloc _).alloc _
  unfold Mem.fail at hK
  by_cases ha : atI m.L s < 0
  · rw [if_pos ha] at hK
    simp -implicitDefEqProofs [J0,J1,J2,J3,J4,J5,J6,J7,J8,J9,Ja,Jb,Jc,Jd,Je,Jf,Jg,Jh,Ji,Jj,Jk,Jl,Jm,Jn,Jo,Jp,Jq,Jr,Js,Jt,Ju,Jv,Jw,Jx,Jy,Jz,JA,JB,JC,JD,JE,JF,JG,JH,JI,JJ,JK,JL,JM,JN,JO,JP,stillI,IOp.kind,JQ,JR,JS,JT,JU,JV,JW,JX,JY,JZ,Y0,Y1,Y2,Y3,Y4,Y5,Y6,Y7,Y8,Y9,Ya,Yb,Yc,Yd,Ye,Yf,Yg,Yh,Yi,Yj,Yk,Yl,Ym,Yn,ial,Yo,Yp,Yq,Yr,Ys,Yt,Yu,Yv,ires,iresL,ires1,Yw,Yx,Yy,Yz,YA,YB,bin2,YC,YD,YE,YF,YG,YH,YI,YJ,YK,YL,YM,YN,YO,YP,YQ,YR,un1,shOk,eqL,eq1,fillL,putAt,IHeap.load1,IHeap.loadL,IHeap.storeL,YS,YT,YU,YV,YW,YX,YY,YZ,B0,B1,B2,B3,B4,B5,B6,B7,B8,B9,Ba,Bb,Bc,Bd,Be,Bf,Bg,Bh,Bi,Bj,Bk,Bl,Bm, ha]
    exact hK _ _ ((leX _ _).set (by omega) _) (hm.le ((leX _ _).set (by omega) _))
  · rw [if_neg ha] at hK
    by_cases hh : 0 ≤ m.h
    · rw [if_pos hh] at hK
      simp -implicitDefEqProofs [J0,J1,J2,J3,J4,J5,J6,J7,J8,J9,Ja,Jb,Jc,Jd,Je,Jf,Jg,Jh,Ji,Jj,Jk,Jl,Jm,Jn,Jo,Jp,Jq,Jr,Js,Jt,Ju,Jv,Jw,Jx,Jy,Jz,JA,JB,JC,JD,JE,JF,JG,JH,JI,JJ,JK,JL,JM,JN,JO,JP,stillI,IOp.kind,JQ,JR,JS,JT,JU,JV,JW,JX,JY,JZ,Y0,Y1,Y2,Y3,Y4,Y5,Y6,Y7,Y8,Y9,Ya,Yb,Yc,Yd,Ye,Yf,Yg,Yh,Yi,Yj,Yk,Yl,Ym,Yn,ial,Yo,Yp,Yq,Yr,Ys,Yt,Yu,Yv,ires,iresL,ires1,Yw,Yx,Yy,Yz,YA,YB,bin2,YC,YD,YE,YF,YG,YH,YI,YJ,YK,YL,YM,YN,YO,YP,YQ,YR,un1,shOk,eqL,eq1,fillL,putAt,IHeap.load1,IHeap.loadL,IHeap.storeL,YS,YT,YU,YV,YW,YX,YY,YZ,B0,B1,B2,B3,B4,B5,B6,B7,B8,B9,Ba,Bb,Bc,Bd,Be,Bf,Bg,Bh,Bi,Bj,Bk,Bl,Bm, ha, hh]
      exact hK _ _ ((leX _ _).set (by omega) _) (hm.le ((leX _ _).set (by omega) _))
    · rw [if_neg hh] at hK
      by_cases he : e = m.e
      · rw [if_neg (by simpa using he)] at hK
        have hw : IntKind.i64.wrap (m.e + 1) = m.e + 1 := wrap64 (by omega) (by omega)
        simp -implicitDefEqProofs [J0,J1,J2,J3,J4,J5,J6,J7,J8,J9,Ja,Jb,Jc,Jd,Je,Jf,Jg,Jh,Ji,Jj,Jk,Jl,Jm,Jn,Jo,Jp,Jq,Jr,Js,Jt,Ju,Jv,Jw,Jx,Jy,Jz,JA,JB,JC,JD,JE,JF,JG,JH,JI,JJ,JK,JL,JM,JN,JO,JP,stillI,IOp.kind,JQ,JR,JS,JT,JU,JV,JW,JX,JY,JZ,Y0,Y1,Y2,Y3,Y4,Y5,Y6,Y7,Y8,Y9,Ya,Yb,Yc,Yd,Ye,Yf,Yg,Yh,Yi,Yj,Yk,Yl,Ym,Yn,ial,Yo,Yp,Yq,Yr,Ys,Yt,Yu,Yv,ires,iresL,ires1,Yw,Yx,Yy,Yz,YA,YB,bin2,YC,YD,YE,YF,YG,YH,YI,YJ,YK,YL,YM,YN,YO,YP,YQ,YR,un1,shOk,eqL,eq1,fillL,putAt,IHeap.load1,IHeap.loadL,IHeap.storeL,YS,YT,YU,YV,YW,YX,YY,YZ,B0,B1,B2,B3,B4,B5,B6,B7,B8,B9,Ba,Bb,Bc,Bd,Be,Bf,Bg,Bh,Bi,Bj,Bk,Bl,Bm, ha, hh, he, hw]
        have leY : ∀ x y z1 z2 z3 z4 z5, H.le (((((((H.alloc x).alloc y).set H.next z1).set H.next z2).set H.next z3).set H.next z4).set (H.next + 1) z5) := fun x y z1 z2 z3 z4 z5 => (((((leX x y).set (Nat.le_refl _) _).set (Nat.le_refl _) _).set (Nat.le_refl _) _).set (Nat.le_refl _) _).set (by omega) _
        exact hK _ _ (leY _ _ _ _ _ _ _) ⟨_, _, rfl, w1.le (leY _ _ _ _ _ _ _), w2.le (leY _ _ _ _ _ _ _), o1.le (leY _ _ _ _ _ _ _).next, o2.le (leY _ _ _ _ _ _ _).next⟩
      · rw [if_pos he] at hK
        simp -implicitDefEqProofs [J0,J1,J2,J3,J4,J5,J6,J7,J8,J9,Ja,Jb,Jc,Jd,Je,Jf,Jg,Jh,Ji,Jj,Jk,Jl,Jm,Jn,Jo,Jp,Jq,Jr,Js,Jt,Ju,Jv,Jw,Jx,Jy,Jz,JA,JB,JC,JD,JE,JF,JG,JH,JI,JJ,JK,JL,JM,JN,JO,JP,stillI,IOp.kind,JQ,JR,JS,JT,JU,JV,JW,JX,JY,JZ,Y0,Y1,Y2,Y3,Y4,Y5,Y6,Y7,Y8,Y9,Ya,Yb,Yc,Yd,Ye,Yf,Yg,Yh,Yi,Yj,Yk,Yl,Ym,Yn,ial,Yo,Yp,Yq,Yr,Ys,Yt,Yu,Yv,ires,iresL,ires1,Yw,Yx,Yy,Yz,YA,YB,bin2,YC,YD,YE,YF,YG,YH,YI,YJ,YK,YL,YM,YN,YO,YP,YQ,YR,un1,shOk,eqL,eq1,fillL,putAt,IHeap.load1,IHeap.loadL,IHeap.storeL,YS,YT,YU,YV,YW,YX,YY,YZ,B0,B1,B2,B3,B4,B5,B6,B7,B8,B9,Ba,Bb,Bc,Bd,Be,Bf,Bg,Bh,Bi,Bj,Bk,Bl,Bm, ha, hh, he]
        exact hK _ _ ((leX _ _).set (by omega) _) (hm.le ((leX _ _).set (by omega) _))

include hR in
theorem RDone_ok23 {S : List Nat} {v : Value} {m : Mem} {e : Int} (h : RM H S v m) (hok : m.ok) (hb : m.e < 4611686018427387904) (hK : ∀ v' H', H.le H' → RM H' S v' (m.done e).1 → K (.tuple #[v', .int .i64 (m.done e).2]) H') :
    c.C (c.F n_hurdleref23_Done) [v, .int .i64 e] H K := by
  refine c.enter hR.hurdleref23_Done rfl ?_
  have hm := h
  obtain ⟨v1, v2, rfl, w1, w2, o1, o2⟩ := h
  have hep := hok.ep
  obtain ⟨a1, c1, rfl⟩ := w1.len
  obtain ⟨a2, c2, rfl⟩ := w2.len
  simp only [List.length_map] at hm w1 w2 o1 o2
  have leX : ∀ x y, H.le ((H.alloc x).alloc y) := fun x y => (H.le_alloc _).alloc _
  unfold Mem.done at hK
  by_cases he : e = m.e
  · rw [if_neg (by simpa using he)] at hK
    by_cases hh : m.h < 0
    · rw [if_pos (.inl hh)] at hK
      simp -implicitDefEqProofs [J0,J1,J2,J3,J4,J5,J6,J7,J8,J9,Ja,Jb,Jc,Jd,Je,Jf,Jg,Jh,Ji,Jj,Jk,Jl,Jm,Jn,Jo,Jp,Jq,Jr,Js,Jt,Ju,Jv,Jw,Jx,Jy,Jz,JA,JB,JC,JD,JE,JF,JG,JH,JI,JJ,JK,JL,JM,JN,JO,JP,stillI,IOp.kind,JQ,JR,JS,JT,JU,JV,JW,JX,JY,JZ,Y0,Y1,Y2,Y3,Y4,Y5,Y6,Y7,Y8,Y9,Ya,Yb,Yc,Yd,Ye,Yf,Yg,Yh,Yi,Yj,Yk,Yl,Ym,Yn,ial,Yo,Yp,Yq,Yr,Ys,Yt,Yu,Yv,ires,iresL,ires1,Yw,Yx,Yy,Yz,YA,YB,bin2,YC,YD,YE,YF,YG,YH,YI,YJ,YK,YL,YM,YN,YO,YP,YQ,YR,un1,shOk,eqL,eq1,fillL,putAt,IHeap.load1,IHeap.loadL,IHeap.storeL,YS,YT,YU,YV,YW,YX,YY,YZ,B0,B1,B2,B3,B4,B5,B6,B7,B8,B9,Ba,Bb,Bc,Bd,Be,Bf,Bg,Bh,Bi,Bj,Bk,Bl,Bm, c_hurdleref23_Done, he, hh]
      exact hK _ _ ((leX _ _).set (by omega) _) (hm.le ((leX _ _).set (by omega) _))
    · have hf : m.f = true ∨ m.f = false := by cases m.f <;> simp
      rcases hf with hf | hf
      · rw [if_neg (by simp [hf]; omega)] at hK
        have hw : IntKind.i64.wrap (m.e + 1) = m.e + 1 := wrap64 (by omega) (by omega)
        simp -implicitDefEqProofs [J0,J1,J2,J3,J4,J5,J6,J7,J8,J9,Ja,Jb,Jc,Jd,Je,Jf,Jg,Jh,Ji,Jj,Jk,Jl,Jm,Jn,Jo,Jp,Jq,Jr,Js,Jt,Ju,Jv,Jw,Jx,Jy,Jz,JA,JB,JC,JD,JE,JF,JG,JH,JI,JJ,JK,JL,JM,JN,JO,JP,stillI,IOp.kind,JQ,JR,JS,JT,JU,JV,JW,JX,JY,JZ,Y0,Y1,Y2,Y3,Y4,Y5,Y6,Y7,Y8,Y9,Ya,Yb,Yc,Yd,Ye,Yf,Yg,Yh,Yi,Yj,Yk,Yl,Ym,Yn,ial,Yo,Yp,Yq,Yr,Ys,Yt,Yu,Yv,ires,iresL,ires1,Yw,Yx,Yy,Yz,YA,YB,bin2,YC,YD,YE,YF,YG,YH,YI,YJ,YK,YL,YM,YN,YO,YP,YQ,YR,un1,shOk,eqL,eq1,fillL,putAt,IHeap.load1,IHeap.loadL,IHeap.storeL,YS,YT,YU,YV,YW,YX,YY,YZ,B0,B1,B2,B3,B4,B5,B6,B7,B8,B9,Ba,Bb,Bc,Bd,Be,Bf,Bg,Bh,Bi,Bj,Bk,Bl,Bm, c_hurdleref23_Done, he, hh, hf, hw]
        have leY : ∀ x y z1 z2 z3 z4 z5, H.le (((((((H.alloc x).alloc y).set H.next z1).set H.next z2).set H.next z3).set H.next z4).set (H.next + 1) z5) := fun x y z1 z2 z3 z4 z5 => (((((leX x y).set (Nat.le_refl _) _).set (Nat.le_refl _) _).set (Nat.le_refl _) _).set (Nat.le_refl _) _).set (by omega) _
        exact hK _ _ (leY _ _ _ _ _ _ _) ⟨_, _, rfl, w1.le (leY _ _ _ _ _ _ _), w2.le (leY _ _ _ _ _ _ _), o1.le (leY _ _ _ _ _ _ _).next, o2.le (leY _ _ _ _ _ _ _).next⟩
      · rw [if_pos (.inr hf)] at hK
        simp -implicitDefEqProofs [J0,J1,J2,J3,J4,J5,J6,J7,J8,J9,Ja,Jb,Jc,Jd,Je,Jf,Jg,Jh,Ji,Jj,Jk,Jl,Jm,Jn,Jo,Jp,Jq,Jr,Js,Jt,Ju,Jv,Jw,Jx,Jy,Jz,JA,JB,JC,JD,JE,JF,JG,JH,JI,JJ,JK,JL,JM,JN,JO,JP,stillI,IOp.kind,JQ,JR,JS,JT,JU,JV,JW,JX,JY,JZ,Y0,Y1,Y2,Y3,Y4,Y5,Y6,Y7,Y8,Y9,Ya,Yb,Yc,Yd,Ye,Yf,Yg,Yh,Yi,Yj,Yk,Yl,Ym,Yn,ial,Yo,Yp,Yq,Yr,Ys,Yt,Yu,Yv,ires,iresL,ires1,Yw,Yx,Yy,Yz,YA,YB,bin2,YC,YD,YE,YF,YG,YH,YI,YJ,YK,YL,YM,YN,YO,YP,YQ,YR,un1,shOk,eqL,eq1,fillL,putAt,IHeap.load1,IHeap.loadL,IHeap.storeL,YS,YT,YU,YV,YW,YX,YY,YZ,B0,B1,B2,B3,B4,B5,B6,B7,B8,B9,Ba,Bb,Bc,Bd,Be,Bf,Bg,Bh,Bi,Bj,Bk,Bl,Bm, c_hurdleref23_Done, he, hh, hf]
        rw [hf] at hm
        exact hK _ _ ((leX _ _).set (by omega) _) (hm.le ((leX _ _).set (by omega) _))
  · rw [if_pos he] at hK
    simp -implicitDefEqProofs [J0,J1,J2,J3,J4,J5,J6,J7,J8,J9,Ja,Jb,Jc,Jd,Je,Jf,Jg,Jh,Ji,Jj,Jk,Jl,Jm,Jn,Jo,Jp,Jq,Jr,Js,Jt,Ju,Jv,Jw,Jx,Jy,Jz,JA,JB,JC,JD,JE,JF,JG,JH,JI,JJ,JK,JL,JM,JN,JO,JP,stillI,IOp.kind,JQ,JR,JS,JT,JU,JV,JW,JX,JY,JZ,Y0,Y1,Y2,Y3,Y4,Y5,Y6,Y7,Y8,Y9,Ya,Yb,Yc,Yd,Ye,Yf,Yg,Yh,Yi,Yj,Yk,Yl,Ym,Yn,ial,Yo,Yp,Yq,Yr,Ys,Yt,Yu,Yv,ires,iresL,ires1,Yw,Yx,Yy,Yz,YA,YB,bin2,YC,YD,YE,YF,YG,YH,YI,YJ,YK,YL,YM,YN,YO,YP,YQ,YR,un1,shOk,eqL,eq1,fillL,putAt,IHeap.load1,IHeap.loadL,IHeap.storeL,YS,YT,YU,YV,YW,YX,YY,YZ,B0,B1,B2,B3,B4,B5,B6,B7,B8,B9,Ba,Bb,Bc,Bd,Be,Bf,Bg,Bh,Bi,Bj,Bk,Bl,Bm, c_hurdleref23_Done, he]
    exact hK _ _ ((leX _ _).set (by omega) _) (hm.le ((leX _ _).set (by omega) _))

include hR in
theorem RNew_ok {S : List Nat} {L P : List Int} {u v : Value} (hu : SlW H 1 u (L.map rowI)) (hv : SlW H 1 v (P.map rowI)) (hL : L.length ≤ 1000000) (hP : P.length ≤ 1000000) (hS : ∀ b ∈ S, b < H.next)
    (h0 : ¬ RGood L P → ∀ H', H.le H' → K (.tuple #[mV0, .bool false]) H') (h1 : RGood L P → ∀ v' H', H.le H' → RM H' S v' ⟨L, P, 1, -1, false, -1⟩ → K (.tuple #[v', .bool true]) H') :
    c.C (c.F n_hurdleref23_New) [u, v] H K := by
  refine c.enter hR.hurdleref23_New rfl ?_
  have hu' := hu
  have hv' := hv
  obtain ⟨a1, c1, rfl⟩ := hu.len
  obtain ⟨a2, c2, rfl⟩ := hv.len
  simp only [List.length_map] at hu' hv' ⊢
  have leA : ∀ x, H.le (H.alloc x) := fun x => H.le_alloc x
  simp -implicitDefEqProofs [J0,J1,J2,J3,J4,J5,J6,J7,J8,J9,Ja,Jb,Jc,Jd,Je,Jf,Jg,Jh,Ji,Jj,Jk,Jl,Jm,Jn,Jo,Jp,Jq,Jr,Js,Jt,Ju,Jv,Jw,Jx,Jy,Jz,JA,JB,JC,JD,JE,JF,JG,JH,JI,JJ,JK,JL,JM,JN,JO,JP,stillI,IOp.kind,JQ,JR,JS,JT,JU,JV,JW,JX,JY,JZ,Y0,Y1,Y2,Y3,Y4,Y5,Y6,Y7,Y8,Y9,Ya,Yb,Yc,Yd,Ye,Yf,Yg,Yh,Yi,Yj,Yk,Yl,Ym,Yn,ial,Yo,Yp,Yq,Yr,Ys,Yt,Yu,Yv,ires,iresL,ires1,Yw,Yx,Yy,Yz,YA,YB,bin2,YC,YD,YE,YF,YG,YH,YI,YJ,YK,YL,YM,YN,YO,YP,YQ,YR,un1,shOk,eqL,eq1,fillL,putAt,IHeap.load1,IHeap.loadL,IHeap.storeL,YS,YT,YU,YV,YW,YX,YY,YZ,B0,B1,B2,B3,B4,B5,B6,B7,B8,B9,Ba,Bb,Bc,Bd,Be,Bf,Bg,Bh,Bi,Bj,Bk,Bl,Bm, c_hurdleref23_New]
  refine call_of (Group_ok c hR (hu'.le (leA _)) (by omega) ?_)
  by_cases hg : 2 ≤ L.length ∧ L.length ≤ 8 ∧ Apart L
  · have e : (decide (2 ≤ L.length) && (decide (L.length ≤ 8) && apart L)) = true := by simp [hg.1, hg.2.1, (apart_iff _).2 hg.2.2]
    rw [e]
    by_cases h64 : 64 < P.length
    · have h64' : (64 : Int) < (P.length : Int) := by omega
      have hno : ¬ RGood L P := fun h => by have := apart_len h.2.2.right; omega
      simp -implicitDefEqProofs [J0,J1,J2,J3,J4,J5,J6,J7,J8,J9,Ja,Jb,Jc,Jd,Je,Jf,Jg,Jh,Ji,Jj,Jk,Jl,Jm,Jn,Jo,Jp,Jq,Jr,Js,Jt,Ju,Jv,Jw,Jx,Jy,Jz,JA,JB,JC,JD,JE,JF,JG,JH,JI,JJ,JK,JL,JM,JN,JO,JP,stillI,IOp.kind,JQ,JR,JS,JT,JU,JV,JW,JX,JY,JZ,Y0,Y1,Y2,Y3,Y4,Y5,Y6,Y7,Y8,Y9,Ya,Yb,Yc,Yd,Ye,Yf,Yg,Yh,Yi,Yj,Yk,Yl,Ym,Yn,ial,Yo,Yp,Yq,Yr,Ys,Yt,Yu,Yv,ires,iresL,ires1,Yw,Yx,Yy,Yz,YA,YB,bin2,YC,YD,YE,YF,YG,YH,YI,YJ,YK,YL,YM,YN,YO,YP,YQ,YR,un1,shOk,eqL,eq1,fillL,putAt,IHeap.load1,IHeap.loadL,IHeap.storeL,YS,YT,YU,YV,YW,YX,YY,YZ,B0,B1,B2,B3,B4,B5,B6,B7,B8,B9,Ba,Bb,Bc,Bd,Be,Bf,Bg,Bh,Bi,Bj,Bk,Bl,Bm, h64, h64', fillL, putAt]
      exact h0 hno _ ((leA _).set (Nat.le_refl _) _)
    · have h64' : ¬ (64 : Int) < (P.length : Int) := by omega
      obtain ⟨HA, hHA⟩ : ∃ HA : IHeap, HA = H.alloc (.cells [.slice none 0 0, .slice none 0 0, .int .i64 0, .int .i64 0, .bool false, .int .i64 0] false) := ⟨_, rfl⟩
      have kA : H.le HA := by rw [hHA]; exact leA _
      have nA : HA.next = H.next + 1 := by rw [hHA]; rfl
      have gA : HA.get H.next = some (.cells [.slice none 0 0, .slice none 0 0, .int .i64 0, .int .i64 0, .bool false, .int .i64 0] false) := by rw [hHA, YS, if_pos rfl]
      obtain ⟨f1, v3, H3, e3, gr3, k3⟩ := app_ok (l := L) (old := []) (B := HA.next) (hu'.le kA) (Grow.nil _ _ _) (Nat.le_refl _) (by omega) (by simp)
      have kB := kA.trans (k3.le (Nat.le_refl _))
      obtain ⟨f2, v4, H4, e4, gr4, k4⟩ := app_ok (l := P) (old := L) (B := HA.next) (hv'.le kB) gr3 k3.next (by omega) (by omega)
      have k4' := k3.trans k4
      have kC : H.le H4 := kA.trans (k4'.le (Nat.le_refl _))
      have gC : H4.get H.next = _ := (k4'.get H.next (by omega)).trans gA
      rw [← hHA]
      have n4 := k4'.next
      simp -implicitDefEqProofs [J0,J1,J2,J3,J4,J5,J6,J7,J8,J9,Ja,Jb,Jc,Jd,Je,Jf,Jg,Jh,Ji,Jj,Jk,Jl,Jm,Jn,Jo,Jp,Jq,Jr,Js,Jt,Ju,Jv,Jw,Jx,Jy,Jz,JA,JB,JC,JD,JE,JF,JG,JH,JI,JJ,JK,JL,JM,JN,JO,JP,stillI,IOp.kind,JQ,JR,JS,JT,JU,JV,JW,JX,JY,JZ,Y0,Y1,Y2,Y3,Y4,Y5,Y6,Y7,Y8,Y9,Ya,Yb,Yc,Yd,Ye,Yf,Yg,Yh,Yi,Yj,Yk,Yl,Ym,Yn,ial,Yo,Yp,Yq,Yr,Ys,Yt,Yu,Yv,ires,iresL,ires1,Yw,Yx,Yy,Yz,YA,YB,bin2,YC,YD,YE,YF,YG,YH,YI,YJ,YK,YL,YM,YN,YO,YP,YQ,YR,un1,shOk,eqL,eq1,fillL,putAt,IHeap.load1,IHeap.loadL,IHeap.storeL,YS,YT,YU,YV,YW,YX,YY,YZ,B0,B1,B2,B3,B4,B5,B6,B7,B8,B9,Ba,Bb,Bc,Bd,Be,Bf,Bg,Bh,Bi,Bj,Bk,Bl,Bm, h64, h64', lenOfI, f1, e3, f2, e4, List.nil_append]
      obtain ⟨a3, c3, rfl⟩ := gr3.len
      simp only [List.nil_append, List.length_map] at e3 e4 ⊢
      refine call_of (Apart_ok c hR (l := L ++ P) gr4.slw (by simp; omega) ?_)
      by_cases hap : Apart (L ++ P)
      · rw [(apart_iff _).2 hap]
        obtain ⟨f5, v5, H5, e5, gr5, k5⟩ := app_ok (l := L) (old := []) (B := H4.next) (hu'.le kC) (Grow.nil _ _ _) (Nat.le_refl _) (by omega) (by simp)
        have kD := kC.trans (k5.le (Nat.le_refl _))
        obtain ⟨f6, v6, H6, e6, gr6, k6⟩ := app_ok (l := P) (old := []) (B := H5.next) (hv'.le kD) (Grow.nil _ _ _) (Nat.le_refl _) (by omega) (by simp)
        have kE := kD.trans (k6.le (Nat.le_refl _))
        have gE : H6.get H.next = _ := ((k6.get H.next (by have := k5.next; have := k4'.next; omega)).trans (k5.get H.next (by have := k4'.next; omega))).trans gC
        obtain ⟨a5, c5, rfl⟩ := gr5.len
        obtain ⟨a6, c6, rfl⟩ := gr6.len
        simp only [List.nil_append, List.length_map] at e5 e6 gr5 gr6
        simp -implicitDefEqProofs [J0,J1,J2,J3,J4,J5,J6,J7,J8,J9,Ja,Jb,Jc,Jd,Je,Jf,Jg,Jh,Ji,Jj,Jk,Jl,Jm,Jn,Jo,Jp,Jq,Jr,Js,Jt,Ju,Jv,Jw,Jx,Jy,Jz,JA,JB,JC,JD,JE,JF,JG,JH,JI,JJ,JK,JL,JM,JN,JO,JP,stillI,IOp.kind,JQ,JR,JS,JT,JU,JV,JW,JX,JY,JZ,Y0,Y1,Y2,Y3,Y4,Y5,Y6,Y7,Y8,Y9,Ya,Yb,Yc,Yd,Ye,Yf,Yg,Yh,Yi,Yj,Yk,Yl,Ym,Yn,ial,Yo,Yp,Yq,Yr,Ys,Yt,Yu,Yv,ires,iresL,ires1,Yw,Yx,Yy,Yz,YA,YB,bin2,YC,YD,YE,YF,YG,YH,YI,YJ,YK,YL,YM,YN,YO,YP,YQ,YR,un1,shOk,eqL,eq1,fillL,putAt,IHeap.load1,IHeap.loadL,IHeap.storeL,YS,YT,YU,YV,YW,YX,YY,YZ,B0,B1,B2,B3,B4,B5,B6,B7,B8,B9,Ba,Bb,Bc,Bd,Be,Bf,Bg,Bh,Bi,Bj,Bk,Bl,Bm, h64, h64', lenOfI, f5, e5, f6, e6, fillL, putAt, gE]
        have n5 := k5.next
        exact h1 ⟨hg.1, hg.2.1, hap⟩ _ _ (kE.set (Nat.le_refl _) _) ⟨_, _, rfl,
          (gr5.slw.le (k6.le (Nat.le_refl _))).upd (Grow.off gr5 (S := [H.next]) fun b hb => by simp only [List.mem_singleton] at hb; omega) ((IHeap.upd_refl _ _).set (.inr (by simp)) _),
          gr6.slw.upd (Grow.off gr6 (S := [H.next]) fun b hb => by simp only [List.mem_singleton] at hb; omega) ((IHeap.upd_refl _ _).set (.inr (by simp)) _),
          Grow.far gr5 (by simp only [YV]; exact k6.next) fun b hb => by have := hS b hb; omega, Grow.far gr6 (by simp only [YV]; exact Nat.le_refl _) fun b hb => by have := hS b hb; omega⟩
      · rw [show apart (L ++ P) = false from by rw [Bool.eq_false_iff]; intro ht; exact hap ((apart_iff _).1 ht)]
        have hno : ¬ RGood L P := fun h => hap h.2.2
        simp -implicitDefEqProofs [J0,J1,J2,J3,J4,J5,J6,J7,J8,J9,Ja,Jb,Jc,Jd,Je,Jf,Jg,Jh,Ji,Jj,Jk,Jl,Jm,Jn,Jo,Jp,Jq,Jr,Js,Jt,Ju,Jv,Jw,Jx,Jy,Jz,JA,JB,JC,JD,JE,JF,JG,JH,JI,JJ,JK,JL,JM,JN,JO,JP,stillI,IOp.kind,JQ,JR,JS,JT,JU,JV,JW,JX,JY,JZ,Y0,Y1,Y2,Y3,Y4,Y5,Y6,Y7,Y8,Y9,Ya,Yb,Yc,Yd,Ye,Yf,Yg,Yh,Yi,Yj,Yk,Yl,Ym,Yn,ial,Yo,Yp,Yq,Yr,Ys,Yt,Yu,Yv,ires,iresL,ires1,Yw,Yx,Yy,Yz,YA,YB,bin2,YC,YD,YE,YF,YG,YH,YI,YJ,YK,YL,YM,YN,YO,YP,YQ,YR,un1,shOk,eqL,eq1,fillL,putAt,IHeap.load1,IHeap.loadL,IHeap.storeL,YS,YT,YU,YV,YW,YX,YY,YZ,B0,B1,B2,B3,B4,B5,B6,B7,B8,B9,Ba,Bb,Bc,Bd,Be,Bf,Bg,Bh,Bi,Bj,Bk,Bl,Bm, fillL, putAt, gC]
        exact h0 hno _ (kC.set (Nat.le_refl _) _)
  · have e : (decide (2 ≤ L.length) && (decide (L.length ≤ 8) && apart L)) = false := by
      rw [Bool.eq_false_iff]
      intro ht
      simp only [Bool.and_eq_true, decide_eq_true_eq] at ht
      exact hg ⟨ht.1, ht.2.1, (apart_iff _).1 ht.2.2⟩
    rw [e]
    simp -implicitDefEqProofs [J0,J1,J2,J3,J4,J5,J6,J7,J8,J9,Ja,Jb,Jc,Jd,Je,Jf,Jg,Jh,Ji,Jj,Jk,Jl,Jm,Jn,Jo,Jp,Jq,Jr,Js,Jt,Ju,Jv,Jw,Jx,Jy,Jz,JA,JB,JC,JD,JE,JF,JG,JH,JI,JJ,JK,JL,JM,JN,JO,JP,stillI,IOp.kind,JQ,JR,JS,JT,JU,JV,JW,JX,JY,JZ,Y0,Y1,Y2,Y3,Y4,Y5,Y6,Y7,Y8,Y9,Ya,Yb,Yc,Yd,Ye,Yf,Yg,Yh,Yi,Yj,Yk,Yl,Ym,Yn,ial,Yo,Yp,Yq,Yr,Ys,Yt,Yu,Yv,ires,iresL,ires1,Yw,Yx,Yy,Yz,YA,YB,bin2,YC,YD,YE,YF,YG,YH,YI,YJ,YK,YL,YM,YN,YO,YP,YQ,YR,un1,shOk,eqL,eq1,fillL,putAt,IHeap.load1,IHeap.loadL,IHeap.storeL,YS,YT,YU,YV,YW,YX,YY,YZ,B0,B1,B2,B3,B4,B5,B6,B7,B8,B9,Ba,Bb,Bc,Bd,Be,Bf,Bg,Bh,Bi,Bj,Bk,Bl,Bm, fillL, putAt]
    exact h0 (fun h => hg ⟨h.1, h.2.1, h.2.2.left⟩) _ ((leA _).set (Nat.le_refl _) _)

end
end Go.Proofs.YtkphglpmhebglaaI
