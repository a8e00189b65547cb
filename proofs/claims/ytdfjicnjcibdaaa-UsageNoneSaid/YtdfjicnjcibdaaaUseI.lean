/- Segments: the document's lists, added to and cut. -/
import Derived.Test.YtdfjicnjcibdaaaUseH
namespace Go.Proofs.YtdfjicnjcibdaaaI
set_option linter.unusedSimpArgs false
set_option linter.unusedVariables false
open Go

section
variable (c : Ctx) (hR : HasRef26 c) {H : IHeap} {K : Value → IHeap → Prop}

include hR in
theorem RAdd_ok26 {u : Value} {L : List UseD} {x : UseD} (hu : SlW H 4 u (L.map rowT)) (hl : L.length ≤ 1000000)
    (hK : ∀ v H', H.le H' → SlW H' 4 v ((addT L x).1.map rowT) → (v = u ∨ Blk H.next H'.next v) → K (.tuple #[v, .int .i64 (addT L x).2]) H') :
    c.C (c.F n_hurdleref26_Add) [u, .int .i64 x.seg, .int .i64 x.size, .int .i64 x.live, .int .i64 x.born] H K := by
  refine c.enter hR.hurdleref26_Add rfl ?_
  unfold addT at hK
  obtain ⟨HA, hHA⟩ : ∃ X : IHeap, X = (H.alloc (.cells [.int .i64 0, .int .i64 0, .int .i64 0, .int .i64 0] false)).set H.next (.cells [.int .i64 x.seg, .int .i64 x.size, .int .i64 x.live, .int .i64 x.born] false) := ⟨_, rfl⟩
  have kA : H.le HA := by rw [hHA]; exact (H.le_alloc _).set (Nat.le_refl _) _
  have nA : HA.next = H.next + 1 := by rw [hHA]; rfl
  have gA : HA.get H.next = some (.cells [.int .i64 x.seg, .int .i64 x.size, .int .i64 x.live, .int .i64 x.born] false) := by rw [hHA, YT, if_pos rfl]
  by_cases h1 : x.seg < 0
  · rw [if_pos (.inl h1)] at hK
    simp -implicitDefEqProofs [J0,J1,J2,J3,J4,J5,J6,J7,J8,J9,Ja,Jb,Jc,Jd,Je,Jf,Jg,Jh,Ji,Jj,Jk,Jl,Jm,Jn,Jo,Jp,Jq,Jr,Js,Jt,Ju,Jv,Jw,Jx,Jy,Jz,JA,JB,JC,JD,JE,JF,JG,JH,JI,JJ,JK,JL,JM,JN,JO,JP,stillI,IOp.kind,JQ,JR,JS,JT,JU,JV,JW,JX,JY,JZ,Y0,Y1,Y2,Y3,Y4,Y5,Y6,Y7,Y8,Y9,Ya,Yb,Yc,Yd,Ye,Yf,Yg,Yh,Yi,Yj,Yk,Yl,Ym,Yn,ial,Yo,Yp,Yq,Yr,Ys,Yt,Yu,Yv,ires,iresL,ires1,Yw,Yx,Yy,Yz,YA,YB,bin2,YC,YD,YE,YF,YG,YH,YI,YJ,YK,YL,YM,YN,YO,YP,YQ,YR,un1,shOk,eqL,eq1,fillL,putAt,IHeap.load1,IHeap.loadL,IHeap.storeL,YS,YT,YU,YV,YW,YX,YY,YZ,B0,B1,B2,B3,B4,B5,B6,B7,B8,B9,Ba,Bb,Bc,Bd,Be,Bf,Bg,Bh,Bi,Bj,Bk,Bl,Bm, c_hurdleref26_Add, ← hHA, h1]
    exact hK _ _ kA (hu.le kA) (.inl rfl)
  · by_cases h2 : 4096 ≤ x.seg
    · rw [if_pos (.inr (.inl h2))] at hK
      simp -implicitDefEqProofs [J0,J1,J2,J3,J4,J5,J6,J7,J8,J9,Ja,Jb,Jc,Jd,Je,Jf,Jg,Jh,Ji,Jj,Jk,Jl,Jm,Jn,Jo,Jp,Jq,Jr,Js,Jt,Ju,Jv,Jw,Jx,Jy,Jz,JA,JB,JC,JD,JE,JF,JG,JH,JI,JJ,JK,JL,JM,JN,JO,JP,stillI,IOp.kind,JQ,JR,JS,JT,JU,JV,JW,JX,JY,JZ,Y0,Y1,Y2,Y3,Y4,Y5,Y6,Y7,Y8,Y9,Ya,Yb,Yc,Yd,Ye,Yf,Yg,Yh,Yi,Yj,Yk,Yl,Ym,Yn,ial,Yo,Yp,Yq,Yr,Ys,Yt,Yu,Yv,ires,iresL,ires1,Yw,Yx,Yy,Yz,YA,YB,bin2,YC,YD,YE,YF,YG,YH,YI,YJ,YK,YL,YM,YN,YO,YP,YQ,YR,un1,shOk,eqL,eq1,fillL,putAt,IHeap.load1,IHeap.loadL,IHeap.storeL,YS,YT,YU,YV,YW,YX,YY,YZ,B0,B1,B2,B3,B4,B5,B6,B7,B8,B9,Ba,Bb,Bc,Bd,Be,Bf,Bg,Bh,Bi,Bj,Bk,Bl,Bm, c_hurdleref26_Add, ← hHA, h1, h2]
      exact hK _ _ kA (hu.le kA) (.inl rfl)
    · simp -implicitDefEqProofs [J0,J1,J2,J3,J4,J5,J6,J7,J8,J9,Ja,Jb,Jc,Jd,Je,Jf,Jg,Jh,Ji,Jj,Jk,Jl,Jm,Jn,Jo,Jp,Jq,Jr,Js,Jt,Ju,Jv,Jw,Jx,Jy,Jz,JA,JB,JC,JD,JE,JF,JG,JH,JI,JJ,JK,JL,JM,JN,JO,JP,stillI,IOp.kind,JQ,JR,JS,JT,JU,JV,JW,JX,JY,JZ,Y0,Y1,Y2,Y3,Y4,Y5,Y6,Y7,Y8,Y9,Ya,Yb,Yc,Yd,Ye,Yf,Yg,Yh,Yi,Yj,Yk,Yl,Ym,Yn,ial,Yo,Yp,Yq,Yr,Ys,Yt,Yu,Yv,ires,iresL,ires1,Yw,Yx,Yy,Yz,YA,YB,bin2,YC,YD,YE,YF,YG,YH,YI,YJ,YK,YL,YM,YN,YO,YP,YQ,YR,un1,shOk,eqL,eq1,fillL,putAt,IHeap.load1,IHeap.loadL,IHeap.storeL,YS,YT,YU,YV,YW,YX,YY,YZ,B0,B1,B2,B3,B4,B5,B6,B7,B8,B9,Ba,Bb,Bc,Bd,Be,Bf,Bg,Bh,Bi,Bj,Bk,Bl,Bm, c_hurdleref26_Add, ← hHA, h1, h2, gA]
      refine call_of (Rmay_ok26 c hR (x := x) fun H1 k1 => ?_)
      have n1 := k1.next
      have g1 := (k1.get H.next (by omega)).trans gA
      have k01 := kA.trans k1
      cases hn : mayT x with
      | false =>
        rw [if_pos (.inr (.inr hn))] at hK
        simp -implicitDefEqProofs [J0,J1,J2,J3,J4,J5,J6,J7,J8,J9,Ja,Jb,Jc,Jd,Je,Jf,Jg,Jh,Ji,Jj,Jk,Jl,Jm,Jn,Jo,Jp,Jq,Jr,Js,Jt,Ju,Jv,Jw,Jx,Jy,Jz,JA,JB,JC,JD,JE,JF,JG,JH,JI,JJ,JK,JL,JM,JN,JO,JP,stillI,IOp.kind,JQ,JR,JS,JT,JU,JV,JW,JX,JY,JZ,Y0,Y1,Y2,Y3,Y4,Y5,Y6,Y7,Y8,Y9,Ya,Yb,Yc,Yd,Ye,Yf,Yg,Yh,Yi,Yj,Yk,Yl,Ym,Yn,ial,Yo,Yp,Yq,Yr,Ys,Yt,Yu,Yv,ires,iresL,ires1,Yw,Yx,Yy,Yz,YA,YB,bin2,YC,YD,YE,YF,YG,YH,YI,YJ,YK,YL,YM,YN,YO,YP,YQ,YR,un1,shOk,eqL,eq1,fillL,putAt,IHeap.load1,IHeap.loadL,IHeap.storeL,YS,YT,YU,YV,YW,YX,YY,YZ,B0,B1,B2,B3,B4,B5,B6,B7,B8,B9,Ba,Bb,Bc,Bd,Be,Bf,Bg,Bh,Bi,Bj,Bk,Bl,Bm]
        exact hK _ _ k01 (hu.le k01) (.inl rfl)
      | true =>
        rw [if_neg (by rw [hn]; simp; omega)] at hK
        simp -implicitDefEqProofs [J0,J1,J2,J3,J4,J5,J6,J7,J8,J9,Ja,Jb,Jc,Jd,Je,Jf,Jg,Jh,Ji,Jj,Jk,Jl,Jm,Jn,Jo,Jp,Jq,Jr,Js,Jt,Ju,Jv,Jw,Jx,Jy,Jz,JA,JB,JC,JD,JE,JF,JG,JH,JI,JJ,JK,JL,JM,JN,JO,JP,stillI,IOp.kind,JQ,JR,JS,JT,JU,JV,JW,JX,JY,JZ,Y0,Y1,Y2,Y3,Y4,Y5,Y6,Y7,Y8,Y9,Ya,Yb,Yc,Yd,Ye,Yf,Yg,Yh,Yi,Yj,Yk,Yl,Ym,Yn,ial,Yo,Yp,Yq,Yr,Ys,Yt,Yu,Yv,ires,iresL,ires1,Yw,Yx,Yy,Yz,YA,YB,bin2,YC,YD,YE,YF,YG,YH,YI,YJ,YK,YL,YM,YN,YO,YP,YQ,YR,un1,shOk,eqL,eq1,fillL,putAt,IHeap.load1,IHeap.loadL,IHeap.storeL,YS,YT,YU,YV,YW,YX,YY,YZ,B0,B1,B2,B3,B4,B5,B6,B7,B8,B9,Ba,Bb,Bc,Bd,Be,Bf,Bg,Bh,Bi,Bj,Bk,Bl,Bm]
        refine call_of (Rfind_ok26 c hR (s := x.seg) (hu.le k01).1 hl ?_)
        cases ht : thereT L x.seg with
        | true =>
          rw [if_pos ht] at hK
          simp -implicitDefEqProofs [J0,J1,J2,J3,J4,J5,J6,J7,J8,J9,Ja,Jb,Jc,Jd,Je,Jf,Jg,Jh,Ji,Jj,Jk,Jl,Jm,Jn,Jo,Jp,Jq,Jr,Js,Jt,Ju,Jv,Jw,Jx,Jy,Jz,JA,JB,JC,JD,JE,JF,JG,JH,JI,JJ,JK,JL,JM,JN,JO,JP,stillI,IOp.kind,JQ,JR,JS,JT,JU,JV,JW,JX,JY,JZ,Y0,Y1,Y2,Y3,Y4,Y5,Y6,Y7,Y8,Y9,Ya,Yb,Yc,Yd,Ye,Yf,Yg,Yh,Yi,Yj,Yk,Yl,Ym,Yn,ial,Yo,Yp,Yq,Yr,Ys,Yt,Yu,Yv,ires,iresL,ires1,Yw,Yx,Yy,Yz,YA,YB,bin2,YC,YD,YE,YF,YG,YH,YI,YJ,YK,YL,YM,YN,YO,YP,YQ,YR,un1,shOk,eqL,eq1,fillL,putAt,IHeap.load1,IHeap.loadL,IHeap.storeL,YS,YT,YU,YV,YW,YX,YY,YZ,B0,B1,B2,B3,B4,B5,B6,B7,B8,B9,Ba,Bb,Bc,Bd,Be,Bf,Bg,Bh,Bi,Bj,Bk,Bl,Bm]
          exact hK _ _ k01 (hu.le k01) (.inl rfl)
        | false =>
          rw [if_neg (by rw [ht]; simp)] at hK
          have hple := posT_le x.seg L
          obtain ⟨n, hn⟩ : ∃ n, n = posT x.seg L := ⟨_, rfl⟩
          rw [← hn] at hple hK ⊢
          have hu2 := hu.le k01
          obtain ⟨a, cap, rfl⟩ := hu.len
          rw [List.length_map] at hu2 ⊢
          obtain ⟨a1, c1, s31, w1⟩ := cutI hu2 (i := 0) (j := n) (by omega) (by omega) (by rw [List.length_map]; exact hple)
          obtain ⟨a2, c2, s40, w2⟩ := cutI hu2 (i := n) (j := L.length) (by omega) hple (by rw [List.length_map]; exact Nat.le_refl _)
          rw [Nat.sub_zero] at s31 w1
          obtain ⟨HB, hHB⟩ : ∃ X : IHeap, X = H1.alloc (.cells [.int .i64 x.seg, .int .i64 x.size, .int .i64 x.live, .int .i64 x.born] false) := ⟨_, rfl⟩
          have kB : H1.le HB := by rw [hHB]; exact H1.le_alloc _
          have nB : HB.next = H1.next + 1 := by rw [hHB]; rfl
          have gB : HB.get H1.next = some (.cells [.int .i64 x.seg, .int .i64 x.size, .int .i64 x.live, .int .i64 x.born] false) := by rw [hHB, YS, if_pos rfl]
          have l1 : (((L.map rowT).drop 0).take n).length = n := by simp; omega
          have l2 : (((L.map rowT).drop n).take (L.length - n)).length = L.length - n := by simp
          obtain ⟨v1, H2, e1, gr1, k2⟩ := copied (bytes := 32) (w1.le kB) (by omega) (by omega) (map_oneT L 0 n) (by rw [l1]; omega) (by rw [l1]; omega) (Grow.nil HB HB.next 4) (Nat.le_refl _) (by rw [l1]; simp; omega) (by rw [l1]; simp; omega)
          have f31 := (w1.le kB).first (by omega)
          have q1 : HB.le H2 := k2.le (Nat.le_refl _)
          have g2 := (q1.get H1.next (by omega)).trans gB
          have gx2 := ((kB.trans q1).get H.next (by omega)).trans g1
          have n2 := q1.next
          have f37 : firstI H2 4 1 (.slice (some ⟨H1.next, 0, none⟩) 1 1) = some [.int .i64 x.seg, .int .i64 x.size, .int .i64 x.live, .int .i64 x.born] := by simp [firstI, IHeap.loadL, g2]
          obtain ⟨v2, H3, e2, gr2, k3⟩ := gr1.append1 (bytes := 32) (new := [.int .i64 x.seg, .int .i64 x.size, .int .i64 x.live, .int .i64 x.born]) n2 (by omega) (by omega) (by rw [List.nil_append, l1]; omega) (by rw [List.nil_append, l1]; omega) rfl rfl
          have q2 : HB.le H3 := (k2.trans k3).le (Nat.le_refl _)
          have n3 := q2.next
          obtain ⟨v3, H4, e3, gr3, k4⟩ := copied (bytes := 32) ((w2.le kB).le q2) (by omega) (by omega) (map_oneT L n (L.length - n)) (by rw [l2]; omega) (by rw [l2]; omega) gr2 n3 (by rw [l2, List.length_append, List.nil_append, l1]; simp; omega) (by rw [l2, List.length_append, List.nil_append, l1]; simp; omega)
          have f40 := ((w2.le kB).le q2).first (by omega)
          have q3 : HB.le H4 := ((k2.trans k3).trans k4).le (Nat.le_refl _)
          rw [l1] at e1 f31
          rw [l2] at e3 f40
          obtain ⟨F1, hF1⟩ : ∃ F, F = (((L.map rowT).drop 0).take n).flatten := ⟨_, rfl⟩
          obtain ⟨F2, hF2⟩ : ∃ F, F = (((L.map rowT).drop n).take (L.length - n)).flatten := ⟨_, rfl⟩
          rw [← hF1] at e1 f31
          rw [← hF2] at e3 f40
          have hfin : [] ++ ((L.map rowT).drop 0).take n ++ [[.int .i64 x.seg, .int .i64 x.size, .int .i64 x.live, .int .i64 x.born]] ++ ((L.map rowT).drop n).take (L.length - n) = (L.take n ++ x :: L.drop n).map rowT := by
            have : L.length - n = (L.drop n).length := by simp
            rw [List.drop_zero, ← List.map_take, ← List.map_drop, ← List.map_take, this, List.take_length]
            simp [rowT]
          rw [hfin] at gr3
          have hnI : (n : Int) ≤ (L.length : Int) := by omega
          simp -implicitDefEqProofs [J0,J1,J2,J3,J4,J5,J6,J7,J8,J9,Ja,Jb,Jc,Jd,Je,Jf,Jg,Jh,Ji,Jj,Jk,Jl,Jm,Jn,Jo,Jp,Jq,Jr,Js,Jt,Ju,Jv,Jw,Jx,Jy,Jz,JA,JB,JC,JD,JE,JF,JG,JH,JI,JJ,JK,JL,JM,JN,JO,JP,stillI,IOp.kind,JQ,JR,JS,JT,JU,JV,JW,JX,JY,JZ,Y0,Y1,Y2,Y3,Y4,Y5,Y6,Y7,Y8,Y9,Ya,Yb,Yc,Yd,Ye,Yf,Yg,Yh,Yi,Yj,Yk,Yl,Ym,Yn,ial,Yo,Yp,Yq,Yr,Ys,Yt,Yu,Yv,ires,iresL,ires1,Yw,Yx,Yy,Yz,YA,YB,bin2,YC,YD,YE,YF,YG,YH,YI,YJ,YK,YL,YM,YN,YO,YP,YQ,YR,un1,shOk,eqL,eq1,fillL,putAt,IHeap.load1,IHeap.loadL,IHeap.storeL,YS,YT,YU,YV,YW,YX,YY,YZ,B0,B1,B2,B3,B4,B5,B6,B7,B8,B9,Ba,Bb,Bc,Bd,Be,Bf,Bg,Bh,Bi,Bj,Bk,Bl,Bm, boundsI, natI, hple, hnI, s31, s40, g1, ← hHB, lenOfI, f31, e1, f37, e2, f40, e3, gx2, stillI]
          exact hK _ _ ((k01.trans kB).trans q3) gr3.slw (.inr (gr3.blk.weak (by omega) (Nat.le_refl _)))

include hR in
theorem RDrop_ok26 {u : Value} {L : List UseD} {s : Int} (hu : SlW H 4 u (L.map rowT)) (hl : L.length ≤ 1000000)
    (hK : ∀ v H', H.le H' → SlW H' 4 v ((dropT L s).1.map rowT) → (v = u ∨ Blk H.next H'.next v) → K (.tuple #[v, .bool (dropT L s).2]) H') :
    c.C (c.F n_hurdleref26_Drop) [u, .int .i64 s] H K := by
  refine c.enter hR.hurdleref26_Drop rfl ?_
  unfold dropT at hK
  simp -implicitDefEqProofs [J0,J1,J2,J3,J4,J5,J6,J7,J8,J9,Ja,Jb,Jc,Jd,Je,Jf,Jg,Jh,Ji,Jj,Jk,Jl,Jm,Jn,Jo,Jp,Jq,Jr,Js,Jt,Ju,Jv,Jw,Jx,Jy,Jz,JA,JB,JC,JD,JE,JF,JG,JH,JI,JJ,JK,JL,JM,JN,JO,JP,stillI,IOp.kind,JQ,JR,JS,JT,JU,JV,JW,JX,JY,JZ,Y0,Y1,Y2,Y3,Y4,Y5,Y6,Y7,Y8,Y9,Ya,Yb,Yc,Yd,Ye,Yf,Yg,Yh,Yi,Yj,Yk,Yl,Ym,Yn,ial,Yo,Yp,Yq,Yr,Ys,Yt,Yu,Yv,ires,iresL,ires1,Yw,Yx,Yy,Yz,YA,YB,bin2,YC,YD,YE,YF,YG,YH,YI,YJ,YK,YL,YM,YN,YO,YP,YQ,YR,un1,shOk,eqL,eq1,fillL,putAt,IHeap.load1,IHeap.loadL,IHeap.storeL,YS,YT,YU,YV,YW,YX,YY,YZ,B0,B1,B2,B3,B4,B5,B6,B7,B8,B9,Ba,Bb,Bc,Bd,Be,Bf,Bg,Bh,Bi,Bj,Bk,Bl,Bm, c_hurdleref26_Drop]
  refine call_of (Rfind_ok26 c hR (s := s) hu.1 hl ?_)
  cases ht : thereT L s with
  | false =>
    rw [if_neg (by rw [ht]; simp)] at hK
    simp -implicitDefEqProofs [J0,J1,J2,J3,J4,J5,J6,J7,J8,J9,Ja,Jb,Jc,Jd,Je,Jf,Jg,Jh,Ji,Jj,Jk,Jl,Jm,Jn,Jo,Jp,Jq,Jr,Js,Jt,Ju,Jv,Jw,Jx,Jy,Jz,JA,JB,JC,JD,JE,JF,JG,JH,JI,JJ,JK,JL,JM,JN,JO,JP,stillI,IOp.kind,JQ,JR,JS,JT,JU,JV,JW,JX,JY,JZ,Y0,Y1,Y2,Y3,Y4,Y5,Y6,Y7,Y8,Y9,Ya,Yb,Yc,Yd,Ye,Yf,Yg,Yh,Yi,Yj,Yk,Yl,Ym,Yn,ial,Yo,Yp,Yq,Yr,Ys,Yt,Yu,Yv,ires,iresL,ires1,Yw,Yx,Yy,Yz,YA,YB,bin2,YC,YD,YE,YF,YG,YH,YI,YJ,YK,YL,YM,YN,YO,YP,YQ,YR,un1,shOk,eqL,eq1,fillL,putAt,IHeap.load1,IHeap.loadL,IHeap.storeL,YS,YT,YU,YV,YW,YX,YY,YZ,B0,B1,B2,B3,B4,B5,B6,B7,B8,B9,Ba,Bb,Bc,Bd,Be,Bf,Bg,Bh,Bi,Bj,Bk,Bl,Bm]
    exact hK _ _ (IHeap.le_refl _) hu (.inl rfl)
  | true =>
    rw [if_pos ht] at hK
    obtain ⟨x, hat, hxs⟩ := thereT_at ht
    obtain ⟨hlt, _⟩ := List.getElem?_eq_some_iff.1 hat
    obtain ⟨n, hn⟩ : ∃ n, n = posT s L := ⟨_, rfl⟩
    rw [← hn] at hat hlt hK ⊢
    have hu2 := hu
    obtain ⟨a, cap, rfl⟩ := hu.len
    rw [List.length_map] at hu2 ⊢
    obtain ⟨a1, c1, s31, w1⟩ := cutI hu2 (i := 0) (j := n) (by omega) (by omega) (by rw [List.length_map]; omega)
    obtain ⟨a2, c2, s40, w2⟩ := cutI hu2 (i := n + 1) (j := L.length) (by omega) hlt (by rw [List.length_map]; exact Nat.le_refl _)
    rw [Nat.sub_zero] at s31 w1
    have l1 : (((L.map rowT).drop 0).take n).length = n := by simp; omega
    have l2 : (((L.map rowT).drop (n + 1)).take (L.length - (n + 1))).length = L.length - (n + 1) := by simp
    obtain ⟨v1, H1, e1, gr1, k1⟩ := copied (bytes := 32) w1 (by omega) (by omega) (map_oneT L 0 n) (by rw [l1]; omega) (by rw [l1]; omega) (Grow.nil H H.next 4) (Nat.le_refl _) (by rw [l1]; simp; omega) (by rw [l1]; simp; omega)
    have f31 := w1.first (by omega)
    have q1 : H.le H1 := k1.le (Nat.le_refl _)
    have n1 := q1.next
    obtain ⟨v3, H3, e3, gr3, k3⟩ := copied (bytes := 32) (w2.le q1) (by omega) (by omega) (map_oneT L (n + 1) (L.length - (n + 1))) (by rw [l2]; omega) (by rw [l2]; omega) gr1 n1 (by rw [l2, List.nil_append, l1]; omega) (by rw [l2, List.nil_append, l1]; omega)
    have f40 := (w2.le q1).first (by omega)
    have q3 : H.le H3 := (k1.trans k3).le (Nat.le_refl _)
    rw [l1] at e1 f31
    rw [l2] at e3 f40
    obtain ⟨F1, hF1⟩ : ∃ F, F = (((L.map rowT).drop 0).take n).flatten := ⟨_, rfl⟩
    obtain ⟨F2, hF2⟩ : ∃ F, F = (((L.map rowT).drop (n + 1)).take (L.length - (n + 1))).flatten := ⟨_, rfl⟩
    rw [← hF1] at e1 f31
    rw [← hF2] at e3 f40
    have hfin : [] ++ ((L.map rowT).drop 0).take n ++ ((L.map rowT).drop (n + 1)).take (L.length - (n + 1)) = (L.eraseIdx n).map rowT := by
      have : L.length - (n + 1) = (L.drop (n + 1)).length := by simp
      rw [List.drop_zero, ← List.map_take, ← List.map_drop, ← List.map_take, this, List.take_length, List.eraseIdx_eq_take_drop_succ]
      simp
    rw [hfin] at gr3
    have hw : IntKind.i64.wrap ((n : Int) + 1) = (n : Int) + 1 := wrap64 (by omega) (by omega)
    have hple : n ≤ L.length := by omega
    have hnI : (n : Int) ≤ (L.length : Int) := by omega
    have hnI2 : (n : Int) + 1 ≤ (L.length : Int) := by omega
    have hn1 : n + 1 ≤ L.length := hlt
    have z1 : (0 : Int) ≤ (n : Int) + 1 := by omega
    have z2 : ((n : Int) + 1).toNat = n + 1 := by omega
    simp -implicitDefEqProofs [J0,J1,J2,J3,J4,J5,J6,J7,J8,J9,Ja,Jb,Jc,Jd,Je,Jf,Jg,Jh,Ji,Jj,Jk,Jl,Jm,Jn,Jo,Jp,Jq,Jr,Js,Jt,Ju,Jv,Jw,Jx,Jy,Jz,JA,JB,JC,JD,JE,JF,JG,JH,JI,JJ,JK,JL,JM,JN,JO,JP,stillI,IOp.kind,JQ,JR,JS,JT,JU,JV,JW,JX,JY,JZ,Y0,Y1,Y2,Y3,Y4,Y5,Y6,Y7,Y8,Y9,Ya,Yb,Yc,Yd,Ye,Yf,Yg,Yh,Yi,Yj,Yk,Yl,Ym,Yn,ial,Yo,Yp,Yq,Yr,Ys,Yt,Yu,Yv,ires,iresL,ires1,Yw,Yx,Yy,Yz,YA,YB,bin2,YC,YD,YE,YF,YG,YH,YI,YJ,YK,YL,YM,YN,YO,YP,YQ,YR,un1,shOk,eqL,eq1,fillL,putAt,IHeap.load1,IHeap.loadL,IHeap.storeL,YS,YT,YU,YV,YW,YX,YY,YZ,B0,B1,B2,B3,B4,B5,B6,B7,B8,B9,Ba,Bb,Bc,Bd,Be,Bf,Bg,Bh,Bi,Bj,Bk,Bl,Bm, boundsI, natI, hple, hlt, hn1, hnI, hnI2, z1, z2, hw, s31, s40, lenOfI, f31, e1, f40, e3, stillI]
    exact hK _ _ q3 gr3.slw (.inr gr3.blk)

include hR in
theorem RDead_ok26 {u : Value} {L : List UseD} {s n : Int} (hu : SlW H 4 u (L.map rowT)) (hl : L.length ≤ 1000000) (ho : ∀ e ∈ L, okT e)
    (hK : ∀ v H', H.le H' → SlW H' 4 v ((deadT L s n).1.map rowT) → (v = u ∨ Blk H.next H'.next v) → K (.tuple #[v, .int .i64 (deadT L s n).2]) H') :
    c.C (c.F n_hurdleref26_Dead) [u, .int .i64 s, .int .i64 n] H K := by
  refine c.enter hR.hurdleref26_Dead rfl ?_
  unfold deadT at hK
  simp -implicitDefEqProofs [J0,J1,J2,J3,J4,J5,J6,J7,J8,J9,Ja,Jb,Jc,Jd,Je,Jf,Jg,Jh,Ji,Jj,Jk,Jl,Jm,Jn,Jo,Jp,Jq,Jr,Js,Jt,Ju,Jv,Jw,Jx,Jy,Jz,JA,JB,JC,JD,JE,JF,JG,JH,JI,JJ,JK,JL,JM,JN,JO,JP,stillI,IOp.kind,JQ,JR,JS,JT,JU,JV,JW,JX,JY,JZ,Y0,Y1,Y2,Y3,Y4,Y5,Y6,Y7,Y8,Y9,Ya,Yb,Yc,Yd,Ye,Yf,Yg,Yh,Yi,Yj,Yk,Yl,Ym,Yn,ial,Yo,Yp,Yq,Yr,Ys,Yt,Yu,Yv,ires,iresL,ires1,Yw,Yx,Yy,Yz,YA,YB,bin2,YC,YD,YE,YF,YG,YH,YI,YJ,YK,YL,YM,YN,YO,YP,YQ,YR,un1,shOk,eqL,eq1,fillL,putAt,IHeap.load1,IHeap.loadL,IHeap.storeL,YS,YT,YU,YV,YW,YX,YY,YZ,B0,B1,B2,B3,B4,B5,B6,B7,B8,B9,Ba,Bb,Bc,Bd,Be,Bf,Bg,Bh,Bi,Bj,Bk,Bl,Bm, c_hurdleref26_Dead]
  refine call_of (Rfind_ok26 c hR (s := s) hu.1 hl ?_)
  by_cases h1 : n < 0
  · rw [if_pos h1] at hK
    simp -implicitDefEqProofs [J0,J1,J2,J3,J4,J5,J6,J7,J8,J9,Ja,Jb,Jc,Jd,Je,Jf,Jg,Jh,Ji,Jj,Jk,Jl,Jm,Jn,Jo,Jp,Jq,Jr,Js,Jt,Ju,Jv,Jw,Jx,Jy,Jz,JA,JB,JC,JD,JE,JF,JG,JH,JI,JJ,JK,JL,JM,JN,JO,JP,stillI,IOp.kind,JQ,JR,JS,JT,JU,JV,JW,JX,JY,JZ,Y0,Y1,Y2,Y3,Y4,Y5,Y6,Y7,Y8,Y9,Ya,Yb,Yc,Yd,Ye,Yf,Yg,Yh,Yi,Yj,Yk,Yl,Ym,Yn,ial,Yo,Yp,Yq,Yr,Ys,Yt,Yu,Yv,ires,iresL,ires1,Yw,Yx,Yy,Yz,YA,YB,bin2,YC,YD,YE,YF,YG,YH,YI,YJ,YK,YL,YM,YN,YO,YP,YQ,YR,un1,shOk,eqL,eq1,fillL,putAt,IHeap.load1,IHeap.loadL,IHeap.storeL,YS,YT,YU,YV,YW,YX,YY,YZ,B0,B1,B2,B3,B4,B5,B6,B7,B8,B9,Ba,Bb,Bc,Bd,Be,Bf,Bg,Bh,Bi,Bj,Bk,Bl,Bm, h1]
    exact hK _ _ (IHeap.le_refl _) hu (.inl rfl)
  · rw [if_neg h1] at hK
    cases ht : thereT L s with
    | false =>
      rw [if_pos ht] at hK
      simp -implicitDefEqProofs [J0,J1,J2,J3,J4,J5,J6,J7,J8,J9,Ja,Jb,Jc,Jd,Je,Jf,Jg,Jh,Ji,Jj,Jk,Jl,Jm,Jn,Jo,Jp,Jq,Jr,Js,Jt,Ju,Jv,Jw,Jx,Jy,Jz,JA,JB,JC,JD,JE,JF,JG,JH,JI,JJ,JK,JL,JM,JN,JO,JP,stillI,IOp.kind,JQ,JR,JS,JT,JU,JV,JW,JX,JY,JZ,Y0,Y1,Y2,Y3,Y4,Y5,Y6,Y7,Y8,Y9,Ya,Yb,Yc,Yd,Ye,Yf,Yg,Yh,Yi,Yj,Yk,Yl,Ym,Yn,ial,Yo,Yp,Yq,Yr,Ys,Yt,Yu,Yv,ires,iresL,ires1,Yw,Yx,Yy,Yz,YA,YB,bin2,YC,YD,YE,YF,YG,YH,YI,YJ,YK,YL,YM,YN,YO,YP,YQ,YR,un1,shOk,eqL,eq1,fillL,putAt,IHeap.load1,IHeap.loadL,IHeap.storeL,YS,YT,YU,YV,YW,YX,YY,YZ,B0,B1,B2,B3,B4,B5,B6,B7,B8,B9,Ba,Bb,Bc,Bd,Be,Bf,Bg,Bh,Bi,Bj,Bk,Bl,Bm, h1]
      exact hK _ _ (IHeap.le_refl _) hu (.inl rfl)
    | true =>
      rw [if_neg (by rw [ht]; simp)] at hK
      obtain ⟨x, hat, hxs⟩ := thereT_at ht
      have hlv : liveAt L s = x.live := by simp [liveAt, hat]
      rw [hlv] at hK
      obtain ⟨hlt, _⟩ := List.getElem?_eq_some_iff.1 hat
      obtain ⟨i, hi⟩ : ∃ i, i = posT s L := ⟨_, rfl⟩
      rw [← hi] at hat hlt hK ⊢
      have hiI : (i : Int) < (L.length : Int) := by omega
      have hxo := okT_b (ho x (List.mem_of_getElem? hat)).1
      obtain ⟨b, o, cp, cs, ro, ea, hb, hget, hrl, hrow, hbd⟩ := hu.1.at (i := i) (r := rowT x) (by simp [hat])
      rw [List.length_map] at ea
      subst ea
      have r2 := row_getT hrow 2 (by omega)
      simp only [rowT, List.getElem?_cons_succ, List.getElem?_cons_zero] at r2
      by_cases h2 : x.live < n
      · rw [if_pos h2] at hK
        simp -implicitDefEqProofs [J0,J1,J2,J3,J4,J5,J6,J7,J8,J9,Ja,Jb,Jc,Jd,Je,Jf,Jg,Jh,Ji,Jj,Jk,Jl,Jm,Jn,Jo,Jp,Jq,Jr,Js,Jt,Ju,Jv,Jw,Jx,Jy,Jz,JA,JB,JC,JD,JE,JF,JG,JH,JI,JJ,JK,JL,JM,JN,JO,JP,stillI,IOp.kind,JQ,JR,JS,JT,JU,JV,JW,JX,JY,JZ,Y0,Y1,Y2,Y3,Y4,Y5,Y6,Y7,Y8,Y9,Ya,Yb,Yc,Yd,Ye,Yf,Yg,Yh,Yi,Yj,Yk,Yl,Ym,Yn,ial,Yo,Yp,Yq,Yr,Ys,Yt,Yu,Yv,ires,iresL,ires1,Yw,Yx,Yy,Yz,YA,YB,bin2,YC,YD,YE,YF,YG,YH,YI,YJ,YK,YL,YM,YN,YO,YP,YQ,YR,un1,shOk,eqL,eq1,fillL,putAt,IHeap.load1,IHeap.loadL,IHeap.storeL,YS,YT,YU,YV,YW,YX,YY,YZ,B0,B1,B2,B3,B4,B5,B6,B7,B8,B9,Ba,Bb,Bc,Bd,Be,Bf,Bg,Bh,Bi,Bj,Bk,Bl,Bm, h1, hlt, hiI, hget, r2, h2]
        exact hK _ _ (IHeap.le_refl _) hu (.inl rfl)
      · rw [if_neg h2] at hK
        have hfu := hu.first (by omega)
        rw [List.length_map] at hfu
        obtain ⟨v1, H1, e1, gr1, k1⟩ := copied (bytes := 32) hu (by omega) (by omega) (rowT_one L) (by rw [List.length_map]; omega) (by rw [List.length_map]; omega) (Grow.nil H H.next 4) (Nat.le_refl _) (by rw [List.length_map]; simp; omega) (by rw [List.length_map]; simp; omega)
        have q1 : H.le H1 := k1.le (Nat.le_refl _)
        rw [List.nil_append] at gr1
        rw [List.length_map] at e1
        obtain ⟨F1, hF1⟩ : ∃ F, F = (L.map rowT).flatten := ⟨_, rfl⟩
        rcases gr1 with ⟨hr0, _⟩ | ⟨h4, blk, q2, q3, rfl, q4⟩
        · exfalso
          have hL0 : L = [] := by simpa using hr0
          rw [hL0] at hlt; simp at hlt
        · rw [List.length_map] at e1
          have hfl := flat_len (L.map rowT) 4 (rowT_four _)
          rw [List.length_map] at hfl
          rw [← hF1] at e1 q4 hfl hfu
          have hrow1 : (F1.drop (i * 4)).take 4 = rowT x := by
            obtain ⟨f1, f2⟩ := flat_row (L.map rowT) 4 i (rowT x) (rowT_four _) (by simp [hat])
            rw [hF1]; exact f1
          have r3 := row_getT hrow1 2 (by omega)
          simp only [rowT, List.getElem?_cons_succ, List.getElem?_cons_zero] at r3
          have hw : IntKind.i64.wrap (x.live - n) = x.live - n := wrap64 (by omega) (by omega)
          have k4 : i * 4 + 2 + 1 ≤ F1.length := by omega
          obtain ⟨cs2, hcs2⟩ : ∃ z, z = List.take (i * 4 + 2) F1 ++ (Value.int .i64 (x.live - n) :: List.drop (i * 4 + 2 + 1) F1) := ⟨_, rfl⟩
          have fo := hcs2.symm
          have l2 : cs2.length = F1.length := by rw [hcs2]; simp only [List.length_append, List.length_cons, List.length_take, List.length_drop]; omega
          have hrows := set_liveT (n := n) hat (by rw [← hF1]; exact List.take_of_length_le (by omega)) (by omega) hcs2
          have hall : cs2 = ((L.modify i fun x => { x with live := x.live - n }).map rowT).flatten := by
            rw [← hrows, List.take_of_length_le (by omega)]
          simp -implicitDefEqProofs [J0,J1,J2,J3,J4,J5,J6,J7,J8,J9,Ja,Jb,Jc,Jd,Je,Jf,Jg,Jh,Ji,Jj,Jk,Jl,Jm,Jn,Jo,Jp,Jq,Jr,Js,Jt,Ju,Jv,Jw,Jx,Jy,Jz,JA,JB,JC,JD,JE,JF,JG,JH,JI,JJ,JK,JL,JM,JN,JO,JP,stillI,IOp.kind,JQ,JR,JS,JT,JU,JV,JW,JX,JY,JZ,Y0,Y1,Y2,Y3,Y4,Y5,Y6,Y7,Y8,Y9,Ya,Yb,Yc,Yd,Ye,Yf,Yg,Yh,Yi,Yj,Yk,Yl,Ym,Yn,ial,Yo,Yp,Yq,Yr,Ys,Yt,Yu,Yv,ires,iresL,ires1,Yw,Yx,Yy,Yz,YA,YB,bin2,YC,YD,YE,YF,YG,YH,YI,YJ,YK,YL,YM,YN,YO,YP,YQ,YR,un1,shOk,eqL,eq1,fillL,putAt,IHeap.load1,IHeap.loadL,IHeap.storeL,YS,YT,YU,YV,YW,YX,YY,YZ,B0,B1,B2,B3,B4,B5,B6,B7,B8,B9,Ba,Bb,Bc,Bd,Be,Bf,Bg,Bh,Bi,Bj,Bk,Bl,Bm, h1, hlt, hiI, hget, r2, h2, lenOfI, hfu, e1, q4, r3, hw, k4, fo]
          have hown : Own (H1.set blk (.cells cs2 false)) H.next 4 (.slice (some ⟨blk, 0, none⟩) L.length (UNK + 4)) ((L.modify i fun x => { x with live := x.live - n }).map rowT) :=
            ⟨rowT_four _, blk, q2, by simp only [YV]; exact q3, by rw [List.length_map, List.length_modify], by rw [YT, if_pos rfl, hall]⟩
          exact hK _ _ (q1.set q2 _) hown.slw (.inr (Grow.blk (.inr hown)))

end
end Go.Proofs.YtdfjicnjcibdaaaI
