/- Directories: the document's lists, added to and cut. -/
import Derived.Test.YtfegliplajdgmaaDirG
namespace Go.Proofs.YtfegliplajdgmaaI
set_option linter.unusedSimpArgs false
set_option linter.unusedVariables false
open Go

theorem ino_le {L : List EntD} {s : List UInt8} {ino : Int} : (addE L s ino).1.length ≤ L.length + 1 := by
  unfold addE
  split
  · exact Nat.le_succ _
  · split
    · exact Nat.le_succ _
    · split
      · exact Nat.le_succ _
      · have := posE_le s L; simp only [List.length_append, List.length_take, List.length_cons, List.length_drop]; omega

section
variable (c : Ctx) (hR : HasRef37 c) {H : IHeap} {K : Value → IHeap → Prop}

include hR in
theorem RAdd_ok {u : Value} {L : List EntD} {s : List UInt8} {ino : Int} (hu : SlW H 2 u (L.map rowE)) (hl : L.length ≤ 1000000) (hsl : s.length ≤ 1000000)
    (hK : ∀ v H', H.le H' → SlW H' 2 v ((addE L s ino).1.map rowE) → (v = u ∨ Blk H.next H'.next v) → K (.tuple #[v, .int .i64 (addE L s ino).2]) H') :
    c.C (c.F n_hurdleref37_Add) [u, strV s, .int .i64 ino] H K := by
  refine c.enter hR.hurdleref37_Add rfl ?_
  unfold addE at hK
  by_cases h1 : ino < 1
  · rw [if_pos (.inl h1)] at hK
    simp -implicitDefEqProofs [J0,J1,J2,J3,J4,J5,J6,J7,J8,J9,Ja,Jb,Jc,Jd,Je,Jf,Jg,Jh,Ji,Jj,Jk,Jl,Jm,Jn,Jo,Jp,Jq,Jr,Js,Jt,Ju,Jv,Jw,Jx,Jy,Jz,JA,JB,JC,JD,JE,JF,JG,JH,JI,JJ,JK,JL,JM,JN,JO,JP,stillI,IOp.kind,JQ,JR,JS,JT,JU,JV,JW,JX,JY,JZ,Y0,Y1,Y2,Y3,Y4,Y5,Y6,Y7,Y8,Y9,Ya,Yb,Yc,Yd,Ye,Yf,Yg,Yh,Yi,Yj,Yk,Yl,Ym,Yn,ial,Yo,Yp,Yq,Yr,Ys,Yt,Yu,Yv,ires,iresL,ires1,Yw,Yx,Yy,Yz,YA,YB,bin2,YC,YD,YE,YF,YG,YH,YI,YJ,YK,YL,YM,YN,YO,YP,YQ,YR,un1,shOk,eqL,eq1,fillL,putAt,IHeap.load1,IHeap.loadL,IHeap.storeL,YS,YT,YU,YV,YW,YX,YY,YZ,B0,B1,B2,B3,B4,B5,B6,B7,B8,B9,Ba,Bb,Bc,Bd,Be,Bf,Bg,Bh,Bi,Bj,Bk,Bl,Bm, c_hurdleref37_Add, h1]
    exact hK _ _ (IHeap.le_refl _) hu (.inl rfl)
  · by_cases h2 : 256 ≤ ino
    · rw [if_pos (.inr h2)] at hK
      simp -implicitDefEqProofs [J0,J1,J2,J3,J4,J5,J6,J7,J8,J9,Ja,Jb,Jc,Jd,Je,Jf,Jg,Jh,Ji,Jj,Jk,Jl,Jm,Jn,Jo,Jp,Jq,Jr,Js,Jt,Ju,Jv,Jw,Jx,Jy,Jz,JA,JB,JC,JD,JE,JF,JG,JH,JI,JJ,JK,JL,JM,JN,JO,JP,stillI,IOp.kind,JQ,JR,JS,JT,JU,JV,JW,JX,JY,JZ,Y0,Y1,Y2,Y3,Y4,Y5,Y6,Y7,Y8,Y9,Ya,Yb,Yc,Yd,Ye,Yf,Yg,Yh,Yi,Yj,Yk,Yl,Ym,Yn,ial,Yo,Yp,Yq,Yr,Ys,Yt,Yu,Yv,ires,iresL,ires1,Yw,Yx,Yy,Yz,YA,YB,bin2,YC,YD,YE,YF,YG,YH,YI,YJ,YK,YL,YM,YN,YO,YP,YQ,YR,un1,shOk,eqL,eq1,fillL,putAt,IHeap.load1,IHeap.loadL,IHeap.storeL,YS,YT,YU,YV,YW,YX,YY,YZ,B0,B1,B2,B3,B4,B5,B6,B7,B8,B9,Ba,Bb,Bc,Bd,Be,Bf,Bg,Bh,Bi,Bj,Bk,Bl,Bm, c_hurdleref37_Add, h1, h2]
      exact hK _ _ (IHeap.le_refl _) hu (.inl rfl)
    · rw [if_neg (by omega)] at hK
      simp -implicitDefEqProofs [J0,J1,J2,J3,J4,J5,J6,J7,J8,J9,Ja,Jb,Jc,Jd,Je,Jf,Jg,Jh,Ji,Jj,Jk,Jl,Jm,Jn,Jo,Jp,Jq,Jr,Js,Jt,Ju,Jv,Jw,Jx,Jy,Jz,JA,JB,JC,JD,JE,JF,JG,JH,JI,JJ,JK,JL,JM,JN,JO,JP,stillI,IOp.kind,JQ,JR,JS,JT,JU,JV,JW,JX,JY,JZ,Y0,Y1,Y2,Y3,Y4,Y5,Y6,Y7,Y8,Y9,Ya,Yb,Yc,Yd,Ye,Yf,Yg,Yh,Yi,Yj,Yk,Yl,Ym,Yn,ial,Yo,Yp,Yq,Yr,Ys,Yt,Yu,Yv,ires,iresL,ires1,Yw,Yx,Yy,Yz,YA,YB,bin2,YC,YD,YE,YF,YG,YH,YI,YJ,YK,YL,YM,YN,YO,YP,YQ,YR,un1,shOk,eqL,eq1,fillL,putAt,IHeap.load1,IHeap.loadL,IHeap.storeL,YS,YT,YU,YV,YW,YX,YY,YZ,B0,B1,B2,B3,B4,B5,B6,B7,B8,B9,Ba,Bb,Bc,Bd,Be,Bf,Bg,Bh,Bi,Bj,Bk,Bl,Bm, c_hurdleref37_Add, h1, h2]
      refine call_of (RName_ok c hR hsl ?_)
      cases hn : nameB s with
      | false =>
        rw [if_pos hn] at hK
        simp -implicitDefEqProofs [J0,J1,J2,J3,J4,J5,J6,J7,J8,J9,Ja,Jb,Jc,Jd,Je,Jf,Jg,Jh,Ji,Jj,Jk,Jl,Jm,Jn,Jo,Jp,Jq,Jr,Js,Jt,Ju,Jv,Jw,Jx,Jy,Jz,JA,JB,JC,JD,JE,JF,JG,JH,JI,JJ,JK,JL,JM,JN,JO,JP,stillI,IOp.kind,JQ,JR,JS,JT,JU,JV,JW,JX,JY,JZ,Y0,Y1,Y2,Y3,Y4,Y5,Y6,Y7,Y8,Y9,Ya,Yb,Yc,Yd,Ye,Yf,Yg,Yh,Yi,Yj,Yk,Yl,Ym,Yn,ial,Yo,Yp,Yq,Yr,Ys,Yt,Yu,Yv,ires,iresL,ires1,Yw,Yx,Yy,Yz,YA,YB,bin2,YC,YD,YE,YF,YG,YH,YI,YJ,YK,YL,YM,YN,YO,YP,YQ,YR,un1,shOk,eqL,eq1,fillL,putAt,IHeap.load1,IHeap.loadL,IHeap.storeL,YS,YT,YU,YV,YW,YX,YY,YZ,B0,B1,B2,B3,B4,B5,B6,B7,B8,B9,Ba,Bb,Bc,Bd,Be,Bf,Bg,Bh,Bi,Bj,Bk,Bl,Bm]
        exact hK _ _ (IHeap.le_refl _) hu (.inl rfl)
      | true =>
        rw [if_neg (by rw [hn]; simp)] at hK
        simp -implicitDefEqProofs [J0,J1,J2,J3,J4,J5,J6,J7,J8,J9,Ja,Jb,Jc,Jd,Je,Jf,Jg,Jh,Ji,Jj,Jk,Jl,Jm,Jn,Jo,Jp,Jq,Jr,Js,Jt,Ju,Jv,Jw,Jx,Jy,Jz,JA,JB,JC,JD,JE,JF,JG,JH,JI,JJ,JK,JL,JM,JN,JO,JP,stillI,IOp.kind,JQ,JR,JS,JT,JU,JV,JW,JX,JY,JZ,Y0,Y1,Y2,Y3,Y4,Y5,Y6,Y7,Y8,Y9,Ya,Yb,Yc,Yd,Ye,Yf,Yg,Yh,Yi,Yj,Yk,Yl,Ym,Yn,ial,Yo,Yp,Yq,Yr,Ys,Yt,Yu,Yv,ires,iresL,ires1,Yw,Yx,Yy,Yz,YA,YB,bin2,YC,YD,YE,YF,YG,YH,YI,YJ,YK,YL,YM,YN,YO,YP,YQ,YR,un1,shOk,eqL,eq1,fillL,putAt,IHeap.load1,IHeap.loadL,IHeap.storeL,YS,YT,YU,YV,YW,YX,YY,YZ,B0,B1,B2,B3,B4,B5,B6,B7,B8,B9,Ba,Bb,Bc,Bd,Be,Bf,Bg,Bh,Bi,Bj,Bk,Bl,Bm]
        refine call_of (Rfind_ok c hR (s := s) hu.1 hl ?_)
        cases ht : thereE L s with
        | true =>
          rw [if_pos ht] at hK
          simp -implicitDefEqProofs [J0,J1,J2,J3,J4,J5,J6,J7,J8,J9,Ja,Jb,Jc,Jd,Je,Jf,Jg,Jh,Ji,Jj,Jk,Jl,Jm,Jn,Jo,Jp,Jq,Jr,Js,Jt,Ju,Jv,Jw,Jx,Jy,Jz,JA,JB,JC,JD,JE,JF,JG,JH,JI,JJ,JK,JL,JM,JN,JO,JP,stillI,IOp.kind,JQ,JR,JS,JT,JU,JV,JW,JX,JY,JZ,Y0,Y1,Y2,Y3,Y4,Y5,Y6,Y7,Y8,Y9,Ya,Yb,Yc,Yd,Ye,Yf,Yg,Yh,Yi,Yj,Yk,Yl,Ym,Yn,ial,Yo,Yp,Yq,Yr,Ys,Yt,Yu,Yv,ires,iresL,ires1,Yw,Yx,Yy,Yz,YA,YB,bin2,YC,YD,YE,YF,YG,YH,YI,YJ,YK,YL,YM,YN,YO,YP,YQ,YR,un1,shOk,eqL,eq1,fillL,putAt,IHeap.load1,IHeap.loadL,IHeap.storeL,YS,YT,YU,YV,YW,YX,YY,YZ,B0,B1,B2,B3,B4,B5,B6,B7,B8,B9,Ba,Bb,Bc,Bd,Be,Bf,Bg,Bh,Bi,Bj,Bk,Bl,Bm]
          exact hK _ _ (IHeap.le_refl _) hu (.inl rfl)
        | false =>
          rw [if_neg (by rw [ht]; simp)] at hK
          have hple := posE_le s L
          obtain ⟨n, hn⟩ : ∃ n, n = posE s L := ⟨_, rfl⟩
          rw [← hn] at hple hK ⊢
          have hu2 := hu
          obtain ⟨a, cap, rfl⟩ := hu.len
          rw [List.length_map] at hu2 ⊢
          obtain ⟨a1, c1, s31, w1⟩ := cutI hu2 (i := 0) (j := n) (by omega) (by omega) (by rw [List.length_map]; exact hple)
          obtain ⟨a2, c2, s40, w2⟩ := cutI hu2 (i := n) (j := L.length) (by omega) hple (by rw [List.length_map]; exact Nat.le_refl _)
          rw [Nat.sub_zero] at s31 w1
          obtain ⟨HB, hHB⟩ : ∃ X : IHeap, X = H.alloc (.cells [strV s, .int .i64 ino] false) := ⟨_, rfl⟩
          have kB : H.le HB := by rw [hHB]; exact H.le_alloc _
          have nB : HB.next = H.next + 1 := by rw [hHB]; rfl
          have gB : HB.get H.next = some (.cells [strV s, .int .i64 ino] false) := by rw [hHB, YS, if_pos rfl]
          have l1 : (((L.map rowE).drop 0).take n).length = n := by simp; omega
          have l2 : (((L.map rowE).drop n).take (L.length - n)).length = L.length - n := by simp
          obtain ⟨v1, H1, e1, gr1, k1⟩ := copied (bytes := 24) (w1.le kB) (by omega) (by omega) (map_one L 0 n) (by rw [l1]; omega) (by rw [l1]; omega) (Grow.nil HB HB.next 2) (Nat.le_refl _) (by rw [l1]; simp; omega) (by rw [l1]; simp; omega)
          have f31 := (w1.le kB).first (by omega)
          have q1 : HB.le H1 := k1.le (Nat.le_refl _)
          have g1 := (q1.get H.next (by omega)).trans gB
          have n1 := q1.next
          have f37 : firstI H1 2 1 (.slice (some ⟨H.next, 0, none⟩) 1 1) = some [strV s, .int .i64 ino] := by simp [firstI, IHeap.loadL, g1]
          obtain ⟨v2, H2, e2, gr2, k2⟩ := gr1.append1 (bytes := 24) (new := [strV s, .int .i64 ino]) n1 (by omega) (by omega) (by rw [List.nil_append, l1]; omega) (by rw [List.nil_append, l1]; omega) rfl rfl
          have q2 : HB.le H2 := (k1.trans k2).le (Nat.le_refl _)
          have n2 := q2.next
          obtain ⟨v3, H3, e3, gr3, k3⟩ := copied (bytes := 24) ((w2.le kB).le q2) (by omega) (by omega) (map_one L n (L.length - n)) (by rw [l2]; omega) (by rw [l2]; omega) gr2 n2 (by rw [l2, List.length_append, List.nil_append, l1]; simp; omega) (by rw [l2, List.length_append, List.nil_append, l1]; simp; omega)
          have f40 := ((w2.le kB).le q2).first (by omega)
          have q3 : HB.le H3 := ((k1.trans k2).trans k3).le (Nat.le_refl _)
          rw [l1] at e1 f31
          rw [l2] at e3 f40
          obtain ⟨F1, hF1⟩ : ∃ F, F = (((L.map rowE).drop 0).take n).flatten := ⟨_, rfl⟩
          obtain ⟨F2, hF2⟩ : ∃ F, F = (((L.map rowE).drop n).take (L.length - n)).flatten := ⟨_, rfl⟩
          rw [← hF1] at e1 f31
          rw [← hF2] at e3 f40
          have hfin : [] ++ ((L.map rowE).drop 0).take n ++ [[strV s, .int .i64 ino]] ++ ((L.map rowE).drop n).take (L.length - n) = (L.take n ++ ⟨s, ino⟩ :: L.drop n).map rowE := by
            have : L.length - n = (L.drop n).length := by simp
            rw [List.drop_zero, ← List.map_take, ← List.map_drop, ← List.map_take, this, List.take_length]
            simp [rowE]
          rw [hfin] at gr3
          have hnI : (n : Int) ≤ (L.length : Int) := by omega
          simp -implicitDefEqProofs [J0,J1,J2,J3,J4,J5,J6,J7,J8,J9,Ja,Jb,Jc,Jd,Je,Jf,Jg,Jh,Ji,Jj,Jk,Jl,Jm,Jn,Jo,Jp,Jq,Jr,Js,Jt,Ju,Jv,Jw,Jx,Jy,Jz,JA,JB,JC,JD,JE,JF,JG,JH,JI,JJ,JK,JL,JM,JN,JO,JP,stillI,IOp.kind,JQ,JR,JS,JT,JU,JV,JW,JX,JY,JZ,Y0,Y1,Y2,Y3,Y4,Y5,Y6,Y7,Y8,Y9,Ya,Yb,Yc,Yd,Ye,Yf,Yg,Yh,Yi,Yj,Yk,Yl,Ym,Yn,ial,Yo,Yp,Yq,Yr,Ys,Yt,Yu,Yv,ires,iresL,ires1,Yw,Yx,Yy,Yz,YA,YB,bin2,YC,YD,YE,YF,YG,YH,YI,YJ,YK,YL,YM,YN,YO,YP,YQ,YR,un1,shOk,eqL,eq1,fillL,putAt,IHeap.load1,IHeap.loadL,IHeap.storeL,YS,YT,YU,YV,YW,YX,YY,YZ,B0,B1,B2,B3,B4,B5,B6,B7,B8,B9,Ba,Bb,Bc,Bd,Be,Bf,Bg,Bh,Bi,Bj,Bk,Bl,Bm, boundsI, natI, hple, hnI, s31, s40, ← hHB, lenOfI, f31, e1, f37, e2, f40, e3, stillI]
          exact hK _ _ (kB.trans q3) gr3.slw (.inr (gr3.blk.weak (by omega) (Nat.le_refl _)))

include hR in
theorem RRemove_ok {u : Value} {L : List EntD} {s : List UInt8} (hu : SlW H 2 u (L.map rowE)) (hl : L.length ≤ 1000000)
    (hK : ∀ v H', H.le H' → SlW H' 2 v ((remE L s).1.map rowE) → (v = u ∨ Blk H.next H'.next v) → K (.tuple #[v, .int .i64 (remE L s).2.1, .int .i64 (remE L s).2.2]) H') :
    c.C (c.F n_hurdleref37_Remove) [u, strV s] H K := by
  refine c.enter hR.hurdleref37_Remove rfl ?_
  unfold remE at hK
  simp -implicitDefEqProofs [J0,J1,J2,J3,J4,J5,J6,J7,J8,J9,Ja,Jb,Jc,Jd,Je,Jf,Jg,Jh,Ji,Jj,Jk,Jl,Jm,Jn,Jo,Jp,Jq,Jr,Js,Jt,Ju,Jv,Jw,Jx,Jy,Jz,JA,JB,JC,JD,JE,JF,JG,JH,JI,JJ,JK,JL,JM,JN,JO,JP,stillI,IOp.kind,JQ,JR,JS,JT,JU,JV,JW,JX,JY,JZ,Y0,Y1,Y2,Y3,Y4,Y5,Y6,Y7,Y8,Y9,Ya,Yb,Yc,Yd,Ye,Yf,Yg,Yh,Yi,Yj,Yk,Yl,Ym,Yn,ial,Yo,Yp,Yq,Yr,Ys,Yt,Yu,Yv,ires,iresL,ires1,Yw,Yx,Yy,Yz,YA,YB,bin2,YC,YD,YE,YF,YG,YH,YI,YJ,YK,YL,YM,YN,YO,YP,YQ,YR,un1,shOk,eqL,eq1,fillL,putAt,IHeap.load1,IHeap.loadL,IHeap.storeL,YS,YT,YU,YV,YW,YX,YY,YZ,B0,B1,B2,B3,B4,B5,B6,B7,B8,B9,Ba,Bb,Bc,Bd,Be,Bf,Bg,Bh,Bi,Bj,Bk,Bl,Bm, c_hurdleref37_Remove]
  refine call_of (Rfind_ok c hR (s := s) hu.1 hl ?_)
  cases ht : thereE L s with
  | false =>
    rw [if_neg (by rw [ht]; simp)] at hK
    simp -implicitDefEqProofs [J0,J1,J2,J3,J4,J5,J6,J7,J8,J9,Ja,Jb,Jc,Jd,Je,Jf,Jg,Jh,Ji,Jj,Jk,Jl,Jm,Jn,Jo,Jp,Jq,Jr,Js,Jt,Ju,Jv,Jw,Jx,Jy,Jz,JA,JB,JC,JD,JE,JF,JG,JH,JI,JJ,JK,JL,JM,JN,JO,JP,stillI,IOp.kind,JQ,JR,JS,JT,JU,JV,JW,JX,JY,JZ,Y0,Y1,Y2,Y3,Y4,Y5,Y6,Y7,Y8,Y9,Ya,Yb,Yc,Yd,Ye,Yf,Yg,Yh,Yi,Yj,Yk,Yl,Ym,Yn,ial,Yo,Yp,Yq,Yr,Ys,Yt,Yu,Yv,ires,iresL,ires1,Yw,Yx,Yy,Yz,YA,YB,bin2,YC,YD,YE,YF,YG,YH,YI,YJ,YK,YL,YM,YN,YO,YP,YQ,YR,un1,shOk,eqL,eq1,fillL,putAt,IHeap.load1,IHeap.loadL,IHeap.storeL,YS,YT,YU,YV,YW,YX,YY,YZ,B0,B1,B2,B3,B4,B5,B6,B7,B8,B9,Ba,Bb,Bc,Bd,Be,Bf,Bg,Bh,Bi,Bj,Bk,Bl,Bm]
    exact hK _ _ (IHeap.le_refl _) hu (.inl rfl)
  | true =>
    rw [if_pos ht] at hK
    obtain ⟨ino, hat⟩ := there_at ht
    have hino : inoE L s = ino := by simp [inoE, hat]
    rw [hino] at hK
    obtain ⟨hlt, _⟩ := List.getElem?_eq_some_iff.1 hat
    obtain ⟨n, hn⟩ : ∃ n, n = posE s L := ⟨_, rfl⟩
    rw [← hn] at hat hlt hK ⊢
    have hu2 := hu
    obtain ⟨a, cap, rfl⟩ := hu.len
    rw [List.length_map] at hu2 ⊢
    obtain ⟨b, o, cp, cs, ro, ea, hb, hget, hrl, hrow, hbd⟩ := hu.1.at (i := n) (r := rowE ⟨s, ino⟩) (by simp [hat])
    simp only [Value.slice.injEq] at ea
    obtain ⟨rfl, -, rfl⟩ := ea
    have r1 := row_get2 hrow 1 (by omega)
    simp only [rowE, List.getElem?_cons_succ, List.getElem?_cons_zero] at r1
    obtain ⟨a1, c1, s31, w1⟩ := cutI hu2 (i := 0) (j := n) (by omega) (by omega) (by rw [List.length_map]; omega)
    obtain ⟨a2, c2, s40, w2⟩ := cutI hu2 (i := n + 1) (j := L.length) (by omega) hlt (by rw [List.length_map]; exact Nat.le_refl _)
    rw [Nat.sub_zero] at s31 w1
    have l1 : (((L.map rowE).drop 0).take n).length = n := by simp; omega
    have l2 : (((L.map rowE).drop (n + 1)).take (L.length - (n + 1))).length = L.length - (n + 1) := by simp
    obtain ⟨v1, H1, e1, gr1, k1⟩ := copied (bytes := 24) w1 (by omega) (by omega) (map_one L 0 n) (by rw [l1]; omega) (by rw [l1]; omega) (Grow.nil H H.next 2) (Nat.le_refl _) (by rw [l1]; simp; omega) (by rw [l1]; simp; omega)
    have f31 := w1.first (by omega)
    have q1 : H.le H1 := k1.le (Nat.le_refl _)
    have n1 := q1.next
    obtain ⟨v3, H3, e3, gr3, k3⟩ := copied (bytes := 24) (w2.le q1) (by omega) (by omega) (map_one L (n + 1) (L.length - (n + 1))) (by rw [l2]; omega) (by rw [l2]; omega) gr1 n1 (by rw [l2, List.nil_append, l1]; omega) (by rw [l2, List.nil_append, l1]; omega)
    have f40 := (w2.le q1).first (by omega)
    have q3 : H.le H3 := (k1.trans k3).le (Nat.le_refl _)
    have hg1 := (q1.get b hb).trans hget
    have hg3 := (q3.get b hb).trans hget
    rw [l1] at e1 f31
    rw [l2] at e3 f40
    obtain ⟨F1, hF1⟩ : ∃ F, F = (((L.map rowE).drop 0).take n).flatten := ⟨_, rfl⟩
    obtain ⟨F2, hF2⟩ : ∃ F, F = (((L.map rowE).drop (n + 1)).take (L.length - (n + 1))).flatten := ⟨_, rfl⟩
    rw [← hF1] at e1 f31
    rw [← hF2] at e3 f40
    have hfin : [] ++ ((L.map rowE).drop 0).take n ++ ((L.map rowE).drop (n + 1)).take (L.length - (n + 1)) = (L.eraseIdx n).map rowE := by
      have : L.length - (n + 1) = (L.drop (n + 1)).length := by simp
      rw [List.drop_zero, ← List.map_take, ← List.map_drop, ← List.map_take, this, List.take_length, List.eraseIdx_eq_take_drop_succ]
      simp
    rw [hfin] at gr3
    have hw : IntKind.i64.wrap ((n : Int) + 1) = (n : Int) + 1 := wrap64 (by omega) (by omega)
    have hple : n ≤ L.length := by omega
    have hnI : (n : Int) ≤ (L.length : Int) := by omega
    have hnI' : (n : Int) < (L.length : Int) := by omega
    have hnI2 : (n : Int) + 1 ≤ (L.length : Int) := by omega
    have hn1 : n + 1 ≤ L.length := hlt
    have z1 : (0 : Int) ≤ (n : Int) + 1 := by omega
    have z2 : ((n : Int) + 1).toNat = n + 1 := by omega
    simp -implicitDefEqProofs [J0,J1,J2,J3,J4,J5,J6,J7,J8,J9,Ja,Jb,Jc,Jd,Je,Jf,Jg,Jh,Ji,Jj,Jk,Jl,Jm,Jn,Jo,Jp,Jq,Jr,Js,Jt,Ju,Jv,Jw,Jx,Jy,Jz,JA,JB,JC,JD,JE,JF,JG,JH,JI,JJ,JK,JL,JM,JN,JO,JP,stillI,IOp.kind,JQ,JR,JS,JT,JU,JV,JW,JX,JY,JZ,Y0,Y1,Y2,Y3,Y4,Y5,Y6,Y7,Y8,Y9,Ya,Yb,Yc,Yd,Ye,Yf,Yg,Yh,Yi,Yj,Yk,Yl,Ym,Yn,ial,Yo,Yp,Yq,Yr,Ys,Yt,Yu,Yv,ires,iresL,ires1,Yw,Yx,Yy,Yz,YA,YB,bin2,YC,YD,YE,YF,YG,YH,YI,YJ,YK,YL,YM,YN,YO,YP,YQ,YR,un1,shOk,eqL,eq1,fillL,putAt,IHeap.load1,IHeap.loadL,IHeap.storeL,YS,YT,YU,YV,YW,YX,YY,YZ,B0,B1,B2,B3,B4,B5,B6,B7,B8,B9,Ba,Bb,Bc,Bd,Be,Bf,Bg,Bh,Bi,Bj,Bk,Bl,Bm, boundsI, natI, hple, hlt, hn1, hnI, hnI', hnI2, z1, z2, hw, s31, s40, hget, hg1, hg3, r1, lenOfI, f31, e1, f40, e3, stillI]
    exact hK _ _ q3 gr3.slw (.inr gr3.blk)

end
end Go.Proofs.YtfegliplajdgmaaI
