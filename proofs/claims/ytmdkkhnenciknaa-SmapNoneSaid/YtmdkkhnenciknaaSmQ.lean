/- Stripes that are known: the document's answer, read of bytes. -/
import Derived.Test.YtmdkkhnenciknaaSmP
namespace Go.Proofs.YtmdkkhnenciknaaI
set_option linter.unusedSimpArgs false
set_option linter.unusedVariables false
open Go

/-- What the loop that reads knows. -/
def RdI (N : Nat) (H : IHeap) (S : List Nat) (pr : Nat) (u : Value) (k i n0 : Nat) (r0 : Rd) : Prop := ∃ (r : Rd) (L : List St) (Q : List Nat), L.length = i ∧ pr < H.next ∧ H.get pr = some (.cells [strV (rdS r), .bool r.isNone] false) ∧ (rdS r).length ≤ 1000000 ∧
  Lst H (pr :: S) Q u L ∧ rdL n0 [] r0 = rdL k L r ∧ (∀ b ∈ Q, N ≤ b)

section
variable (c : Ctx) (hR : HasRef24 c) (h23 : HasRef23 c) (h3 : HasRef03 c) {H : IHeap} {K : Value → IHeap → Prop}

include hR h23 h3 in
theorem RRead_ok24 {S : List Nat} {s : List UInt8} (hs : s.length ≤ 1000000) (hSl : ∀ b ∈ S, b < H.next) (h0 : readS s = none → ∀ H', H.le H' → K (.tuple #[.slice none 0 0, .int .i64 3]) H')
    (h1 : ∀ L, readS s = some L → ∀ v' H', H.le H' → RS H' S v' L → K (.tuple #[v', .int .i64 0]) H') : c.C (c.F n_hurdleref24_Read) [strV s] H K := by
  refine c.enter hR.hurdleref24_Read rfl ?_
  simp -implicitDefEqProofs [J0,J1,J2,J3,J4,J5,J6,J7,J8,J9,Ja,Jb,Jc,Jd,Je,Jf,Jg,Jh,Ji,Jj,Jk,Jl,Jm,Jn,Jo,Jp,Jq,Jr,Js,Jt,Ju,Jv,Jw,Jx,Jy,Jz,JA,JB,JC,JD,JE,JF,JG,JH,JI,JJ,JK,JL,JM,JN,JO,JP,stillI,IOp.kind,JQ,JR,JS,JT,JU,JV,JW,JX,JY,JZ,Y0,Y1,Y2,Y3,Y4,Y5,Y6,Y7,Y8,Y9,Ya,Yb,Yc,Yd,Ye,Yf,Yg,Yh,Yi,Yj,Yk,Yl,Ym,Yn,ial,Yo,Yp,Yq,Yr,Ys,Yt,Yu,Yv,ires,iresL,ires1,Yw,Yx,Yy,Yz,YA,YB,bin2,YC,YD,YE,YF,YG,YH,YI,YJ,YK,YL,YM,YN,YO,YP,YQ,YR,un1,shOk,eqL,eq1,fillL,putAt,IHeap.load1,IHeap.loadL,IHeap.storeL,YS,YT,YU,YV,YW,YX,YY,YZ,B0,B1,B2,B3,B4,B5,B6,B7,B8,B9,Ba,Bb,Bc,Bd,Be,Bf,Bg,Bh,Bi,Bj,Bk,Bl,Bm, c_hurdleref24_Read]
  refine call_of (refTakeInt_ok c h3 (r := some s) hs fun A j => ?_)
  have hr0l : (rdS (takeInt (some s)).1).length ≤ 1000000 := takeInt_le (r := some s) hs
  have hz := rdL_none (takeInt (some s)).2.toNat []
  unfold readS at h0 h1
  obtain ⟨n, hn⟩ : ∃ n, n = (takeInt (some s)).2 := ⟨_, rfl⟩
  obtain ⟨r0, hr0⟩ : ∃ r, r = (takeInt (some s)).1 := ⟨_, rfl⟩
  rw [← hn, ← hr0] at h0 h1
  rw [← hr0] at hr0l
  rw [← hn] at hz
  rw [← hn, ← hr0]
  have nA := j.next
  obtain ⟨bb, hbb⟩ : ∃ b, b = r0.isNone := ⟨_, rfl⟩
  have erV : rV r0 = .agg #[strV (rdS r0), .bool bb] := by rw [rV, hbb]
  simp -implicitDefEqProofs [J0,J1,J2,J3,J4,J5,J6,J7,J8,J9,Ja,Jb,Jc,Jd,Je,Jf,Jg,Jh,Ji,Jj,Jk,Jl,Jm,Jn,Jo,Jp,Jq,Jr,Js,Jt,Ju,Jv,Jw,Jx,Jy,Jz,JA,JB,JC,JD,JE,JF,JG,JH,JI,JJ,JK,JL,JM,JN,JO,JP,stillI,IOp.kind,JQ,JR,JS,JT,JU,JV,JW,JX,JY,JZ,Y0,Y1,Y2,Y3,Y4,Y5,Y6,Y7,Y8,Y9,Ya,Yb,Yc,Yd,Ye,Yf,Yg,Yh,Yi,Yj,Yk,Yl,Ym,Yn,ial,Yo,Yp,Yq,Yr,Ys,Yt,Yu,Yv,ires,iresL,ires1,Yw,Yx,Yy,Yz,YA,YB,bin2,YC,YD,YE,YF,YG,YH,YI,YJ,YK,YL,YM,YN,YO,YP,YQ,YR,un1,shOk,eqL,eq1,fillL,putAt,IHeap.load1,IHeap.loadL,IHeap.storeL,YS,YT,YU,YV,YW,YX,YY,YZ,B0,B1,B2,B3,B4,B5,B6,B7,B8,B9,Ba,Bb,Bc,Bd,Be,Bf,Bg,Bh,Bi,Bj,Bk,Bl,Bm, erV]
  obtain ⟨pr, hpr⟩ : ∃ pr, pr = A.next := ⟨_, rfl⟩
  rw [← hpr]
  obtain ⟨X0, hX0⟩ : ∃ X : IHeap, X = (A.alloc (.cells [.string ⟨#[]⟩, .bool false] false)).set pr (.cells [strV (rdS r0), .bool bb] false) := ⟨_, rfl⟩
  rw [← hX0]
  have g0 : X0.get pr = some (.cells [strV (rdS r0), .bool bb] false) := by rw [hX0, YT, if_pos rfl]
  have n0 : X0.next = A.next + 1 := by rw [hX0]; rfl
  have k0 : H.le X0 := by rw [hX0]; exact (j.trans (A.le_alloc _)).set (by omega) _
  by_cases hbad : n < 0 ∨ 4096 < n
  · rw [if_pos hbad] at h0
    cases hbv : bb with
    | true =>
      simp -implicitDefEqProofs [J0,J1,J2,J3,J4,J5,J6,J7,J8,J9,Ja,Jb,Jc,Jd,Je,Jf,Jg,Jh,Ji,Jj,Jk,Jl,Jm,Jn,Jo,Jp,Jq,Jr,Js,Jt,Ju,Jv,Jw,Jx,Jy,Jz,JA,JB,JC,JD,JE,JF,JG,JH,JI,JJ,JK,JL,JM,JN,JO,JP,stillI,IOp.kind,JQ,JR,JS,JT,JU,JV,JW,JX,JY,JZ,Y0,Y1,Y2,Y3,Y4,Y5,Y6,Y7,Y8,Y9,Ya,Yb,Yc,Yd,Ye,Yf,Yg,Yh,Yi,Yj,Yk,Yl,Ym,Yn,ial,Yo,Yp,Yq,Yr,Ys,Yt,Yu,Yv,ires,iresL,ires1,Yw,Yx,Yy,Yz,YA,YB,bin2,YC,YD,YE,YF,YG,YH,YI,YJ,YK,YL,YM,YN,YO,YP,YQ,YR,un1,shOk,eqL,eq1,fillL,putAt,IHeap.load1,IHeap.loadL,IHeap.storeL,YS,YT,YU,YV,YW,YX,YY,YZ,B0,B1,B2,B3,B4,B5,B6,B7,B8,B9,Ba,Bb,Bc,Bd,Be,Bf,Bg,Bh,Bi,Bj,Bk,Bl,Bm]
      exact h0 rfl _ k0
    | false =>
      by_cases hb1 : n < 0
      · simp -implicitDefEqProofs [J0,J1,J2,J3,J4,J5,J6,J7,J8,J9,Ja,Jb,Jc,Jd,Je,Jf,Jg,Jh,Ji,Jj,Jk,Jl,Jm,Jn,Jo,Jp,Jq,Jr,Js,Jt,Ju,Jv,Jw,Jx,Jy,Jz,JA,JB,JC,JD,JE,JF,JG,JH,JI,JJ,JK,JL,JM,JN,JO,JP,stillI,IOp.kind,JQ,JR,JS,JT,JU,JV,JW,JX,JY,JZ,Y0,Y1,Y2,Y3,Y4,Y5,Y6,Y7,Y8,Y9,Ya,Yb,Yc,Yd,Ye,Yf,Yg,Yh,Yi,Yj,Yk,Yl,Ym,Yn,ial,Yo,Yp,Yq,Yr,Ys,Yt,Yu,Yv,ires,iresL,ires1,Yw,Yx,Yy,Yz,YA,YB,bin2,YC,YD,YE,YF,YG,YH,YI,YJ,YK,YL,YM,YN,YO,YP,YQ,YR,un1,shOk,eqL,eq1,fillL,putAt,IHeap.load1,IHeap.loadL,IHeap.storeL,YS,YT,YU,YV,YW,YX,YY,YZ,B0,B1,B2,B3,B4,B5,B6,B7,B8,B9,Ba,Bb,Bc,Bd,Be,Bf,Bg,Bh,Bi,Bj,Bk,Bl,Bm, hb1]
        exact h0 rfl _ k0
      · have hb2 : 4096 < n := by omega
        simp -implicitDefEqProofs [J0,J1,J2,J3,J4,J5,J6,J7,J8,J9,Ja,Jb,Jc,Jd,Je,Jf,Jg,Jh,Ji,Jj,Jk,Jl,Jm,Jn,Jo,Jp,Jq,Jr,Js,Jt,Ju,Jv,Jw,Jx,Jy,Jz,JA,JB,JC,JD,JE,JF,JG,JH,JI,JJ,JK,JL,JM,JN,JO,JP,stillI,IOp.kind,JQ,JR,JS,JT,JU,JV,JW,JX,JY,JZ,Y0,Y1,Y2,Y3,Y4,Y5,Y6,Y7,Y8,Y9,Ya,Yb,Yc,Yd,Ye,Yf,Yg,Yh,Yi,Yj,Yk,Yl,Ym,Yn,ial,Yo,Yp,Yq,Yr,Ys,Yt,Yu,Yv,ires,iresL,ires1,Yw,Yx,Yy,Yz,YA,YB,bin2,YC,YD,YE,YF,YG,YH,YI,YJ,YK,YL,YM,YN,YO,YP,YQ,YR,un1,shOk,eqL,eq1,fillL,putAt,IHeap.load1,IHeap.loadL,IHeap.storeL,YS,YT,YU,YV,YW,YX,YY,YZ,B0,B1,B2,B3,B4,B5,B6,B7,B8,B9,Ba,Bb,Bc,Bd,Be,Bf,Bg,Bh,Bi,Bj,Bk,Bl,Bm, hb1, hb2]
        exact h0 rfl _ k0
  · rw [if_neg hbad] at h0
    rw [if_neg hbad] at h1
    have hb1 : ¬ n < 0 := by omega
    have hb2 : ¬ 4096 < n := by omega
    have hnt : (n.toNat : Int) = n := by omega
    rw [hbb] at g0
    cases hbv : bb with
    | true =>
      have hb : r0.isNone = true := by rw [← hbb, hbv]
      simp -implicitDefEqProofs [J0,J1,J2,J3,J4,J5,J6,J7,J8,J9,Ja,Jb,Jc,Jd,Je,Jf,Jg,Jh,Ji,Jj,Jk,Jl,Jm,Jn,Jo,Jp,Jq,Jr,Js,Jt,Ju,Jv,Jw,Jx,Jy,Jz,JA,JB,JC,JD,JE,JF,JG,JH,JI,JJ,JK,JL,JM,JN,JO,JP,stillI,IOp.kind,JQ,JR,JS,JT,JU,JV,JW,JX,JY,JZ,Y0,Y1,Y2,Y3,Y4,Y5,Y6,Y7,Y8,Y9,Ya,Yb,Yc,Yd,Ye,Yf,Yg,Yh,Yi,Yj,Yk,Yl,Ym,Yn,ial,Yo,Yp,Yq,Yr,Ys,Yt,Yu,Yv,ires,iresL,ires1,Yw,Yx,Yy,Yz,YA,YB,bin2,YC,YD,YE,YF,YG,YH,YI,YJ,YK,YL,YM,YN,YO,YP,YQ,YR,un1,shOk,eqL,eq1,fillL,putAt,IHeap.load1,IHeap.loadL,IHeap.storeL,YS,YT,YU,YV,YW,YX,YY,YZ,B0,B1,B2,B3,B4,B5,B6,B7,B8,B9,Ba,Bb,Bc,Bd,Be,Bf,Bg,Bh,Bi,Bj,Bk,Bl,Bm]
      have hrn : r0 = none := by simpa using hb
      rw [hrn] at h0
      exact h0 hz _ k0
    | false =>
      simp -implicitDefEqProofs [J0,J1,J2,J3,J4,J5,J6,J7,J8,J9,Ja,Jb,Jc,Jd,Je,Jf,Jg,Jh,Ji,Jj,Jk,Jl,Jm,Jn,Jo,Jp,Jq,Jr,Js,Jt,Ju,Jv,Jw,Jx,Jy,Jz,JA,JB,JC,JD,JE,JF,JG,JH,JI,JJ,JK,JL,JM,JN,JO,JP,stillI,IOp.kind,JQ,JR,JS,JT,JU,JV,JW,JX,JY,JZ,Y0,Y1,Y2,Y3,Y4,Y5,Y6,Y7,Y8,Y9,Ya,Yb,Yc,Yd,Ye,Yf,Yg,Yh,Yi,Yj,Yk,Yl,Ym,Yn,ial,Yo,Yp,Yq,Yr,Ys,Yt,Yu,Yv,ires,iresL,ires1,Yw,Yx,Yy,Yz,YA,YB,bin2,YC,YD,YE,YF,YG,YH,YI,YJ,YK,YL,YM,YN,YO,YP,YQ,YR,un1,shOk,eqL,eq1,fillL,putAt,IHeap.load1,IHeap.loadL,IHeap.storeL,YS,YT,YU,YV,YW,YX,YY,YZ,B0,B1,B2,B3,B4,B5,B6,B7,B8,B9,Ba,Bb,Bc,Bd,Be,Bf,Bg,Bh,Bi,Bj,Bk,Bl,Bm, hb1, hb2]
      refine loop_nat c.mono (fun k T H' => ∃ i : Nat, i + k = n.toNat ∧ T 4 = .pointer (some ⟨pr, 0, none⟩) ∧ T 5 = .int .i64 n ∧ T 7 = .int .i64 i ∧ H.le H' ∧ RdI H.next H' S pr (T 6) k i n.toNat r0) n.toNat ?_ ?_
      · refine ⟨0, by omega, ?_⟩
        simp -implicitDefEqProofs [J0,J1,J2,J3,J4,J5,J6,J7,J8,J9,Ja,Jb,Jc,Jd,Je,Jf,Jg,Jh,Ji,Jj,Jk,Jl,Jm,Jn,Jo,Jp,Jq,Jr,Js,Jt,Ju,Jv,Jw,Jx,Jy,Jz,JA,JB,JC,JD,JE,JF,JG,JH,JI,JJ,JK,JL,JM,JN,JO,JP,stillI,IOp.kind,JQ,JR,JS,JT,JU,JV,JW,JX,JY,JZ,Y0,Y1,Y2,Y3,Y4,Y5,Y6,Y7,Y8,Y9,Ya,Yb,Yc,Yd,Ye,Yf,Yg,Yh,Yi,Yj,Yk,Yl,Ym,Yn,ial,Yo,Yp,Yq,Yr,Ys,Yt,Yu,Yv,ires,iresL,ires1,Yw,Yx,Yy,Yz,YA,YB,bin2,YC,YD,YE,YF,YG,YH,YI,YJ,YK,YL,YM,YN,YO,YP,YQ,YR,un1,shOk,eqL,eq1,fillL,putAt,IHeap.load1,IHeap.loadL,IHeap.storeL,YS,YT,YU,YV,YW,YX,YY,YZ,B0,B1,B2,B3,B4,B5,B6,B7,B8,B9,Ba,Bb,Bc,Bd,Be,Bf,Bg,Bh,Bi,Bj,Bk,Bl,Bm]
        exact ⟨k0, r0, [], [], rfl, by omega, g0, hr0l, Lst.nil _ _, rfl, by simp⟩
      · rintro k T H' ⟨i, hik, t4, t5, t7, hle, r, L, Q, hLi, hprn, gr, hrl, hL, hrd, hQ⟩
        have hQl := hL.lt
        obtain ⟨au, cu, t6⟩ := hL.lenv
        rw [hLi] at t6
        by_cases hil : (i : Int) < n
        · obtain ⟨k', rfl⟩ : ∃ k', k = k' + 1 := ⟨k - 1, by omega⟩
          have nH := hle.next
          simp only [rdL] at hrd
          simp -implicitDefEqProofs [J0,J1,J2,J3,J4,J5,J6,J7,J8,J9,Ja,Jb,Jc,Jd,Je,Jf,Jg,Jh,Ji,Jj,Jk,Jl,Jm,Jn,Jo,Jp,Jq,Jr,Js,Jt,Ju,Jv,Jw,Jx,Jy,Jz,JA,JB,JC,JD,JE,JF,JG,JH,JI,JJ,JK,JL,JM,JN,JO,JP,stillI,IOp.kind,JQ,JR,JS,JT,JU,JV,JW,JX,JY,JZ,Y0,Y1,Y2,Y3,Y4,Y5,Y6,Y7,Y8,Y9,Ya,Yb,Yc,Yd,Ye,Yf,Yg,Yh,Yi,Yj,Yk,Yl,Ym,Yn,ial,Yo,Yp,Yq,Yr,Ys,Yt,Yu,Yv,ires,iresL,ires1,Yw,Yx,Yy,Yz,YA,YB,bin2,YC,YD,YE,YF,YG,YH,YI,YJ,YK,YL,YM,YN,YO,YP,YQ,YR,un1,shOk,eqL,eq1,fillL,putAt,IHeap.load1,IHeap.loadL,IHeap.storeL,YS,YT,YU,YV,YW,YX,YY,YZ,B0,B1,B2,B3,B4,B5,B6,B7,B8,B9,Ba,Bb,Bc,Bd,Be,Bf,Bg,Bh,Bi,Bj,Bk,Bl,Bm, t4, t5, t6, t7, hil, gr]
          refine call_of (refTakeByte_ok c h3 (r := r) fun A1 j1 => ?_)
          rw [show takeByte r = sA r from rfl]
          have n1 := j1.next
          have y1 : (rdS (sA r).1).length ≤ 1000000 := takeByte_leS hrl
          simp -implicitDefEqProofs [J0,J1,J2,J3,J4,J5,J6,J7,J8,J9,Ja,Jb,Jc,Jd,Je,Jf,Jg,Jh,Ji,Jj,Jk,Jl,Jm,Jn,Jo,Jp,Jq,Jr,Js,Jt,Ju,Jv,Jw,Jx,Jy,Jz,JA,JB,JC,JD,JE,JF,JG,JH,JI,JJ,JK,JL,JM,JN,JO,JP,stillI,IOp.kind,JQ,JR,JS,JT,JU,JV,JW,JX,JY,JZ,Y0,Y1,Y2,Y3,Y4,Y5,Y6,Y7,Y8,Y9,Ya,Yb,Yc,Yd,Ye,Yf,Yg,Yh,Yi,Yj,Yk,Yl,Ym,Yn,ial,Yo,Yp,Yq,Yr,Ys,Yt,Yu,Yv,ires,iresL,ires1,Yw,Yx,Yy,Yz,YA,YB,bin2,YC,YD,YE,YF,YG,YH,YI,YJ,YK,YL,YM,YN,YO,YP,YQ,YR,un1,shOk,eqL,eq1,fillL,putAt,IHeap.load1,IHeap.loadL,IHeap.storeL,YS,YT,YU,YV,YW,YX,YY,YZ,B0,B1,B2,B3,B4,B5,B6,B7,B8,B9,Ba,Bb,Bc,Bd,Be,Bf,Bg,Bh,Bi,Bj,Bk,Bl,Bm, rV, t4, t5, t6, t7]
          obtain ⟨px, hpx⟩ : ∃ p, p = A1.next := ⟨_, rfl⟩
          rw [← hpx]
          obtain ⟨X1, hX1⟩ : ∃ X : IHeap, X = (A1.alloc (.cells [.string ⟨#[]⟩, .bool false] false)).set px (.cells [strV (rdS (sA r).1), .bool (sA r).1.isNone] false) := ⟨_, rfl⟩
          rw [← hX1]
          have x1 : X1.get px = some (.cells [strV (rdS (sA r).1), .bool (sA r).1.isNone] false) := by rw [hX1, YT, if_pos rfl]
          have m1 : X1.next = A1.next + 1 := by rw [hX1]; rfl
          have k1 : H'.le X1 := by rw [hX1]; exact (j1.trans (A1.le_alloc _)).set (by omega) _
          refine call_of (refTakeInt_ok c h3 (r := (sA r).1) y1 fun A2 j2 => ?_)
          rw [show takeInt (sA r).1 = sB r from rfl]
          have n2 := j2.next
          have y2 : (rdS (sB r).1).length ≤ 1000000 := takeInt_le y1
          have x2' := (j2.get px (by omega)).trans x1
          simp -implicitDefEqProofs [J0,J1,J2,J3,J4,J5,J6,J7,J8,J9,Ja,Jb,Jc,Jd,Je,Jf,Jg,Jh,Ji,Jj,Jk,Jl,Jm,Jn,Jo,Jp,Jq,Jr,Js,Jt,Ju,Jv,Jw,Jx,Jy,Jz,JA,JB,JC,JD,JE,JF,JG,JH,JI,JJ,JK,JL,JM,JN,JO,JP,stillI,IOp.kind,JQ,JR,JS,JT,JU,JV,JW,JX,JY,JZ,Y0,Y1,Y2,Y3,Y4,Y5,Y6,Y7,Y8,Y9,Ya,Yb,Yc,Yd,Ye,Yf,Yg,Yh,Yi,Yj,Yk,Yl,Ym,Yn,ial,Yo,Yp,Yq,Yr,Ys,Yt,Yu,Yv,ires,iresL,ires1,Yw,Yx,Yy,Yz,YA,YB,bin2,YC,YD,YE,YF,YG,YH,YI,YJ,YK,YL,YM,YN,YO,YP,YQ,YR,un1,shOk,eqL,eq1,fillL,putAt,IHeap.load1,IHeap.loadL,IHeap.storeL,YS,YT,YU,YV,YW,YX,YY,YZ,B0,B1,B2,B3,B4,B5,B6,B7,B8,B9,Ba,Bb,Bc,Bd,Be,Bf,Bg,Bh,Bi,Bj,Bk,Bl,Bm, rV, x2']
          obtain ⟨X2, hX2⟩ : ∃ X : IHeap, X = A2.set px (.cells [strV (rdS (sB r).1), .bool (sB r).1.isNone] false) := ⟨_, rfl⟩
          rw [← hX2]
          have x2 : X2.get px = some (.cells [strV (rdS (sB r).1), .bool (sB r).1.isNone] false) := by rw [hX2, YT, if_pos rfl]
          have m2 : X2.next = A2.next := by rw [hX2]; rfl
          have k2 : H'.le X2 := by rw [hX2]; exact (k1.trans j2).set (by omega) _
          refine call_of (refTakeInt_ok c h3 (r := (sB r).1) y2 fun A3 j3 => ?_)
          rw [show takeInt (sB r).1 = sC r from rfl]
          have n3 := j3.next
          have y3 : (rdS (sC r).1).length ≤ 1000000 := takeInt_le y2
          have x3' := (j3.get px (by omega)).trans x2
          simp -implicitDefEqProofs [J0,J1,J2,J3,J4,J5,J6,J7,J8,J9,Ja,Jb,Jc,Jd,Je,Jf,Jg,Jh,Ji,Jj,Jk,Jl,Jm,Jn,Jo,Jp,Jq,Jr,Js,Jt,Ju,Jv,Jw,Jx,Jy,Jz,JA,JB,JC,JD,JE,JF,JG,JH,JI,JJ,JK,JL,JM,JN,JO,JP,stillI,IOp.kind,JQ,JR,JS,JT,JU,JV,JW,JX,JY,JZ,Y0,Y1,Y2,Y3,Y4,Y5,Y6,Y7,Y8,Y9,Ya,Yb,Yc,Yd,Ye,Yf,Yg,Yh,Yi,Yj,Yk,Yl,Ym,Yn,ial,Yo,Yp,Yq,Yr,Ys,Yt,Yu,Yv,ires,iresL,ires1,Yw,Yx,Yy,Yz,YA,YB,bin2,YC,YD,YE,YF,YG,YH,YI,YJ,YK,YL,YM,YN,YO,YP,YQ,YR,un1,shOk,eqL,eq1,fillL,putAt,IHeap.load1,IHeap.loadL,IHeap.storeL,YS,YT,YU,YV,YW,YX,YY,YZ,B0,B1,B2,B3,B4,B5,B6,B7,B8,B9,Ba,Bb,Bc,Bd,Be,Bf,Bg,Bh,Bi,Bj,Bk,Bl,Bm, rV, x3']
          obtain ⟨X3, hX3⟩ : ∃ X : IHeap, X = A3.set px (.cells [strV (rdS (sC r).1), .bool (sC r).1.isNone] false) := ⟨_, rfl⟩
          rw [← hX3]
          have x3 : X3.get px = some (.cells [strV (rdS (sC r).1), .bool (sC r).1.isNone] false) := by rw [hX3, YT, if_pos rfl]
          have m3 : X3.next = A3.next := by rw [hX3]; rfl
          have k3 : H'.le X3 := by rw [hX3]; exact (k2.trans j3).set (by omega) _
          refine call_of (refTakeInt_ok c h3 (r := (sC r).1) y3 fun A4 j4 => ?_)
          rw [show takeInt (sC r).1 = sD r from rfl]
          have n4 := j4.next
          have y4 : (rdS (sD r).1).length ≤ 1000000 := takeInt_le y3
          have x4' := (j4.get px (by omega)).trans x3
          simp -implicitDefEqProofs [J0,J1,J2,J3,J4,J5,J6,J7,J8,J9,Ja,Jb,Jc,Jd,Je,Jf,Jg,Jh,Ji,Jj,Jk,Jl,Jm,Jn,Jo,Jp,Jq,Jr,Js,Jt,Ju,Jv,Jw,Jx,Jy,Jz,JA,JB,JC,JD,JE,JF,JG,JH,JI,JJ,JK,JL,JM,JN,JO,JP,stillI,IOp.kind,JQ,JR,JS,JT,JU,JV,JW,JX,JY,JZ,Y0,Y1,Y2,Y3,Y4,Y5,Y6,Y7,Y8,Y9,Ya,Yb,Yc,Yd,Ye,Yf,Yg,Yh,Yi,Yj,Yk,Yl,Ym,Yn,ial,Yo,Yp,Yq,Yr,Ys,Yt,Yu,Yv,ires,iresL,ires1,Yw,Yx,Yy,Yz,YA,YB,bin2,YC,YD,YE,YF,YG,YH,YI,YJ,YK,YL,YM,YN,YO,YP,YQ,YR,un1,shOk,eqL,eq1,fillL,putAt,IHeap.load1,IHeap.loadL,IHeap.storeL,YS,YT,YU,YV,YW,YX,YY,YZ,B0,B1,B2,B3,B4,B5,B6,B7,B8,B9,Ba,Bb,Bc,Bd,Be,Bf,Bg,Bh,Bi,Bj,Bk,Bl,Bm, rV, x4']
          obtain ⟨X4, hX4⟩ : ∃ X : IHeap, X = A4.set px (.cells [strV (rdS (sD r).1), .bool (sD r).1.isNone] false) := ⟨_, rfl⟩
          rw [← hX4]
          have x4 : X4.get px = some (.cells [strV (rdS (sD r).1), .bool (sD r).1.isNone] false) := by rw [hX4, YT, if_pos rfl]
          have m4 : X4.next = A4.next := by rw [hX4]; rfl
          have k4 : H'.le X4 := by rw [hX4]; exact (k3.trans j4).set (by omega) _
          refine call_of (refTakeInts_ok c h3 (r := (sD r).1) y4 fun v5 A5 j5 gr5 => ?_)
          rw [show takeList takeInt (sD r).1 = sE r from rfl] at gr5 ⊢
          have n5 := j5.next
          have y5 : (rdS (sE r).1).length ≤ 1000000 := takeList_leS y4
          have ll : (sE r).2.length ≤ 1000000 := takeList_lenS y4
          have x5' := (j5.get px (by omega)).trans x4
          simp -implicitDefEqProofs [J0,J1,J2,J3,J4,J5,J6,J7,J8,J9,Ja,Jb,Jc,Jd,Je,Jf,Jg,Jh,Ji,Jj,Jk,Jl,Jm,Jn,Jo,Jp,Jq,Jr,Js,Jt,Ju,Jv,Jw,Jx,Jy,Jz,JA,JB,JC,JD,JE,JF,JG,JH,JI,JJ,JK,JL,JM,JN,JO,JP,stillI,IOp.kind,JQ,JR,JS,JT,JU,JV,JW,JX,JY,JZ,Y0,Y1,Y2,Y3,Y4,Y5,Y6,Y7,Y8,Y9,Ya,Yb,Yc,Yd,Ye,Yf,Yg,Yh,Yi,Yj,Yk,Yl,Ym,Yn,ial,Yo,Yp,Yq,Yr,Ys,Yt,Yu,Yv,ires,iresL,ires1,Yw,Yx,Yy,Yz,YA,YB,bin2,YC,YD,YE,YF,YG,YH,YI,YJ,YK,YL,YM,YN,YO,YP,YQ,YR,un1,shOk,eqL,eq1,fillL,putAt,IHeap.load1,IHeap.loadL,IHeap.storeL,YS,YT,YU,YV,YW,YX,YY,YZ,B0,B1,B2,B3,B4,B5,B6,B7,B8,B9,Ba,Bb,Bc,Bd,Be,Bf,Bg,Bh,Bi,Bj,Bk,Bl,Bm, rV, x5']
          obtain ⟨X5, hX5⟩ : ∃ X : IHeap, X = A5.set px (.cells [strV (rdS (sE r).1), .bool (sE r).1.isNone] false) := ⟨_, rfl⟩
          rw [← hX5]
          have x5 : X5.get px = some (.cells [strV (rdS (sE r).1), .bool (sE r).1.isNone] false) := by rw [hX5, YT, if_pos rfl]
          have m5 : X5.next = A5.next := by rw [hX5]; rfl
          have k5 : H'.le X5 := by rw [hX5]; exact (k4.trans j5).set (by omega) _
          have gr5' : Grow X5 X4.next 1 v5 ((sE r).2.map rowI) := gr5.upd (S := [px]) (by rw [hX5]; exact (IHeap.upd_refl _ _).set (.inr (by simp)) _) (by simp; omega)
          have gr5'' := gr5'
          obtain ⟨a5, c5, rfl⟩ := gr5'.len
          rw [List.length_map] at gr5''
          obtain ⟨row, hrow⟩ : ∃ row : List Value, row = [.int .i64 i, .int .i64 (sA r).2, .int .i64 (sB r).2, .int .i64 (sC r).2, .int .i64 (sD r).2, .slice a5 (sE r).2.length c5] := ⟨_, rfl⟩
          obtain ⟨X6, hX6⟩ : ∃ X : IHeap, X = (X5.alloc (.cells [.int .i64 0, .int .i64 0, .int .i64 0, .int .i64 0, .int .i64 0, .slice none 0 0] false)).set X5.next (.cells row false) := ⟨_, rfl⟩
          have k56 : X5.le X6 := by rw [hX6]; exact (X5.le_alloc _).set (Nat.le_refl _) _
          have m6 : X6.next = X5.next + 1 := by rw [hX6]; rfl
          have b6 : X6.get X5.next = some (.cells row false) := by rw [hX6, YT, if_pos rfl]
          have x6 := (k56.get px (by omega)).trans x5
          have k6 := k5.trans k56
          have hEE : (sE r).1.isNone = true ∨ (sE r).1.isNone = false := by cases (sE r).1.isNone <;> simp
          rw [hrow] at hX6
          rcases hEE with hE | hE
          · rw [hE] at x6
            simp -implicitDefEqProofs [J0,J1,J2,J3,J4,J5,J6,J7,J8,J9,Ja,Jb,Jc,Jd,Je,Jf,Jg,Jh,Ji,Jj,Jk,Jl,Jm,Jn,Jo,Jp,Jq,Jr,Js,Jt,Ju,Jv,Jw,Jx,Jy,Jz,JA,JB,JC,JD,JE,JF,JG,JH,JI,JJ,JK,JL,JM,JN,JO,JP,stillI,IOp.kind,JQ,JR,JS,JT,JU,JV,JW,JX,JY,JZ,Y0,Y1,Y2,Y3,Y4,Y5,Y6,Y7,Y8,Y9,Ya,Yb,Yc,Yd,Ye,Yf,Yg,Yh,Yi,Yj,Yk,Yl,Ym,Yn,ial,Yo,Yp,Yq,Yr,Ys,Yt,Yu,Yv,ires,iresL,ires1,Yw,Yx,Yy,Yz,YA,YB,bin2,YC,YD,YE,YF,YG,YH,YI,YJ,YK,YL,YM,YN,YO,YP,YQ,YR,un1,shOk,eqL,eq1,fillL,putAt,IHeap.load1,IHeap.loadL,IHeap.storeL,YS,YT,YU,YV,YW,YX,YY,YZ,B0,B1,B2,B3,B4,B5,B6,B7,B8,B9,Ba,Bb,Bc,Bd,Be,Bf,Bg,Bh,Bi,Bj,Bk,Bl,Bm, t4, t5, t6, t7, List.length_map, ← hX6, x6]
            have hz2 : okR r = false := okR_bad (by simpa using hE)
            rw [hz2] at hrd
            simp only [Bool.false_eq_true, if_false] at hrd
            exact h0 (by rw [hrd]) _ (hle.trans k6)
          · have x6t := x6
            rw [hE] at x6
            have b6' := b6
            rw [hrow] at b6'
            simp -implicitDefEqProofs [J0,J1,J2,J3,J4,J5,J6,J7,J8,J9,Ja,Jb,Jc,Jd,Je,Jf,Jg,Jh,Ji,Jj,Jk,Jl,Jm,Jn,Jo,Jp,Jq,Jr,Js,Jt,Ju,Jv,Jw,Jx,Jy,Jz,JA,JB,JC,JD,JE,JF,JG,JH,JI,JJ,JK,JL,JM,JN,JO,JP,stillI,IOp.kind,JQ,JR,JS,JT,JU,JV,JW,JX,JY,JZ,Y0,Y1,Y2,Y3,Y4,Y5,Y6,Y7,Y8,Y9,Ya,Yb,Yc,Yd,Ye,Yf,Yg,Yh,Yi,Yj,Yk,Yl,Ym,Yn,ial,Yo,Yp,Yq,Yr,Ys,Yt,Yu,Yv,ires,iresL,ires1,Yw,Yx,Yy,Yz,YA,YB,bin2,YC,YD,YE,YF,YG,YH,YI,YJ,YK,YL,YM,YN,YO,YP,YQ,YR,un1,shOk,eqL,eq1,fillL,putAt,IHeap.load1,IHeap.loadL,IHeap.storeL,YS,YT,YU,YV,YW,YX,YY,YZ,B0,B1,B2,B3,B4,B5,B6,B7,B8,B9,Ba,Bb,Bc,Bd,Be,Bf,Bg,Bh,Bi,Bj,Bk,Bl,Bm, t4, t5, t6, t7, List.length_map, ← hX6, x6, b6']
            refine call_of (Rmay_ok c hR h23 (x := stR r) (gr5''.slw.le k56) (by simpa [stR] using Nat.le_trans ll (by omega)) fun A7 j7 => ?_)
            have n7 := j7.next
            have x7 := (j7.get px (by omega)).trans x6t
            have b7 := (j7.get X5.next (by omega)).trans b6'
            have k7 := k6.trans j7
            cases hm : (stR r).may with
            | false =>
              have hz2 : okR r = false := by simp [okR, hm]
              rw [hz2] at hrd
              simp only [Bool.false_eq_true, if_false] at hrd
              simp -implicitDefEqProofs [J0,J1,J2,J3,J4,J5,J6,J7,J8,J9,Ja,Jb,Jc,Jd,Je,Jf,Jg,Jh,Ji,Jj,Jk,Jl,Jm,Jn,Jo,Jp,Jq,Jr,Js,Jt,Ju,Jv,Jw,Jx,Jy,Jz,JA,JB,JC,JD,JE,JF,JG,JH,JI,JJ,JK,JL,JM,JN,JO,JP,stillI,IOp.kind,JQ,JR,JS,JT,JU,JV,JW,JX,JY,JZ,Y0,Y1,Y2,Y3,Y4,Y5,Y6,Y7,Y8,Y9,Ya,Yb,Yc,Yd,Ye,Yf,Yg,Yh,Yi,Yj,Yk,Yl,Ym,Yn,ial,Yo,Yp,Yq,Yr,Ys,Yt,Yu,Yv,ires,iresL,ires1,Yw,Yx,Yy,Yz,YA,YB,bin2,YC,YD,YE,YF,YG,YH,YI,YJ,YK,YL,YM,YN,YO,YP,YQ,YR,un1,shOk,eqL,eq1,fillL,putAt,IHeap.load1,IHeap.loadL,IHeap.storeL,YS,YT,YU,YV,YW,YX,YY,YZ,B0,B1,B2,B3,B4,B5,B6,B7,B8,B9,Ba,Bb,Bc,Bd,Be,Bf,Bg,Bh,Bi,Bj,Bk,Bl,Bm]
              exact h0 (by rw [hrd]) _ (hle.trans k7)
            | true =>
              by_cases s1 : (sA r).2 < 1
              · have hz2 : okR r = false := by simp [okR]; omega
                rw [hz2] at hrd
                simp only [Bool.false_eq_true, if_false] at hrd
                simp -implicitDefEqProofs [J0,J1,J2,J3,J4,J5,J6,J7,J8,J9,Ja,Jb,Jc,Jd,Je,Jf,Jg,Jh,Ji,Jj,Jk,Jl,Jm,Jn,Jo,Jp,Jq,Jr,Js,Jt,Ju,Jv,Jw,Jx,Jy,Jz,JA,JB,JC,JD,JE,JF,JG,JH,JI,JJ,JK,JL,JM,JN,JO,JP,stillI,IOp.kind,JQ,JR,JS,JT,JU,JV,JW,JX,JY,JZ,Y0,Y1,Y2,Y3,Y4,Y5,Y6,Y7,Y8,Y9,Ya,Yb,Yc,Yd,Ye,Yf,Yg,Yh,Yi,Yj,Yk,Yl,Ym,Yn,ial,Yo,Yp,Yq,Yr,Ys,Yt,Yu,Yv,ires,iresL,ires1,Yw,Yx,Yy,Yz,YA,YB,bin2,YC,YD,YE,YF,YG,YH,YI,YJ,YK,YL,YM,YN,YO,YP,YQ,YR,un1,shOk,eqL,eq1,fillL,putAt,IHeap.load1,IHeap.loadL,IHeap.storeL,YS,YT,YU,YV,YW,YX,YY,YZ,B0,B1,B2,B3,B4,B5,B6,B7,B8,B9,Ba,Bb,Bc,Bd,Be,Bf,Bg,Bh,Bi,Bj,Bk,Bl,Bm, s1]
                exact h0 (by rw [hrd]) _ (hle.trans k7)
              · by_cases s3 : 3 < (sA r).2
                · have hz2 : okR r = false := by simp [okR]; omega
                  rw [hz2] at hrd
                  simp only [Bool.false_eq_true, if_false] at hrd
                  simp -implicitDefEqProofs [J0,J1,J2,J3,J4,J5,J6,J7,J8,J9,Ja,Jb,Jc,Jd,Je,Jf,Jg,Jh,Ji,Jj,Jk,Jl,Jm,Jn,Jo,Jp,Jq,Jr,Js,Jt,Ju,Jv,Jw,Jx,Jy,Jz,JA,JB,JC,JD,JE,JF,JG,JH,JI,JJ,JK,JL,JM,JN,JO,JP,stillI,IOp.kind,JQ,JR,JS,JT,JU,JV,JW,JX,JY,JZ,Y0,Y1,Y2,Y3,Y4,Y5,Y6,Y7,Y8,Y9,Ya,Yb,Yc,Yd,Ye,Yf,Yg,Yh,Yi,Yj,Yk,Yl,Ym,Yn,ial,Yo,Yp,Yq,Yr,Ys,Yt,Yu,Yv,ires,iresL,ires1,Yw,Yx,Yy,Yz,YA,YB,bin2,YC,YD,YE,YF,YG,YH,YI,YJ,YK,YL,YM,YN,YO,YP,YQ,YR,un1,shOk,eqL,eq1,fillL,putAt,IHeap.load1,IHeap.loadL,IHeap.storeL,YS,YT,YU,YV,YW,YX,YY,YZ,B0,B1,B2,B3,B4,B5,B6,B7,B8,B9,Ba,Bb,Bc,Bd,Be,Bf,Bg,Bh,Bi,Bj,Bk,Bl,Bm, s1, s3]
                  exact h0 (by rw [hrd]) _ (hle.trans k7)
                · have hz2 : okR r = true := by simp [okR, hm]; omega
                  rw [hz2] at hrd
                  simp only [if_true] at hrd
                  have gp7 := (k7.get pr hprn).trans gr
                  have hp1 : ¬ X5.next = pr := by omega
                  obtain ⟨HB, hHB⟩ : ∃ X : IHeap, X = (A7.set pr (.cells [strV (rdS (sE r).1), .bool false] false)).alloc (.cells row false) := ⟨_, rfl⟩
                  have uB : IHeap.upd [pr] A7 HB := by rw [hHB]; exact ((IHeap.upd_refl _ _).set (.inr (by simp)) _).alloc _
                  have nB : HB.next = A7.next + 1 := by rw [hHB]; rfl
                  have gB : HB.get A7.next = some (.cells row false) := by rw [hHB, YS, YV, if_pos rfl]
                  have gBp : HB.get pr = some (.cells [strV (rdS (sE r).1), .bool (sE r).1.isNone] false) := by rw [hHB, YS, YV, if_neg (by omega), YT, if_pos rfl, hE]
                  have f1 : firstI HB 6 1 (.slice (some ⟨A7.next, 0, none⟩) 1 1) = some row := by simp [firstI, IHeap.loadL, gB, hrow]
                  have hLB := (hL.le k7).upd uB (by simp)
                  have svB : SlW HB 1 (.slice a5 (sE r).2.length c5) ((stR r).sv.map rowI) := (((gr5''.le k56).le j7).upd uB (by simp; omega)).slw
                  have hSn : ∀ b ∈ pr :: S, b < H'.next := fun b hb => by
                    rcases List.mem_cons.1 hb with rfl | hb
                    · exact hprn
                    · have := hSl b hb; omega
                  obtain ⟨H9, e9, l9, u9⟩ := hLB.push (x := stR r) (v := .slice a5 (sE r).2.length c5) (by omega) (fun b hb => by have := hSn b hb; have := k7.next; omega) svB (Grow.far gr5'' (by have := k56.next; omega) fun b hb => by
                    have := k4.next
                    rcases List.mem_append.1 hb with hb | hb
                    · have := hQl b hb; omega
                    · have := hSn b hb; omega)
                  rw [t6, hLi] at e9
                  have n9 := u9.next
                  have hpQ : pr ∉ Q := fun hm => by
                    obtain ⟨rows, _, h2, _⟩ := hL
                    rcases h2 with ⟨rfl, _⟩ | ⟨q, rfl, _, hq, _⟩
                    · simp at hm
                    · simp only [List.mem_singleton] at hm
                      subst hm
                      exact hq (by simp)
                  have gp9 := (u9.get pr (by omega) hpQ).trans gBp
                  have hw : IntKind.i64.wrap ((i : Int) + 1) = (i : Int) + 1 := wrap64 (by omega) (by omega)
                  simp only [rowSt, stR] at e9
                  rw [hrow] at f1 hHB
                  rw [hE] at x7
                  simp -implicitDefEqProofs [J0,J1,J2,J3,J4,J5,J6,J7,J8,J9,Ja,Jb,Jc,Jd,Je,Jf,Jg,Jh,Ji,Jj,Jk,Jl,Jm,Jn,Jo,Jp,Jq,Jr,Js,Jt,Ju,Jv,Jw,Jx,Jy,Jz,JA,JB,JC,JD,JE,JF,JG,JH,JI,JJ,JK,JL,JM,JN,JO,JP,stillI,IOp.kind,JQ,JR,JS,JT,JU,JV,JW,JX,JY,JZ,Y0,Y1,Y2,Y3,Y4,Y5,Y6,Y7,Y8,Y9,Ya,Yb,Yc,Yd,Ye,Yf,Yg,Yh,Yi,Yj,Yk,Yl,Ym,Yn,ial,Yo,Yp,Yq,Yr,Ys,Yt,Yu,Yv,ires,iresL,ires1,Yw,Yx,Yy,Yz,YA,YB,bin2,YC,YD,YE,YF,YG,YH,YI,YJ,YK,YL,YM,YN,YO,YP,YQ,YR,un1,shOk,eqL,eq1,fillL,putAt,IHeap.load1,IHeap.loadL,IHeap.storeL,YS,YT,YU,YV,YW,YX,YY,YZ,B0,B1,B2,B3,B4,B5,B6,B7,B8,B9,Ba,Bb,Bc,Bd,Be,Bf,Bg,Bh,Bi,Bj,Bk,Bl,Bm, s1, s3, x7, b7, gp7, hp1, ← hHB, lenOfI, f1, e9, t4, t5, t6, t7, hw]
                  refine ⟨k', by omega, i + 1, by omega, by simp, ?_, (sE r).1, L ++ [stR r], [HB.next], by simp [hLi], by omega, gp9, y5, ?_, hrd, ?_⟩
                  · have hprH : H.next ≤ pr := by omega
                    exact ((hle.trans k7).updLe uB (by simp; omega)).updLe u9 hQ
                  · rw [hLi] at l9; exact l9
                  · simp; have := k7.next; omega
        · have hk0 : k = 0 := by omega
          subst hk0
          have hin : (i : Int) = n := by omega
          rw [hrd] at h0 h1
          simp only [rdL] at h0 h1
          simp -implicitDefEqProofs [J0,J1,J2,J3,J4,J5,J6,J7,J8,J9,Ja,Jb,Jc,Jd,Je,Jf,Jg,Jh,Ji,Jj,Jk,Jl,Jm,Jn,Jo,Jp,Jq,Jr,Js,Jt,Ju,Jv,Jw,Jx,Jy,Jz,JA,JB,JC,JD,JE,JF,JG,JH,JI,JJ,JK,JL,JM,JN,JO,JP,stillI,IOp.kind,JQ,JR,JS,JT,JU,JV,JW,JX,JY,JZ,Y0,Y1,Y2,Y3,Y4,Y5,Y6,Y7,Y8,Y9,Ya,Yb,Yc,Yd,Ye,Yf,Yg,Yh,Yi,Yj,Yk,Yl,Ym,Yn,ial,Yo,Yp,Yq,Yr,Ys,Yt,Yu,Yv,ires,iresL,ires1,Yw,Yx,Yy,Yz,YA,YB,bin2,YC,YD,YE,YF,YG,YH,YI,YJ,YK,YL,YM,YN,YO,YP,YQ,YR,un1,shOk,eqL,eq1,fillL,putAt,IHeap.load1,IHeap.loadL,IHeap.storeL,YS,YT,YU,YV,YW,YX,YY,YZ,B0,B1,B2,B3,B4,B5,B6,B7,B8,B9,Ba,Bb,Bc,Bd,Be,Bf,Bg,Bh,Bi,Bj,Bk,Bl,Bm, t4, t5, t6, t7, hil, gr]
          refine call_of (refEnd_ok c h3 (r := r) fun A1 j1 => ?_)
          by_cases hE : rdE r = 0
          · have hrs := (hL.less (S' := S) (by simp +contextual)).rs.le j1
            rw [t6] at hrs
            have hlen : L.length ≤ 4096 := by omega
            simp -implicitDefEqProofs [J0,J1,J2,J3,J4,J5,J6,J7,J8,J9,Ja,Jb,Jc,Jd,Je,Jf,Jg,Jh,Ji,Jj,Jk,Jl,Jm,Jn,Jo,Jp,Jq,Jr,Js,Jt,Ju,Jv,Jw,Jx,Jy,Jz,JA,JB,JC,JD,JE,JF,JG,JH,JI,JJ,JK,JL,JM,JN,JO,JP,stillI,IOp.kind,JQ,JR,JS,JT,JU,JV,JW,JX,JY,JZ,Y0,Y1,Y2,Y3,Y4,Y5,Y6,Y7,Y8,Y9,Ya,Yb,Yc,Yd,Ye,Yf,Yg,Yh,Yi,Yj,Yk,Yl,Ym,Yn,ial,Yo,Yp,Yq,Yr,Ys,Yt,Yu,Yv,ires,iresL,ires1,Yw,Yx,Yy,Yz,YA,YB,bin2,YC,YD,YE,YF,YG,YH,YI,YJ,YK,YL,YM,YN,YO,YP,YQ,YR,un1,shOk,eqL,eq1,fillL,putAt,IHeap.load1,IHeap.loadL,IHeap.storeL,YS,YT,YU,YV,YW,YX,YY,YZ,B0,B1,B2,B3,B4,B5,B6,B7,B8,B9,Ba,Bb,Bc,Bd,Be,Bf,Bg,Bh,Bi,Bj,Bk,Bl,Bm, hE, t5, t6]
            refine call_of (RList_ok c hR (st := 3) hrs hlen fun v2 HC kC s2 _ => ?_)
            obtain ⟨a2, c2, rfl⟩ := s2.len
            have hop := opn_free L
            have hople := opn_le L
            rw [List.length_map]
            obtain ⟨nf, hnf⟩ : ∃ n, n = (wh (fun x => decide (x.st = 3)) 0 L).length := ⟨_, rfl⟩
            rw [← hnf] at hop ⊢
            have hsub : IntKind.i64.wrap (n - (nf : Int)) = (opn L : Int) := by rw [wrap64 (by omega) (by omega)]; omega
            by_cases hO : opn L ≤ 256
            · have hO' : ¬ (256 : Int) < (opn L : Int) := by omega
              simp -implicitDefEqProofs [J0,J1,J2,J3,J4,J5,J6,J7,J8,J9,Ja,Jb,Jc,Jd,Je,Jf,Jg,Jh,Ji,Jj,Jk,Jl,Jm,Jn,Jo,Jp,Jq,Jr,Js,Jt,Ju,Jv,Jw,Jx,Jy,Jz,JA,JB,JC,JD,JE,JF,JG,JH,JI,JJ,JK,JL,JM,JN,JO,JP,stillI,IOp.kind,JQ,JR,JS,JT,JU,JV,JW,JX,JY,JZ,Y0,Y1,Y2,Y3,Y4,Y5,Y6,Y7,Y8,Y9,Ya,Yb,Yc,Yd,Ye,Yf,Yg,Yh,Yi,Yj,Yk,Yl,Ym,Yn,ial,Yo,Yp,Yq,Yr,Ys,Yt,Yu,Yv,ires,iresL,ires1,Yw,Yx,Yy,Yz,YA,YB,bin2,YC,YD,YE,YF,YG,YH,YI,YJ,YK,YL,YM,YN,YO,YP,YQ,YR,un1,shOk,eqL,eq1,fillL,putAt,IHeap.load1,IHeap.loadL,IHeap.storeL,YS,YT,YU,YV,YW,YX,YY,YZ,B0,B1,B2,B3,B4,B5,B6,B7,B8,B9,Ba,Bb,Bc,Bd,Be,Bf,Bg,Bh,Bi,Bj,Bk,Bl,Bm, t6, hsub, hO, hO']
              exact h1 L (by rw [if_pos ⟨hE, hO⟩]) _ _ (hle.trans (j1.trans kC)) (hrs.le kC)
            · have hO' : (256 : Int) < (opn L : Int) := by omega
              simp -implicitDefEqProofs [J0,J1,J2,J3,J4,J5,J6,J7,J8,J9,Ja,Jb,Jc,Jd,Je,Jf,Jg,Jh,Ji,Jj,Jk,Jl,Jm,Jn,Jo,Jp,Jq,Jr,Js,Jt,Ju,Jv,Jw,Jx,Jy,Jz,JA,JB,JC,JD,JE,JF,JG,JH,JI,JJ,JK,JL,JM,JN,JO,JP,stillI,IOp.kind,JQ,JR,JS,JT,JU,JV,JW,JX,JY,JZ,Y0,Y1,Y2,Y3,Y4,Y5,Y6,Y7,Y8,Y9,Ya,Yb,Yc,Yd,Ye,Yf,Yg,Yh,Yi,Yj,Yk,Yl,Ym,Yn,ial,Yo,Yp,Yq,Yr,Ys,Yt,Yu,Yv,ires,iresL,ires1,Yw,Yx,Yy,Yz,YA,YB,bin2,YC,YD,YE,YF,YG,YH,YI,YJ,YK,YL,YM,YN,YO,YP,YQ,YR,un1,shOk,eqL,eq1,fillL,putAt,IHeap.load1,IHeap.loadL,IHeap.storeL,YS,YT,YU,YV,YW,YX,YY,YZ,B0,B1,B2,B3,B4,B5,B6,B7,B8,B9,Ba,Bb,Bc,Bd,Be,Bf,Bg,Bh,Bi,Bj,Bk,Bl,Bm, t6, hsub, hO, hO']
              exact h0 (by rw [if_neg (fun hh => hO hh.2)]) _ (hle.trans (j1.trans kC))
          · simp -implicitDefEqProofs [J0,J1,J2,J3,J4,J5,J6,J7,J8,J9,Ja,Jb,Jc,Jd,Je,Jf,Jg,Jh,Ji,Jj,Jk,Jl,Jm,Jn,Jo,Jp,Jq,Jr,Js,Jt,Ju,Jv,Jw,Jx,Jy,Jz,JA,JB,JC,JD,JE,JF,JG,JH,JI,JJ,JK,JL,JM,JN,JO,JP,stillI,IOp.kind,JQ,JR,JS,JT,JU,JV,JW,JX,JY,JZ,Y0,Y1,Y2,Y3,Y4,Y5,Y6,Y7,Y8,Y9,Ya,Yb,Yc,Yd,Ye,Yf,Yg,Yh,Yi,Yj,Yk,Yl,Ym,Yn,ial,Yo,Yp,Yq,Yr,Ys,Yt,Yu,Yv,ires,iresL,ires1,Yw,Yx,Yy,Yz,YA,YB,bin2,YC,YD,YE,YF,YG,YH,YI,YJ,YK,YL,YM,YN,YO,YP,YQ,YR,un1,shOk,eqL,eq1,fillL,putAt,IHeap.load1,IHeap.loadL,IHeap.storeL,YS,YT,YU,YV,YW,YX,YY,YZ,B0,B1,B2,B3,B4,B5,B6,B7,B8,B9,Ba,Bb,Bc,Bd,Be,Bf,Bg,Bh,Bi,Bj,Bk,Bl,Bm, hE]
            exact h0 (by rw [if_neg (fun hh => hE hh.1)]) _ (hle.trans j1)

end
end Go.Proofs.YtmdkkhnenciknaaI
