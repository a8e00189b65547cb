/- The document's answer for who is in a group: of bytes. -/
import Derived.Test.YtkphglpmhebglaaRefM5
namespace Go.Proofs.YtkphglpmhebglaaI
set_option linter.unusedSimpArgs false
set_option linter.unusedVariables false
open Go

theorem takeByte_le {r : Rd} (h : (rdS r).length ≤ 1000000) : (rdS (takeByte r).1).length ≤ 1000000 := by
  match r, h with
  | none, _ => simp [takeByte, rdS]
  | some [], _ => simp [takeByte, rdS]
  | some (b :: s), h => simp only [takeByte, rdS, List.length_cons] at h ⊢; omega
theorem takeMany_le : ∀ (k : Nat) (acc : List Int) (r : Rd), (rdS r).length ≤ 1000000 → (rdS (takeMany takeInt k acc r).1).length ≤ 1000000
  | 0, acc, r, h => h
  | k + 1, acc, r, h => by
    have h1 := takeInt_le h
    rw [takeMany]
    rcases hx : takeInt r with ⟨x, n⟩
    rw [hx] at h1
    cases x with
    | none => simp [rdS]
    | some s => exact takeMany_le k (acc ++ [n]) (some s) h1
theorem takeList_le {r : Rd} (h : (rdS r).length ≤ 1000000) : (rdS (takeList takeInt r).1).length ≤ 1000000 := by
  have h1 := takeInt_le h
  unfold takeList
  rcases hx : takeInt r with ⟨x, n⟩
  rw [hx] at h1
  cases x with
  | none => simp [rdS]
  | some s =>
    simp only
    split
    · simp [rdS]
    · exact takeMany_le _ _ _ h1

def mZ : List Value := [.slice none 0 0, .slice none 0 0, .int .i64 0, .int .i64 0, .bool false, .int .i64 0]

section
variable (c : Ctx) (hR : HasRef23 c) (hc : HasRef03 c) {H : IHeap} {K : Value → IHeap → Prop}

include hR hc in
theorem RRead_ok23 {S : List Nat} {s : List UInt8} (hs : s.length ≤ 1000000) (hSl : ∀ b ∈ S, b < H.next) (h0 : readOk s = false → ∀ H', H.le H' → K (.tuple #[mV0, .int .i64 3]) H')
    (h1 : readOk s = true → ∀ v' H', H.le H' → RM H' S v' (pM s) → K (.tuple #[v', .int .i64 0]) H') :
    c.C (c.F n_hurdleref23_Read) [strV s] H K := by
  refine c.enter hR.hurdleref23_Read rfl ?_
  simp -implicitDefEqProofs [J0,J1,J2,J3,J4,J5,J6,J7,J8,J9,Ja,Jb,Jc,Jd,Je,Jf,Jg,Jh,Ji,Jj,Jk,Jl,Jm,Jn,Jo,Jp,Jq,Jr,Js,Jt,Ju,Jv,Jw,Jx,Jy,Jz,JA,JB,JC,JD,JE,JF,JG,JH,JI,JJ,JK,JL,JM,JN,JO,JP,stillI,IOp.kind,JQ,JR,JS,JT,JU,JV,JW,JX,JY,JZ,Y0,Y1,Y2,Y3,Y4,Y5,Y6,Y7,Y8,Y9,Ya,Yb,Yc,Yd,Ye,Yf,Yg,Yh,Yi,Yj,Yk,Yl,Ym,Yn,ial,Yo,Yp,Yq,Yr,Ys,Yt,Yu,Yv,ires,iresL,ires1,Yw,Yx,Yy,Yz,YA,YB,bin2,YC,YD,YE,YF,YG,YH,YI,YJ,YK,YL,YM,YN,YO,YP,YQ,YR,un1,shOk,eqL,eq1,fillL,putAt,IHeap.load1,IHeap.loadL,IHeap.storeL,YS,YT,YU,YV,YW,YX,YY,YZ,B0,B1,B2,B3,B4,B5,B6,B7,B8,B9,Ba,Bb,Bc,Bd,Be,Bf,Bg,Bh,Bi,Bj,Bk,Bl,Bm, c_hurdleref23_Read]
  obtain ⟨X0, hX0⟩ : ∃ X : IHeap, X = ((H.alloc (.cells mZ false)).alloc (.cells [.string ⟨#[]⟩, .bool false] false)).set (H.next + 1) (.cells [strV s, .bool false] false) := ⟨_, rfl⟩
  have x0 : X0.get (H.next + 1) = some (.cells [strV s, .bool false] false) := by rw [hX0, YT, if_pos rfl]
  have z0 : X0.get H.next = some (.cells mZ false) := by rw [hX0]; simp -implicitDefEqProofs [J0,J1,J2,J3,J4,J5,J6,J7,J8,J9,Ja,Jb,Jc,Jd,Je,Jf,Jg,Jh,Ji,Jj,Jk,Jl,Jm,Jn,Jo,Jp,Jq,Jr,Js,Jt,Ju,Jv,Jw,Jx,Jy,Jz,JA,JB,JC,JD,JE,JF,JG,JH,JI,JJ,JK,JL,JM,JN,JO,JP,stillI,IOp.kind,JQ,JR,JS,JT,JU,JV,JW,JX,JY,JZ,Y0,Y1,Y2,Y3,Y4,Y5,Y6,Y7,Y8,Y9,Ya,Yb,Yc,Yd,Ye,Yf,Yg,Yh,Yi,Yj,Yk,Yl,Ym,Yn,ial,Yo,Yp,Yq,Yr,Ys,Yt,Yu,Yv,ires,iresL,ires1,Yw,Yx,Yy,Yz,YA,YB,bin2,YC,YD,YE,YF,YG,YH,YI,YJ,YK,YL,YM,YN,YO,YP,YQ,YR,un1,shOk,eqL,eq1,fillL,putAt,IHeap.load1,IHeap.loadL,IHeap.storeL,YS,YT,YU,YV,YW,YX,YY,YZ,B0,B1,B2,B3,B4,B5,B6,B7,B8,B9,Ba,Bb,Bc,Bd,Be,Bf,Bg,Bh,Bi,Bj,Bk,Bl,Bm]
  have m0 : X0.next = H.next + 2 := by rw [hX0]; rfl
  have k0 : H.le X0 := by rw [hX0]; exact ((H.le_alloc _).alloc _).set (by omega) _
  have y0 : (rdS (some s)).length ≤ 1000000 := hs
  rw [show ((H.alloc (.cells [.slice none 0 0, .slice none 0 0, .int .i64 0, .int .i64 0, .bool false, .int .i64 0] false)).alloc (.cells [.string ⟨#[]⟩, .bool false] false)).set (H.next + 1) (.cells [strV s, .bool false] false) = X0 from hX0.symm]
  refine call_of (refTakeInt_ok c hc (r := some s) y0 fun A1 j1 => ?_)
  rw [show takeInt (some s) = pE s from rfl]
  have n1 := j1.next
  have g1 := (j1.get (H.next + 1) (by omega)).trans x0
  have f1 := (j1.get H.next (by omega)).trans z0
  have y1 : (rdS (pE s).1).length ≤ 1000000 := takeInt_le y0
  simp -implicitDefEqProofs [J0,J1,J2,J3,J4,J5,J6,J7,J8,J9,Ja,Jb,Jc,Jd,Je,Jf,Jg,Jh,Ji,Jj,Jk,Jl,Jm,Jn,Jo,Jp,Jq,Jr,Js,Jt,Ju,Jv,Jw,Jx,Jy,Jz,JA,JB,JC,JD,JE,JF,JG,JH,JI,JJ,JK,JL,JM,JN,JO,JP,stillI,IOp.kind,JQ,JR,JS,JT,JU,JV,JW,JX,JY,JZ,Y0,Y1,Y2,Y3,Y4,Y5,Y6,Y7,Y8,Y9,Ya,Yb,Yc,Yd,Ye,Yf,Yg,Yh,Yi,Yj,Yk,Yl,Ym,Yn,ial,Yo,Yp,Yq,Yr,Ys,Yt,Yu,Yv,ires,iresL,ires1,Yw,Yx,Yy,Yz,YA,YB,bin2,YC,YD,YE,YF,YG,YH,YI,YJ,YK,YL,YM,YN,YO,YP,YQ,YR,un1,shOk,eqL,eq1,fillL,putAt,IHeap.load1,IHeap.loadL,IHeap.storeL,YS,YT,YU,YV,YW,YX,YY,YZ,B0,B1,B2,B3,B4,B5,B6,B7,B8,B9,Ba,Bb,Bc,Bd,Be,Bf,Bg,Bh,Bi,Bj,Bk,Bl,Bm, rV, g1]
  obtain ⟨X1, hX1⟩ : ∃ X : IHeap, X = A1.set (H.next + 1) (.cells [strV (rdS (pE s).1), .bool (pE s).1.isNone] false) := ⟨_, rfl⟩
  rw [← hX1]
  have x1 : X1.get (H.next + 1) = some (.cells [strV (rdS (pE s).1), .bool (pE s).1.isNone] false) := by rw [hX1, YT, if_pos rfl]
  have z1 : X1.get H.next = some (.cells mZ false) := by rw [hX1, YT, if_neg (by omega)]; exact f1
  have m1 : X1.next = A1.next := by rw [hX1]; rfl
  have k1 : H.le X1 := by rw [hX1]; exact (k0.trans j1).set (by omega) _
  have u1 : IHeap.upd [H.next + 1] X0 X1 := by rw [hX1]; exact (j1.upd _).set (.inr (by simp)) _
  refine call_of (refTakeInt_ok c hc (r := (pE s).1) y1 fun A2 j2 => ?_)
  rw [show takeInt (pE s).1 = pH s from rfl]
  have n2 := j2.next
  have g2 := (j2.get (H.next + 1) (by omega)).trans x1
  have f2 := (j2.get H.next (by omega)).trans z1
  have y2 : (rdS (pH s).1).length ≤ 1000000 := takeInt_le y1
  simp -implicitDefEqProofs [J0,J1,J2,J3,J4,J5,J6,J7,J8,J9,Ja,Jb,Jc,Jd,Je,Jf,Jg,Jh,Ji,Jj,Jk,Jl,Jm,Jn,Jo,Jp,Jq,Jr,Js,Jt,Ju,Jv,Jw,Jx,Jy,Jz,JA,JB,JC,JD,JE,JF,JG,JH,JI,JJ,JK,JL,JM,JN,JO,JP,stillI,IOp.kind,JQ,JR,JS,JT,JU,JV,JW,JX,JY,JZ,Y0,Y1,Y2,Y3,Y4,Y5,Y6,Y7,Y8,Y9,Ya,Yb,Yc,Yd,Ye,Yf,Yg,Yh,Yi,Yj,Yk,Yl,Ym,Yn,ial,Yo,Yp,Yq,Yr,Ys,Yt,Yu,Yv,ires,iresL,ires1,Yw,Yx,Yy,Yz,YA,YB,bin2,YC,YD,YE,YF,YG,YH,YI,YJ,YK,YL,YM,YN,YO,YP,YQ,YR,un1,shOk,eqL,eq1,fillL,putAt,IHeap.load1,IHeap.loadL,IHeap.storeL,YS,YT,YU,YV,YW,YX,YY,YZ,B0,B1,B2,B3,B4,B5,B6,B7,B8,B9,Ba,Bb,Bc,Bd,Be,Bf,Bg,Bh,Bi,Bj,Bk,Bl,Bm, rV, g2]
  obtain ⟨X2, hX2⟩ : ∃ X : IHeap, X = A2.set (H.next + 1) (.cells [strV (rdS (pH s).1), .bool (pH s).1.isNone] false) := ⟨_, rfl⟩
  rw [← hX2]
  have x2 : X2.get (H.next + 1) = some (.cells [strV (rdS (pH s).1), .bool (pH s).1.isNone] false) := by rw [hX2, YT, if_pos rfl]
  have z2 : X2.get H.next = some (.cells mZ false) := by rw [hX2, YT, if_neg (by omega)]; exact f2
  have m2 : X2.next = A2.next := by rw [hX2]; rfl
  have k2 : H.le X2 := by rw [hX2]; exact (k1.trans j2).set (by omega) _
  have u2 : IHeap.upd [H.next + 1] X1 X2 := by rw [hX2]; exact (j2.upd _).set (.inr (by simp)) _
  refine call_of (refTakeByte_ok c hc (r := (pH s).1) fun A3 j3 => ?_)
  rw [show takeByte (pH s).1 = pF s from rfl]
  have n3 := j3.next
  have g3 := (j3.get (H.next + 1) (by omega)).trans x2
  have f3 := (j3.get H.next (by omega)).trans z2
  have y3 : (rdS (pF s).1).length ≤ 1000000 := takeByte_le y2
  simp -implicitDefEqProofs [J0,J1,J2,J3,J4,J5,J6,J7,J8,J9,Ja,Jb,Jc,Jd,Je,Jf,Jg,Jh,Ji,Jj,Jk,Jl,Jm,Jn,Jo,Jp,Jq,Jr,Js,Jt,Ju,Jv,Jw,Jx,Jy,Jz,JA,JB,JC,JD,JE,JF,JG,JH,JI,JJ,JK,JL,JM,JN,JO,JP,stillI,IOp.kind,JQ,JR,JS,JT,JU,JV,JW,JX,JY,JZ,Y0,Y1,Y2,Y3,Y4,Y5,Y6,Y7,Y8,Y9,Ya,Yb,Yc,Yd,Ye,Yf,Yg,Yh,Yi,Yj,Yk,Yl,Ym,Yn,ial,Yo,Yp,Yq,Yr,Ys,Yt,Yu,Yv,ires,iresL,ires1,Yw,Yx,Yy,Yz,YA,YB,bin2,YC,YD,YE,YF,YG,YH,YI,YJ,YK,YL,YM,YN,YO,YP,YQ,YR,un1,shOk,eqL,eq1,fillL,putAt,IHeap.load1,IHeap.loadL,IHeap.storeL,YS,YT,YU,YV,YW,YX,YY,YZ,B0,B1,B2,B3,B4,B5,B6,B7,B8,B9,Ba,Bb,Bc,Bd,Be,Bf,Bg,Bh,Bi,Bj,Bk,Bl,Bm, rV, g3]
  obtain ⟨X3, hX3⟩ : ∃ X : IHeap, X = A3.set (H.next + 1) (.cells [strV (rdS (pF s).1), .bool (pF s).1.isNone] false) := ⟨_, rfl⟩
  rw [← hX3]
  have x3 : X3.get (H.next + 1) = some (.cells [strV (rdS (pF s).1), .bool (pF s).1.isNone] false) := by rw [hX3, YT, if_pos rfl]
  have z3 : X3.get H.next = some (.cells mZ false) := by rw [hX3, YT, if_neg (by omega)]; exact f3
  have m3 : X3.next = A3.next := by rw [hX3]; rfl
  have k3 : H.le X3 := by rw [hX3]; exact (k2.trans j3).set (by omega) _
  have u3 : IHeap.upd [H.next + 1] X2 X3 := by rw [hX3]; exact (j3.upd _).set (.inr (by simp)) _
  refine call_of (refTakeInt_ok c hc (r := (pF s).1) y3 fun A4 j4 => ?_)
  rw [show takeInt (pF s).1 = pG s from rfl]
  have n4 := j4.next
  have g4 := (j4.get (H.next + 1) (by omega)).trans x3
  have f4 := (j4.get H.next (by omega)).trans z3
  have y4 : (rdS (pG s).1).length ≤ 1000000 := takeInt_le y3
  simp -implicitDefEqProofs [J0,J1,J2,J3,J4,J5,J6,J7,J8,J9,Ja,Jb,Jc,Jd,Je,Jf,Jg,Jh,Ji,Jj,Jk,Jl,Jm,Jn,Jo,Jp,Jq,Jr,Js,Jt,Ju,Jv,Jw,Jx,Jy,Jz,JA,JB,JC,JD,JE,JF,JG,JH,JI,JJ,JK,JL,JM,JN,JO,JP,stillI,IOp.kind,JQ,JR,JS,JT,JU,JV,JW,JX,JY,JZ,Y0,Y1,Y2,Y3,Y4,Y5,Y6,Y7,Y8,Y9,Ya,Yb,Yc,Yd,Ye,Yf,Yg,Yh,Yi,Yj,Yk,Yl,Ym,Yn,ial,Yo,Yp,Yq,Yr,Ys,Yt,Yu,Yv,ires,iresL,ires1,Yw,Yx,Yy,Yz,YA,YB,bin2,YC,YD,YE,YF,YG,YH,YI,YJ,YK,YL,YM,YN,YO,YP,YQ,YR,un1,shOk,eqL,eq1,fillL,putAt,IHeap.load1,IHeap.loadL,IHeap.storeL,YS,YT,YU,YV,YW,YX,YY,YZ,B0,B1,B2,B3,B4,B5,B6,B7,B8,B9,Ba,Bb,Bc,Bd,Be,Bf,Bg,Bh,Bi,Bj,Bk,Bl,Bm, rV, g4]
  obtain ⟨X4, hX4⟩ : ∃ X : IHeap, X = A4.set (H.next + 1) (.cells [strV (rdS (pG s).1), .bool (pG s).1.isNone] false) := ⟨_, rfl⟩
  rw [← hX4]
  have x4 : X4.get (H.next + 1) = some (.cells [strV (rdS (pG s).1), .bool (pG s).1.isNone] false) := by rw [hX4, YT, if_pos rfl]
  have z4 : X4.get H.next = some (.cells mZ false) := by rw [hX4, YT, if_neg (by omega)]; exact f4
  have m4 : X4.next = A4.next := by rw [hX4]; rfl
  have k4 : H.le X4 := by rw [hX4]; exact (k3.trans j4).set (by omega) _
  have u4 : IHeap.upd [H.next + 1] X3 X4 := by rw [hX4]; exact (j4.upd _).set (.inr (by simp)) _
  refine call_of (refTakeInts_ok c hc (r := (pG s).1) y4 fun v5 A5 j5 gr5 => ?_)
  rw [show takeList takeInt (pG s).1 = pL s from rfl] at gr5 ⊢
  have n5 := j5.next
  have g5 := (j5.get (H.next + 1) (by omega)).trans x4
  have f5 := (j5.get H.next (by omega)).trans z4
  have y5 : (rdS (pL s).1).length ≤ 1000000 := takeList_le y4
  simp -implicitDefEqProofs [J0,J1,J2,J3,J4,J5,J6,J7,J8,J9,Ja,Jb,Jc,Jd,Je,Jf,Jg,Jh,Ji,Jj,Jk,Jl,Jm,Jn,Jo,Jp,Jq,Jr,Js,Jt,Ju,Jv,Jw,Jx,Jy,Jz,JA,JB,JC,JD,JE,JF,JG,JH,JI,JJ,JK,JL,JM,JN,JO,JP,stillI,IOp.kind,JQ,JR,JS,JT,JU,JV,JW,JX,JY,JZ,Y0,Y1,Y2,Y3,Y4,Y5,Y6,Y7,Y8,Y9,Ya,Yb,Yc,Yd,Ye,Yf,Yg,Yh,Yi,Yj,Yk,Yl,Ym,Yn,ial,Yo,Yp,Yq,Yr,Ys,Yt,Yu,Yv,ires,iresL,ires1,Yw,Yx,Yy,Yz,YA,YB,bin2,YC,YD,YE,YF,YG,YH,YI,YJ,YK,YL,YM,YN,YO,YP,YQ,YR,un1,shOk,eqL,eq1,fillL,putAt,IHeap.load1,IHeap.loadL,IHeap.storeL,YS,YT,YU,YV,YW,YX,YY,YZ,B0,B1,B2,B3,B4,B5,B6,B7,B8,B9,Ba,Bb,Bc,Bd,Be,Bf,Bg,Bh,Bi,Bj,Bk,Bl,Bm, rV, g5]
  obtain ⟨X5, hX5⟩ : ∃ X : IHeap, X = A5.set (H.next + 1) (.cells [strV (rdS (pL s).1), .bool (pL s).1.isNone] false) := ⟨_, rfl⟩
  rw [← hX5]
  have x5 : X5.get (H.next + 1) = some (.cells [strV (rdS (pL s).1), .bool (pL s).1.isNone] false) := by rw [hX5, YT, if_pos rfl]
  have z5 : X5.get H.next = some (.cells mZ false) := by rw [hX5, YT, if_neg (by omega)]; exact f5
  have m5 : X5.next = A5.next := by rw [hX5]; rfl
  have k5 : H.le X5 := by rw [hX5]; exact (k4.trans j5).set (by omega) _
  have u5 : IHeap.upd [H.next + 1] X4 X5 := by rw [hX5]; exact (j5.upd _).set (.inr (by simp)) _
  refine call_of (refTakeInts_ok c hc (r := (pL s).1) y5 fun v6 A6 j6 gr6 => ?_)
  rw [show takeList takeInt (pL s).1 = pS s from rfl] at gr6 ⊢
  have n6 := j6.next
  have g6 := (j6.get (H.next + 1) (by omega)).trans x5
  have f6 := (j6.get H.next (by omega)).trans z5
  have hH : ∀ b ∈ [H.next + 1], b < X4.next := fun b hb => by simp only [List.mem_singleton] at hb; omega
  have hH' : ∀ b ∈ [H.next + 1], b < X5.next := fun b hb => by simp only [List.mem_singleton] at hb; omega
  have gr5' : Grow A6 X4.next 1 v5 ((pL s).2.map rowI) := (gr5.upd (S := [H.next + 1]) (show IHeap.upd [H.next + 1] A5 X5 by rw [hX5]; exact (IHeap.upd_refl _ _).set (.inr (by simp)) _) hH).le j6
  have ll5 : (pL s).2.length ≤ 1000000 := takeList_len y4
  have ll6 : (pS s).2.length ≤ 1000000 := takeList_len y5
  have gr6' := gr6
  obtain ⟨a5, c5, rfl⟩ := gr5.len
  obtain ⟨a6, c6, rfl⟩ := gr6.len
  simp only [List.length_map] at gr5' gr6'
  have e1 : ¬ H.next + 1 = A6.next := by omega
  simp -implicitDefEqProofs [J0,J1,J2,J3,J4,J5,J6,J7,J8,J9,Ja,Jb,Jc,Jd,Je,Jf,Jg,Jh,Ji,Jj,Jk,Jl,Jm,Jn,Jo,Jp,Jq,Jr,Js,Jt,Ju,Jv,Jw,Jx,Jy,Jz,JA,JB,JC,JD,JE,JF,JG,JH,JI,JJ,JK,JL,JM,JN,JO,JP,stillI,IOp.kind,JQ,JR,JS,JT,JU,JV,JW,JX,JY,JZ,Y0,Y1,Y2,Y3,Y4,Y5,Y6,Y7,Y8,Y9,Ya,Yb,Yc,Yd,Ye,Yf,Yg,Yh,Yi,Yj,Yk,Yl,Ym,Yn,ial,Yo,Yp,Yq,Yr,Ys,Yt,Yu,Yv,ires,iresL,ires1,Yw,Yx,Yy,Yz,YA,YB,bin2,YC,YD,YE,YF,YG,YH,YI,YJ,YK,YL,YM,YN,YO,YP,YQ,YR,un1,shOk,eqL,eq1,fillL,putAt,IHeap.load1,IHeap.loadL,IHeap.storeL,YS,YT,YU,YV,YW,YX,YY,YZ,B0,B1,B2,B3,B4,B5,B6,B7,B8,B9,Ba,Bb,Bc,Bd,Be,Bf,Bg,Bh,Bi,Bj,Bk,Bl,Bm, rV, g6, e1]
  obtain ⟨X6, hX6⟩ : ∃ X : IHeap, X = ((A6.set (H.next + 1) (.cells [strV (rdS (pS s).1), .bool (pS s).1.isNone] false)).alloc (.cells mZ false)).set A6.next (.cells [.slice a5 (pL s).2.length c5, .slice a6 (pS s).2.length c6, .int .i64 (pE s).2, .int .i64 (pH s).2, .bool (decide ((pF s).2 = 1)), .int .i64 (pG s).2] false) := ⟨_, rfl⟩
  have x6 : X6.get (H.next + 1) = some (.cells [strV (rdS (pS s).1), .bool (pS s).1.isNone] false) := by rw [hX6, YT, if_neg (by omega), YS, if_neg (by simp only [YV]; omega), YT, if_pos rfl]
  have z6 : X6.get H.next = some (.cells mZ false) := by rw [hX6, YT, if_neg (by omega), YS, if_neg (by simp only [YV]; omega), YT, if_neg (by omega)]; exact f6
  have b6 : X6.get A6.next = some (.cells [.slice a5 (pL s).2.length c5, .slice a6 (pS s).2.length c6, .int .i64 (pE s).2, .int .i64 (pH s).2, .bool (decide ((pF s).2 = 1)), .int .i64 (pG s).2] false) := by rw [hX6, YT, if_pos rfl]
  have m6 : X6.next = A6.next + 1 := by rw [hX6]; rfl
  have u6 : IHeap.upd [H.next + 1] A6 X6 := by rw [hX6]; exact (((IHeap.upd_refl _ _).set (.inr (by simp)) _).alloc _).set (.inl (Nat.le_refl _)) _
  have k6 : H.le X6 := (k5.trans j6).updLe u6 (fun b hb => by simp only [List.mem_singleton] at hb; omega)
  have g5 := gr5'.upd u6 hH
  have g6' := gr6'.upd u6 hH'
  rw [show ((A6.set (H.next + 1) (.cells [strV (rdS (pS s).1), .bool (pS s).1.isNone] false)).alloc (.cells [.slice none 0 0, .slice none 0 0, .int .i64 0, .int .i64 0, .bool false, .int .i64 0] false)).set A6.next (.cells [.slice a5 (pL s).2.length c5, .slice a6 (pS s).2.length c6, .int .i64 (pE s).2, .int .i64 (pH s).2, .bool (decide ((pF s).2 = 1)), .int .i64 (pG s).2] false) = X6 from hX6.symm]
  refine call_of (refEnd_ok c hc (r := (pS s).1) fun A7 j7 => ?_)
  have n7 := j7.next
  have f7 := (j7.get H.next (by omega)).trans z6
  have b7 := (j7.get A6.next (by omega)).trans b6
  have k7 := k6.trans j7
  by_cases hE : rdE (pS s).1 = 0
  · by_cases hF : (pF s).2 ≤ 1
    · have hF' : ¬ 1 < (pF s).2 := by omega
      simp -implicitDefEqProofs [J0,J1,J2,J3,J4,J5,J6,J7,J8,J9,Ja,Jb,Jc,Jd,Je,Jf,Jg,Jh,Ji,Jj,Jk,Jl,Jm,Jn,Jo,Jp,Jq,Jr,Js,Jt,Ju,Jv,Jw,Jx,Jy,Jz,JA,JB,JC,JD,JE,JF,JG,JH,JI,JJ,JK,JL,JM,JN,JO,JP,stillI,IOp.kind,JQ,JR,JS,JT,JU,JV,JW,JX,JY,JZ,Y0,Y1,Y2,Y3,Y4,Y5,Y6,Y7,Y8,Y9,Ya,Yb,Yc,Yd,Ye,Yf,Yg,Yh,Yi,Yj,Yk,Yl,Ym,Yn,ial,Yo,Yp,Yq,Yr,Ys,Yt,Yu,Yv,ires,iresL,ires1,Yw,Yx,Yy,Yz,YA,YB,bin2,YC,YD,YE,YF,YG,YH,YI,YJ,YK,YL,YM,YN,YO,YP,YQ,YR,un1,shOk,eqL,eq1,fillL,putAt,IHeap.load1,IHeap.loadL,IHeap.storeL,YS,YT,YU,YV,YW,YX,YY,YZ,B0,B1,B2,B3,B4,B5,B6,B7,B8,B9,Ba,Bb,Bc,Bd,Be,Bf,Bg,Bh,Bi,Bj,Bk,Bl,Bm, hE, hF', b7]
      have hm : RM A7 S (.agg #[.slice a5 (pL s).2.length c5, .slice a6 (pS s).2.length c6, .int .i64 (pE s).2, .int .i64 (pH s).2, .bool (decide ((pF s).2 = 1)), .int .i64 (pG s).2]) (pM s) :=
        ⟨_, _, rfl, g5.slw.le j7, g6'.slw.le j7, Grow.far g5 n7 fun b hb => by have := hSl b hb; omega, Grow.far g6' n7 fun b hb => by have := hSl b hb; omega⟩
      refine call_of (may_ok c hR hm ll5 ll6 fun A8 j8 => ?_)
      have f8 := (j8.get H.next (by omega)).trans f7
      have b8 := (j8.get A6.next (by omega)).trans b7
      have n8 := j8.next
      by_cases hok : (grpB (pM s) && rightB (pM s)) = true
      · have hr : readOk s = true := by simp [readOk, hE, hF]; simpa using hok
        rw [hok]
        simp -implicitDefEqProofs [J0,J1,J2,J3,J4,J5,J6,J7,J8,J9,Ja,Jb,Jc,Jd,Je,Jf,Jg,Jh,Ji,Jj,Jk,Jl,Jm,Jn,Jo,Jp,Jq,Jr,Js,Jt,Ju,Jv,Jw,Jx,Jy,Jz,JA,JB,JC,JD,JE,JF,JG,JH,JI,JJ,JK,JL,JM,JN,JO,JP,stillI,IOp.kind,JQ,JR,JS,JT,JU,JV,JW,JX,JY,JZ,Y0,Y1,Y2,Y3,Y4,Y5,Y6,Y7,Y8,Y9,Ya,Yb,Yc,Yd,Ye,Yf,Yg,Yh,Yi,Yj,Yk,Yl,Ym,Yn,ial,Yo,Yp,Yq,Yr,Ys,Yt,Yu,Yv,ires,iresL,ires1,Yw,Yx,Yy,Yz,YA,YB,bin2,YC,YD,YE,YF,YG,YH,YI,YJ,YK,YL,YM,YN,YO,YP,YQ,YR,un1,shOk,eqL,eq1,fillL,putAt,IHeap.load1,IHeap.loadL,IHeap.storeL,YS,YT,YU,YV,YW,YX,YY,YZ,B0,B1,B2,B3,B4,B5,B6,B7,B8,B9,Ba,Bb,Bc,Bd,Be,Bf,Bg,Bh,Bi,Bj,Bk,Bl,Bm, b8, f8, mZ]
        have hH2 : ∀ b ∈ [H.next], b < X4.next := fun b hb => by simp only [List.mem_singleton] at hb; omega
        have hH3 : ∀ b ∈ [H.next], b < X5.next := fun b hb => by simp only [List.mem_singleton] at hb; omega
        have up : ∀ x, IHeap.upd [H.next] A8 (A8.set H.next x) := fun x => (IHeap.upd_refl _ _).set (.inr (by simp)) _
        exact h1 hr _ _ ((k7.trans j8).set (Nat.le_refl _) _) ⟨_, _, rfl, ((g5.le (j7.trans j8)).upd (up _) hH2).slw, ((g6'.le (j7.trans j8)).upd (up _) hH3).slw, Grow.far g5 (Nat.le_trans n7 n8) fun b hb => by have := hSl b hb; omega, Grow.far g6' (Nat.le_trans n7 n8) fun b hb => by have := hSl b hb; omega⟩
      · have hok' : (grpB (pM s) && rightB (pM s)) = false := by simpa using hok
        have hr : readOk s = false := by
          unfold readOk
          rw [hok']; simp
        rw [hok']
        simp -implicitDefEqProofs [J0,J1,J2,J3,J4,J5,J6,J7,J8,J9,Ja,Jb,Jc,Jd,Je,Jf,Jg,Jh,Ji,Jj,Jk,Jl,Jm,Jn,Jo,Jp,Jq,Jr,Js,Jt,Ju,Jv,Jw,Jx,Jy,Jz,JA,JB,JC,JD,JE,JF,JG,JH,JI,JJ,JK,JL,JM,JN,JO,JP,stillI,IOp.kind,JQ,JR,JS,JT,JU,JV,JW,JX,JY,JZ,Y0,Y1,Y2,Y3,Y4,Y5,Y6,Y7,Y8,Y9,Ya,Yb,Yc,Yd,Ye,Yf,Yg,Yh,Yi,Yj,Yk,Yl,Ym,Yn,ial,Yo,Yp,Yq,Yr,Ys,Yt,Yu,Yv,ires,iresL,ires1,Yw,Yx,Yy,Yz,YA,YB,bin2,YC,YD,YE,YF,YG,YH,YI,YJ,YK,YL,YM,YN,YO,YP,YQ,YR,un1,shOk,eqL,eq1,fillL,putAt,IHeap.load1,IHeap.loadL,IHeap.storeL,YS,YT,YU,YV,YW,YX,YY,YZ,B0,B1,B2,B3,B4,B5,B6,B7,B8,B9,Ba,Bb,Bc,Bd,Be,Bf,Bg,Bh,Bi,Bj,Bk,Bl,Bm, b8, f8, mZ]
        exact h0 hr _ ((k7.trans j8).set (Nat.le_refl _) _)
    · have hF' : 1 < (pF s).2 := by omega
      have hr : readOk s = false := by simp [readOk, hF]
      simp -implicitDefEqProofs [J0,J1,J2,J3,J4,J5,J6,J7,J8,J9,Ja,Jb,Jc,Jd,Je,Jf,Jg,Jh,Ji,Jj,Jk,Jl,Jm,Jn,Jo,Jp,Jq,Jr,Js,Jt,Ju,Jv,Jw,Jx,Jy,Jz,JA,JB,JC,JD,JE,JF,JG,JH,JI,JJ,JK,JL,JM,JN,JO,JP,stillI,IOp.kind,JQ,JR,JS,JT,JU,JV,JW,JX,JY,JZ,Y0,Y1,Y2,Y3,Y4,Y5,Y6,Y7,Y8,Y9,Ya,Yb,Yc,Yd,Ye,Yf,Yg,Yh,Yi,Yj,Yk,Yl,Ym,Yn,ial,Yo,Yp,Yq,Yr,Ys,Yt,Yu,Yv,ires,iresL,ires1,Yw,Yx,Yy,Yz,YA,YB,bin2,YC,YD,YE,YF,YG,YH,YI,YJ,YK,YL,YM,YN,YO,YP,YQ,YR,un1,shOk,eqL,eq1,fillL,putAt,IHeap.load1,IHeap.loadL,IHeap.storeL,YS,YT,YU,YV,YW,YX,YY,YZ,B0,B1,B2,B3,B4,B5,B6,B7,B8,B9,Ba,Bb,Bc,Bd,Be,Bf,Bg,Bh,Bi,Bj,Bk,Bl,Bm, hE, hF', f7, mZ]
      exact h0 hr _ (k7.set (Nat.le_refl _) _)
  · have hr : readOk s = false := by simp [readOk, hE]
    simp -implicitDefEqProofs [J0,J1,J2,J3,J4,J5,J6,J7,J8,J9,Ja,Jb,Jc,Jd,Je,Jf,Jg,Jh,Ji,Jj,Jk,Jl,Jm,Jn,Jo,Jp,Jq,Jr,Js,Jt,Ju,Jv,Jw,Jx,Jy,Jz,JA,JB,JC,JD,JE,JF,JG,JH,JI,JJ,JK,JL,JM,JN,JO,JP,stillI,IOp.kind,JQ,JR,JS,JT,JU,JV,JW,JX,JY,JZ,Y0,Y1,Y2,Y3,Y4,Y5,Y6,Y7,Y8,Y9,Ya,Yb,Yc,Yd,Ye,Yf,Yg,Yh,Yi,Yj,Yk,Yl,Ym,Yn,ial,Yo,Yp,Yq,Yr,Ys,Yt,Yu,Yv,ires,iresL,ires1,Yw,Yx,Yy,Yz,YA,YB,bin2,YC,YD,YE,YF,YG,YH,YI,YJ,YK,YL,YM,YN,YO,YP,YQ,YR,un1,shOk,eqL,eq1,fillL,putAt,IHeap.load1,IHeap.loadL,IHeap.storeL,YS,YT,YU,YV,YW,YX,YY,YZ,B0,B1,B2,B3,B4,B5,B6,B7,B8,B9,Ba,Bb,Bc,Bd,Be,Bf,Bg,Bh,Bi,Bj,Bk,Bl,Bm, hE, f7, mZ]
    exact h0 hr _ (k7.set (Nat.le_refl _) _)

end
end Go.Proofs.YtkphglpmhebglaaI
