/- A group, read. -/
import Derived.Test.YtkphglpmhebglaaMemY
import Derived.Test.YtkphglpmhebglaaRefCodecLX
namespace Go.Proofs.YtkphglpmhebglaaI
set_option linter.unusedSimpArgs false
set_option linter.unusedVariables false
open Go

theorem takeMany_len {α : Type} (one : Rd → Rd × α) : ∀ (k : Nat) (acc : List α) (r : Rd), (takeMany one k acc r).2.length ≤ acc.length + k
  | 0, acc, r => by simp [takeMany]
  | k + 1, acc, r => by
    rw [takeMany]
    split
    · simp
    · rename_i s a _
      have := takeMany_len one k (acc ++ [a]) (some s)
      simp only [List.length_append, List.length_singleton] at this; omega
theorem takeList_len {α : Type} {one : Rd → Rd × α} {r : Rd} (h : (rdS r).length ≤ 1000000) : (takeList one r).2.length ≤ 1000000 := by
  have h1 := takeInt_le h
  unfold takeList
  rcases hx : takeInt r with ⟨x, n⟩
  rw [hx] at h1
  cases x with
  | none => simp
  | some s =>
    simp only [rdS] at h1 ⊢
    split
    · simp
    · rename_i hc
      have := takeMany_len one n.toNat [] (some s)
      simp only [List.length_nil] at this; omega

section
variable (c : Ctx) (hc : HasMembers c) (hC : HasCodec c) {H : IHeap} {K : Value → IHeap → Prop}

include hc hC in
theorem MRead_ok {s : List UInt8} (hs : s.length ≤ 1000000) (h0 : readOk s = false → ∀ H', H.le H' → K (.tuple #[.pointer none, .int .i64 3]) H')
    (h1 : readOk s = true → ∀ p q1 q2 H', H.next ≤ p → H.next ≤ q1 → H.next ≤ q2 → H.le H' → IsM H' p q1 q2 (pM s) → K (.tuple #[.pointer (some ⟨p, 0, none⟩), .int .i64 0]) H') :
    c.C (c.F n_members_Read) [strV s] H K := by
  refine c.enter hc.members_Read rfl ?_
  simp -implicitDefEqProofs [J0,J1,J2,J3,J4,J5,J6,J7,J8,J9,Ja,Jb,Jc,Jd,Je,Jf,Jg,Jh,Ji,Jj,Jk,Jl,Jm,Jn,Jo,Jp,Jq,Jr,Js,Jt,Ju,Jv,Jw,Jx,Jy,Jz,JA,JB,JC,JD,JE,JF,JG,JH,JI,JJ,JK,JL,JM,JN,JO,JP,stillI,IOp.kind,JQ,JR,JS,JT,JU,JV,JW,JX,JY,JZ,Y0,Y1,Y2,Y3,Y4,Y5,Y6,Y7,Y8,Y9,Ya,Yb,Yc,Yd,Ye,Yf,Yg,Yh,Yi,Yj,Yk,Yl,Ym,Yn,ial,Yo,Yp,Yq,Yr,Ys,Yt,Yu,Yv,ires,iresL,ires1,Yw,Yx,Yy,Yz,YA,YB,bin2,YC,YD,YE,YF,YG,YH,YI,YJ,YK,YL,YM,YN,YO,YP,YQ,YR,un1,shOk,eqL,eq1,fillL,putAt,IHeap.load1,IHeap.loadL,IHeap.storeL,YS,YT,YU,YV,YW,YX,YY,YZ,B0,B1,B2,B3,B4,B5,B6,B7,B8,B9,Ba,Bb,Bc,Bd,Be,Bf,Bg,Bh,Bi,Bj,Bk,Bl,Bm, c_members_Read]
  refine call_of (NewReader_ok c hC hs fun q H1 p1 k1 r1 => ?_)
  simp -implicitDefEqProofs [J0,J1,J2,J3,J4,J5,J6,J7,J8,J9,Ja,Jb,Jc,Jd,Je,Jf,Jg,Jh,Ji,Jj,Jk,Jl,Jm,Jn,Jo,Jp,Jq,Jr,Js,Jt,Ju,Jv,Jw,Jx,Jy,Jz,JA,JB,JC,JD,JE,JF,JG,JH,JI,JJ,JK,JL,JM,JN,JO,JP,stillI,IOp.kind,JQ,JR,JS,JT,JU,JV,JW,JX,JY,JZ,Y0,Y1,Y2,Y3,Y4,Y5,Y6,Y7,Y8,Y9,Ya,Yb,Yc,Yd,Ye,Yf,Yg,Yh,Yi,Yj,Yk,Yl,Ym,Yn,ial,Yo,Yp,Yq,Yr,Ys,Yt,Yu,Yv,ires,iresL,ires1,Yw,Yx,Yy,Yz,YA,YB,bin2,YC,YD,YE,YF,YG,YH,YI,YJ,YK,YL,YM,YN,YO,YP,YQ,YR,un1,shOk,eqL,eq1,fillL,putAt,IHeap.load1,IHeap.loadL,IHeap.storeL,YS,YT,YU,YV,YW,YX,YY,YZ,B0,B1,B2,B3,B4,B5,B6,B7,B8,B9,Ba,Bb,Bc,Bd,Be,Bf,Bg,Bh,Bi,Bj,Bk,Bl,Bm]
  refine call_of (RInt_ok c hC r1 fun H2 u2 r2 => ?_)
  rw [show takeInt (some s) = pE s from rfl] at r2 ⊢
  have k2 : H.le H2 := k1.updLe u2 (by simp; omega)
  simp -implicitDefEqProofs [J0,J1,J2,J3,J4,J5,J6,J7,J8,J9,Ja,Jb,Jc,Jd,Je,Jf,Jg,Jh,Ji,Jj,Jk,Jl,Jm,Jn,Jo,Jp,Jq,Jr,Js,Jt,Ju,Jv,Jw,Jx,Jy,Jz,JA,JB,JC,JD,JE,JF,JG,JH,JI,JJ,JK,JL,JM,JN,JO,JP,stillI,IOp.kind,JQ,JR,JS,JT,JU,JV,JW,JX,JY,JZ,Y0,Y1,Y2,Y3,Y4,Y5,Y6,Y7,Y8,Y9,Ya,Yb,Yc,Yd,Ye,Yf,Yg,Yh,Yi,Yj,Yk,Yl,Ym,Yn,ial,Yo,Yp,Yq,Yr,Ys,Yt,Yu,Yv,ires,iresL,ires1,Yw,Yx,Yy,Yz,YA,YB,bin2,YC,YD,YE,YF,YG,YH,YI,YJ,YK,YL,YM,YN,YO,YP,YQ,YR,un1,shOk,eqL,eq1,fillL,putAt,IHeap.load1,IHeap.loadL,IHeap.storeL,YS,YT,YU,YV,YW,YX,YY,YZ,B0,B1,B2,B3,B4,B5,B6,B7,B8,B9,Ba,Bb,Bc,Bd,Be,Bf,Bg,Bh,Bi,Bj,Bk,Bl,Bm]
  refine call_of (RInt_ok c hC r2 fun H3 u3 r3 => ?_)
  rw [show takeInt (pE s).1 = pH s from rfl] at r3 ⊢
  have k3 : H.le H3 := k2.updLe u3 (by simp; omega)
  have hq3 := r3.1
  simp -implicitDefEqProofs [J0,J1,J2,J3,J4,J5,J6,J7,J8,J9,Ja,Jb,Jc,Jd,Je,Jf,Jg,Jh,Ji,Jj,Jk,Jl,Jm,Jn,Jo,Jp,Jq,Jr,Js,Jt,Ju,Jv,Jw,Jx,Jy,Jz,JA,JB,JC,JD,JE,JF,JG,JH,JI,JJ,JK,JL,JM,JN,JO,JP,stillI,IOp.kind,JQ,JR,JS,JT,JU,JV,JW,JX,JY,JZ,Y0,Y1,Y2,Y3,Y4,Y5,Y6,Y7,Y8,Y9,Ya,Yb,Yc,Yd,Ye,Yf,Yg,Yh,Yi,Yj,Yk,Yl,Ym,Yn,ial,Yo,Yp,Yq,Yr,Ys,Yt,Yu,Yv,ires,iresL,ires1,Yw,Yx,Yy,Yz,YA,YB,bin2,YC,YD,YE,YF,YG,YH,YI,YJ,YK,YL,YM,YN,YO,YP,YQ,YR,un1,shOk,eqL,eq1,fillL,putAt,IHeap.load1,IHeap.loadL,IHeap.storeL,YS,YT,YU,YV,YW,YX,YY,YZ,B0,B1,B2,B3,B4,B5,B6,B7,B8,B9,Ba,Bb,Bc,Bd,Be,Bf,Bg,Bh,Bi,Bj,Bk,Bl,Bm, fillL, putAt]
  refine call_of (RByte_ok c hC (r3.le (H3.le_alloc _)) fun H5 u5 r5 => ?_)
  rw [show takeByte (pH s).1 = pF s from rfl] at r5 ⊢
  have n5 := u5.next
  simp only [YU] at n5
  have n3 := k3.next
  have hne : q ≠ H3.next := by omega
  have k5 : H.le H5 := (k3.alloc _).updLe u5 (by simp; omega)
  have g5 : H5.get H3.next = some (.cells [.slice none 0 0, .slice none 0 0, .int .i64 (pE s).2, .int .i64 (pH s).2, .bool false, .int .i64 0] false) := by
    rw [u5.get _ (by simp only [YU]; omega) (by simp; omega), YS, if_pos rfl]
  simp -implicitDefEqProofs [J0,J1,J2,J3,J4,J5,J6,J7,J8,J9,Ja,Jb,Jc,Jd,Je,Jf,Jg,Jh,Ji,Jj,Jk,Jl,Jm,Jn,Jo,Jp,Jq,Jr,Js,Jt,Ju,Jv,Jw,Jx,Jy,Jz,JA,JB,JC,JD,JE,JF,JG,JH,JI,JJ,JK,JL,JM,JN,JO,JP,stillI,IOp.kind,JQ,JR,JS,JT,JU,JV,JW,JX,JY,JZ,Y0,Y1,Y2,Y3,Y4,Y5,Y6,Y7,Y8,Y9,Ya,Yb,Yc,Yd,Ye,Yf,Yg,Yh,Yi,Yj,Yk,Yl,Ym,Yn,ial,Yo,Yp,Yq,Yr,Ys,Yt,Yu,Yv,ires,iresL,ires1,Yw,Yx,Yy,Yz,YA,YB,bin2,YC,YD,YE,YF,YG,YH,YI,YJ,YK,YL,YM,YN,YO,YP,YQ,YR,un1,shOk,eqL,eq1,fillL,putAt,IHeap.load1,IHeap.loadL,IHeap.storeL,YS,YT,YU,YV,YW,YX,YY,YZ,B0,B1,B2,B3,B4,B5,B6,B7,B8,B9,Ba,Bb,Bc,Bd,Be,Bf,Bg,Bh,Bi,Bj,Bk,Bl,Bm]
  refine call_of (RInt_ok c hC r5 fun H6 u6 r6 => ?_)
  rw [show takeInt (pF s).1 = pG s from rfl] at r6 ⊢
  have n6 := u6.next
  have k6 : H.le H6 := k5.updLe u6 (by simp; omega)
  have g6 := (u6.get H3.next (by omega) (by simp; omega)).trans g5
  simp -implicitDefEqProofs [J0,J1,J2,J3,J4,J5,J6,J7,J8,J9,Ja,Jb,Jc,Jd,Je,Jf,Jg,Jh,Ji,Jj,Jk,Jl,Jm,Jn,Jo,Jp,Jq,Jr,Js,Jt,Ju,Jv,Jw,Jx,Jy,Jz,JA,JB,JC,JD,JE,JF,JG,JH,JI,JJ,JK,JL,JM,JN,JO,JP,stillI,IOp.kind,JQ,JR,JS,JT,JU,JV,JW,JX,JY,JZ,Y0,Y1,Y2,Y3,Y4,Y5,Y6,Y7,Y8,Y9,Ya,Yb,Yc,Yd,Ye,Yf,Yg,Yh,Yi,Yj,Yk,Yl,Ym,Yn,ial,Yo,Yp,Yq,Yr,Ys,Yt,Yu,Yv,ires,iresL,ires1,Yw,Yx,Yy,Yz,YA,YB,bin2,YC,YD,YE,YF,YG,YH,YI,YJ,YK,YL,YM,YN,YO,YP,YQ,YR,un1,shOk,eqL,eq1,fillL,putAt,IHeap.load1,IHeap.loadL,IHeap.storeL,YS,YT,YU,YV,YW,YX,YY,YZ,B0,B1,B2,B3,B4,B5,B6,B7,B8,B9,Ba,Bb,Bc,Bd,Be,Bf,Bg,Bh,Bi,Bj,Bk,Bl,Bm, g6]
  obtain ⟨H7, hH7⟩ : ∃ H7 : IHeap, H7 = ((H6.set H3.next (.cells [.slice none 0 0, .slice none 0 0, .int .i64 (pE s).2, .int .i64 (pH s).2, .bool (decide ((pF s).2 = 1)), .int .i64 0] false)).set H3.next (.cells [.slice none 0 0, .slice none 0 0, .int .i64 (pE s).2, .int .i64 (pH s).2, .bool (decide ((pF s).2 = 1)), .int .i64 (pG s).2] false)) := ⟨_, rfl⟩
  rw [← hH7]
  have k7 : H.le H7 := by rw [hH7]; exact (k6.set (by omega) _).set (by omega) _
  have n7 : H7.next = H6.next := by rw [hH7]; rfl
  have g7 : H7.get H3.next = some (.cells [.slice none 0 0, .slice none 0 0, .int .i64 (pE s).2, .int .i64 (pH s).2, .bool (decide ((pF s).2 = 1)), .int .i64 (pG s).2] false) := by rw [hH7, YT, if_pos rfl]
  have r7 : IsR H7 q (pG s).1 := ⟨by rw [n7]; exact r6.1, r6.2.1, by rw [hH7, YT, if_neg hne, YT, if_neg hne]; exact r6.2.2⟩
  refine call_of (RInts_ok c hC r7 fun v1 H8 u8 r8 gr1 => ?_)
  rw [show takeList takeInt (pG s).1 = pL s from rfl] at r8 gr1
  have n8 := u8.next
  have k8 : H.le H8 := k7.updLe u8 (by simp; omega)
  have g8 := (u8.get H3.next (by omega) (by simp; omega)).trans g7
  simp -implicitDefEqProofs [J0,J1,J2,J3,J4,J5,J6,J7,J8,J9,Ja,Jb,Jc,Jd,Je,Jf,Jg,Jh,Ji,Jj,Jk,Jl,Jm,Jn,Jo,Jp,Jq,Jr,Js,Jt,Ju,Jv,Jw,Jx,Jy,Jz,JA,JB,JC,JD,JE,JF,JG,JH,JI,JJ,JK,JL,JM,JN,JO,JP,stillI,IOp.kind,JQ,JR,JS,JT,JU,JV,JW,JX,JY,JZ,Y0,Y1,Y2,Y3,Y4,Y5,Y6,Y7,Y8,Y9,Ya,Yb,Yc,Yd,Ye,Yf,Yg,Yh,Yi,Yj,Yk,Yl,Ym,Yn,ial,Yo,Yp,Yq,Yr,Ys,Yt,Yu,Yv,ires,iresL,ires1,Yw,Yx,Yy,Yz,YA,YB,bin2,YC,YD,YE,YF,YG,YH,YI,YJ,YK,YL,YM,YN,YO,YP,YQ,YR,un1,shOk,eqL,eq1,fillL,putAt,IHeap.load1,IHeap.loadL,IHeap.storeL,YS,YT,YU,YV,YW,YX,YY,YZ,B0,B1,B2,B3,B4,B5,B6,B7,B8,B9,Ba,Bb,Bc,Bd,Be,Bf,Bg,Bh,Bi,Bj,Bk,Bl,Bm]
  refine call_of (RInts_ok c hC r8 fun v2 H9 u9 r9 gr2 => ?_)
  rw [show takeList takeInt (pL s).1 = pS s from rfl] at r9 gr2
  have n9 := u9.next
  have k9 : H.le H9 := k8.updLe u9 (by simp; omega)
  have g9 := (u9.get H3.next (by omega) (by simp; omega)).trans g8
  have gr1' := gr1.upd u9 (by simp; omega)
  have w1 := gr1'.slw
  have w2 := gr2.slw
  have ll1 : (pL s).2.length ≤ 1000000 := takeList_len r7.2.1
  have ll2 : (pS s).2.length ≤ 1000000 := takeList_len r8.2.1
  obtain ⟨a1, c1, rfl⟩ := w1.len
  obtain ⟨a2, c2, rfl⟩ := w2.len
  simp only [List.length_map] at gr1' gr2 w1 w2
  simp -implicitDefEqProofs [J0,J1,J2,J3,J4,J5,J6,J7,J8,J9,Ja,Jb,Jc,Jd,Je,Jf,Jg,Jh,Ji,Jj,Jk,Jl,Jm,Jn,Jo,Jp,Jq,Jr,Js,Jt,Ju,Jv,Jw,Jx,Jy,Jz,JA,JB,JC,JD,JE,JF,JG,JH,JI,JJ,JK,JL,JM,JN,JO,JP,stillI,IOp.kind,JQ,JR,JS,JT,JU,JV,JW,JX,JY,JZ,Y0,Y1,Y2,Y3,Y4,Y5,Y6,Y7,Y8,Y9,Ya,Yb,Yc,Yd,Ye,Yf,Yg,Yh,Yi,Yj,Yk,Yl,Ym,Yn,ial,Yo,Yp,Yq,Yr,Ys,Yt,Yu,Yv,ires,iresL,ires1,Yw,Yx,Yy,Yz,YA,YB,bin2,YC,YD,YE,YF,YG,YH,YI,YJ,YK,YL,YM,YN,YO,YP,YQ,YR,un1,shOk,eqL,eq1,fillL,putAt,IHeap.load1,IHeap.loadL,IHeap.storeL,YS,YT,YU,YV,YW,YX,YY,YZ,B0,B1,B2,B3,B4,B5,B6,B7,B8,B9,Ba,Bb,Bc,Bd,Be,Bf,Bg,Bh,Bi,Bj,Bk,Bl,Bm, g9]
  obtain ⟨HA, hHA⟩ : ∃ HA : IHeap, HA = ((H9.set H3.next (.cells [.slice a1 (pL s).2.length c1, .slice none 0 0, .int .i64 (pE s).2, .int .i64 (pH s).2, .bool (decide ((pF s).2 = 1)), .int .i64 (pG s).2] false)).set H3.next (.cells [.slice a1 (pL s).2.length c1, .slice a2 (pS s).2.length c2, .int .i64 (pE s).2, .int .i64 (pH s).2, .bool (decide ((pF s).2 = 1)), .int .i64 (pG s).2] false)) := ⟨_, rfl⟩
  rw [← hHA]
  have kA : H.le HA := by rw [hHA]; exact (k9.set (by omega) _).set (by omega) _
  have nA : HA.next = H9.next := by rw [hHA]; rfl
  have gA : HA.get H3.next = some (.cells [.slice a1 (pL s).2.length c1, .slice a2 (pS s).2.length c2, .int .i64 (pE s).2, .int .i64 (pH s).2, .bool (decide ((pF s).2 = 1)), .int .i64 (pG s).2] false) := by rw [hHA, YT, if_pos rfl]
  have rA : IsR HA q (pS s).1 := ⟨by rw [nA]; exact r9.1, r9.2.1, by rw [hHA, YT, if_neg hne, YT, if_neg hne]; exact r9.2.2⟩
  have uA : IHeap.upd [H3.next] H9 HA := by rw [hHA]; exact ((IHeap.upd_refl _ _).set (.inr (by simp)) _).set (.inr (by simp)) _
  have gr1A := gr1'.upd uA (by simp; omega)
  have gr2A := gr2.upd uA (by simp; omega)
  have w1A := gr1A.slw
  have w2A := gr2A.slw
  refine dcall_of c.mono (RDone_ok c hC rA ?_)
  by_cases hE : rdE (pS s).1 = 0
  · by_cases hF : (pF s).2 ≤ 1
    · have hF' : ¬ 1 < (pF s).2 := by omega
      simp -implicitDefEqProofs [J0,J1,J2,J3,J4,J5,J6,J7,J8,J9,Ja,Jb,Jc,Jd,Je,Jf,Jg,Jh,Ji,Jj,Jk,Jl,Jm,Jn,Jo,Jp,Jq,Jr,Js,Jt,Ju,Jv,Jw,Jx,Jy,Jz,JA,JB,JC,JD,JE,JF,JG,JH,JI,JJ,JK,JL,JM,JN,JO,JP,stillI,IOp.kind,JQ,JR,JS,JT,JU,JV,JW,JX,JY,JZ,Y0,Y1,Y2,Y3,Y4,Y5,Y6,Y7,Y8,Y9,Ya,Yb,Yc,Yd,Ye,Yf,Yg,Yh,Yi,Yj,Yk,Yl,Ym,Yn,ial,Yo,Yp,Yq,Yr,Ys,Yt,Yu,Yv,ires,iresL,ires1,Yw,Yx,Yy,Yz,YA,YB,bin2,YC,YD,YE,YF,YG,YH,YI,YJ,YK,YL,YM,YN,YO,YP,YQ,YR,un1,shOk,eqL,eq1,fillL,putAt,IHeap.load1,IHeap.loadL,IHeap.storeL,YS,YT,YU,YV,YW,YX,YY,YZ,B0,B1,B2,B3,B4,B5,B6,B7,B8,B9,Ba,Bb,Bc,Bd,Be,Bf,Bg,Bh,Bi,Bj,Bk,Bl,Bm, hE, hF', gA]
      refine dcall_of c.mono (group_ok c hc (L := (pL s).2) (S := (pS s).2) w1A w2A (by omega) fun HB kB => ?_)
      have kB' := kA.trans kB
      have gB := (kB.get H3.next (by omega)).trans gA
      by_cases hG : grpB (pM s) = true
      · have hG' : (decide (2 ≤ (pL s).2.length) && (decide ((pL s).2.length ≤ 8) && apart ((pL s).2 ++ (pS s).2))) = true := hG
        rw [hG']
        simp -implicitDefEqProofs [J0,J1,J2,J3,J4,J5,J6,J7,J8,J9,Ja,Jb,Jc,Jd,Je,Jf,Jg,Jh,Ji,Jj,Jk,Jl,Jm,Jn,Jo,Jp,Jq,Jr,Js,Jt,Ju,Jv,Jw,Jx,Jy,Jz,JA,JB,JC,JD,JE,JF,JG,JH,JI,JJ,JK,JL,JM,JN,JO,JP,stillI,IOp.kind,JQ,JR,JS,JT,JU,JV,JW,JX,JY,JZ,Y0,Y1,Y2,Y3,Y4,Y5,Y6,Y7,Y8,Y9,Ya,Yb,Yc,Yd,Ye,Yf,Yg,Yh,Yi,Yj,Yk,Yl,Ym,Yn,ial,Yo,Yp,Yq,Yr,Ys,Yt,Yu,Yv,ires,iresL,ires1,Yw,Yx,Yy,Yz,YA,YB,bin2,YC,YD,YE,YF,YG,YH,YI,YJ,YK,YL,YM,YN,YO,YP,YQ,YR,un1,shOk,eqL,eq1,fillL,putAt,IHeap.load1,IHeap.loadL,IHeap.storeL,YS,YT,YU,YV,YW,YX,YY,YZ,B0,B1,B2,B3,B4,B5,B6,B7,B8,B9,Ba,Bb,Bc,Bd,Be,Bf,Bg,Bh,Bi,Bj,Bk,Bl,Bm]
        refine dcall_of c.mono (right_ok c hc (m := pM s) (by have := kB.next; omega) gB (w1A.le kB) (w2A.le kB) (by show (pL s).2.length ≤ _; omega) (by show (pS s).2.length ≤ _; omega) fun HC kC => ?_)
        have kC' := kB'.trans kC
        have gC := (kC.get H3.next (by have := kB.next; omega)).trans gB
        by_cases hR : rightB (pM s) = true
        · have hok : readOk s = true := by simp [readOk, hE, hF, hG, hR]
          rw [hR]
          simp -implicitDefEqProofs [J0,J1,J2,J3,J4,J5,J6,J7,J8,J9,Ja,Jb,Jc,Jd,Je,Jf,Jg,Jh,Ji,Jj,Jk,Jl,Jm,Jn,Jo,Jp,Jq,Jr,Js,Jt,Ju,Jv,Jw,Jx,Jy,Jz,JA,JB,JC,JD,JE,JF,JG,JH,JI,JJ,JK,JL,JM,JN,JO,JP,stillI,IOp.kind,JQ,JR,JS,JT,JU,JV,JW,JX,JY,JZ,Y0,Y1,Y2,Y3,Y4,Y5,Y6,Y7,Y8,Y9,Ya,Yb,Yc,Yd,Ye,Yf,Yg,Yh,Yi,Yj,Yk,Yl,Ym,Yn,ial,Yo,Yp,Yq,Yr,Ys,Yt,Yu,Yv,ires,iresL,ires1,Yw,Yx,Yy,Yz,YA,YB,bin2,YC,YD,YE,YF,YG,YH,YI,YJ,YK,YL,YM,YN,YO,YP,YQ,YR,un1,shOk,eqL,eq1,fillL,putAt,IHeap.load1,IHeap.loadL,IHeap.storeL,YS,YT,YU,YV,YW,YX,YY,YZ,B0,B1,B2,B3,B4,B5,B6,B7,B8,B9,Ba,Bb,Bc,Bd,Be,Bf,Bg,Bh,Bi,Bj,Bk,Bl,Bm]
          have hm := (readOk_ok hok).1
          have hLpos : 2 ≤ (pL s).2.length := hm.two
          have o1 : Own HC H7.next 1 (.slice a1 (pL s).2.length c1) ((pL s).2.map rowI) := by
            rcases (gr1A.le kB).le kC with ⟨e, _⟩ | h
            · simp only [List.map_eq_nil_iff] at e; rw [e] at hLpos; simp at hLpos
            · exact h
          have g2C := (gr2A.le kB).le kC
          have nC := kC.next
          have nB := kB.next
          obtain ⟨-, q1, b1, b2, e1, b4⟩ := o1
          simp only [Value.slice.injEq, List.length_map] at e1
          obtain ⟨rfl, -, rfl⟩ := e1
          rw [flat_rowI] at b4
          have fin : ∀ q2, H.next ≤ q2 → H3.next ≠ q2 → q1 ≠ q2 → Sp HC q2 (.slice a2 (pS s).2.length c2) (pS s).2 → K (.tuple #[.pointer (some ⟨H3.next, 0, none⟩), .int .i64 0]) HC := fun q2 x1 x2 x3 x4 =>
            h1 hok _ q1 q2 HC (by omega) (by omega) x1 kC' ⟨by omega, hm, ⟨_, _, gC, .inr rfl, x4⟩, b2, b4, x3, x2, by omega⟩
          rcases g2C with ⟨e, e'⟩ | ⟨-, q2, b5, b6, e2, b7⟩
          · refine fin (HC.next) (by have := kC'.next; omega) (by omega) (by omega) (.inl ⟨by simpa using e, e'⟩)
          · simp only [Value.slice.injEq, List.length_map] at e2
            obtain ⟨rfl, -, rfl⟩ := e2
            rw [flat_rowI] at b7
            refine fin q2 (by omega) (by omega) ?_ (.inr ⟨0, _, false, b6, b7, by rw [List.drop_zero, List.take_of_length_le (by simp)], by simp, .inr ⟨rfl, rfl, by simp⟩⟩)
            have : q1 < H8.next := by
              rcases gr1 with ⟨e, _⟩ | ⟨_, b, _, hb, e, _⟩
              · simp only [List.map_eq_nil_iff] at e; rw [e] at hLpos; simp at hLpos
              · simp only [Value.slice.injEq, Option.some.injEq, Addr.mk.injEq] at e
                omega
            omega
        · have hR' : rightB (pM s) = false := by simpa using hR
          rw [hR']
          simp -implicitDefEqProofs [J0,J1,J2,J3,J4,J5,J6,J7,J8,J9,Ja,Jb,Jc,Jd,Je,Jf,Jg,Jh,Ji,Jj,Jk,Jl,Jm,Jn,Jo,Jp,Jq,Jr,Js,Jt,Ju,Jv,Jw,Jx,Jy,Jz,JA,JB,JC,JD,JE,JF,JG,JH,JI,JJ,JK,JL,JM,JN,JO,JP,stillI,IOp.kind,JQ,JR,JS,JT,JU,JV,JW,JX,JY,JZ,Y0,Y1,Y2,Y3,Y4,Y5,Y6,Y7,Y8,Y9,Ya,Yb,Yc,Yd,Ye,Yf,Yg,Yh,Yi,Yj,Yk,Yl,Ym,Yn,ial,Yo,Yp,Yq,Yr,Ys,Yt,Yu,Yv,ires,iresL,ires1,Yw,Yx,Yy,Yz,YA,YB,bin2,YC,YD,YE,YF,YG,YH,YI,YJ,YK,YL,YM,YN,YO,YP,YQ,YR,un1,shOk,eqL,eq1,fillL,putAt,IHeap.load1,IHeap.loadL,IHeap.storeL,YS,YT,YU,YV,YW,YX,YY,YZ,B0,B1,B2,B3,B4,B5,B6,B7,B8,B9,Ba,Bb,Bc,Bd,Be,Bf,Bg,Bh,Bi,Bj,Bk,Bl,Bm]
          exact h0 (by simp [readOk, hR']) _ kC'
      · have hG' : grpB (pM s) = false := by simpa using hG
        have hG'' : (decide (2 ≤ (pL s).2.length) && (decide ((pL s).2.length ≤ 8) && apart ((pL s).2 ++ (pS s).2))) = false := hG'
        rw [hG'']
        simp -implicitDefEqProofs [J0,J1,J2,J3,J4,J5,J6,J7,J8,J9,Ja,Jb,Jc,Jd,Je,Jf,Jg,Jh,Ji,Jj,Jk,Jl,Jm,Jn,Jo,Jp,Jq,Jr,Js,Jt,Ju,Jv,Jw,Jx,Jy,Jz,JA,JB,JC,JD,JE,JF,JG,JH,JI,JJ,JK,JL,JM,JN,JO,JP,stillI,IOp.kind,JQ,JR,JS,JT,JU,JV,JW,JX,JY,JZ,Y0,Y1,Y2,Y3,Y4,Y5,Y6,Y7,Y8,Y9,Ya,Yb,Yc,Yd,Ye,Yf,Yg,Yh,Yi,Yj,Yk,Yl,Ym,Yn,ial,Yo,Yp,Yq,Yr,Ys,Yt,Yu,Yv,ires,iresL,ires1,Yw,Yx,Yy,Yz,YA,YB,bin2,YC,YD,YE,YF,YG,YH,YI,YJ,YK,YL,YM,YN,YO,YP,YQ,YR,un1,shOk,eqL,eq1,fillL,putAt,IHeap.load1,IHeap.loadL,IHeap.storeL,YS,YT,YU,YV,YW,YX,YY,YZ,B0,B1,B2,B3,B4,B5,B6,B7,B8,B9,Ba,Bb,Bc,Bd,Be,Bf,Bg,Bh,Bi,Bj,Bk,Bl,Bm]
        exact h0 (by simp [readOk, hG']) _ kB'
    · have hF' : 1 < (pF s).2 := by omega
      simp -implicitDefEqProofs [J0,J1,J2,J3,J4,J5,J6,J7,J8,J9,Ja,Jb,Jc,Jd,Je,Jf,Jg,Jh,Ji,Jj,Jk,Jl,Jm,Jn,Jo,Jp,Jq,Jr,Js,Jt,Ju,Jv,Jw,Jx,Jy,Jz,JA,JB,JC,JD,JE,JF,JG,JH,JI,JJ,JK,JL,JM,JN,JO,JP,stillI,IOp.kind,JQ,JR,JS,JT,JU,JV,JW,JX,JY,JZ,Y0,Y1,Y2,Y3,Y4,Y5,Y6,Y7,Y8,Y9,Ya,Yb,Yc,Yd,Ye,Yf,Yg,Yh,Yi,Yj,Yk,Yl,Ym,Yn,ial,Yo,Yp,Yq,Yr,Ys,Yt,Yu,Yv,ires,iresL,ires1,Yw,Yx,Yy,Yz,YA,YB,bin2,YC,YD,YE,YF,YG,YH,YI,YJ,YK,YL,YM,YN,YO,YP,YQ,YR,un1,shOk,eqL,eq1,fillL,putAt,IHeap.load1,IHeap.loadL,IHeap.storeL,YS,YT,YU,YV,YW,YX,YY,YZ,B0,B1,B2,B3,B4,B5,B6,B7,B8,B9,Ba,Bb,Bc,Bd,Be,Bf,Bg,Bh,Bi,Bj,Bk,Bl,Bm, hE, hF']
      exact h0 (by simp [readOk, hF]) _ kA
  · simp -implicitDefEqProofs [J0,J1,J2,J3,J4,J5,J6,J7,J8,J9,Ja,Jb,Jc,Jd,Je,Jf,Jg,Jh,Ji,Jj,Jk,Jl,Jm,Jn,Jo,Jp,Jq,Jr,Js,Jt,Ju,Jv,Jw,Jx,Jy,Jz,JA,JB,JC,JD,JE,JF,JG,JH,JI,JJ,JK,JL,JM,JN,JO,JP,stillI,IOp.kind,JQ,JR,JS,JT,JU,JV,JW,JX,JY,JZ,Y0,Y1,Y2,Y3,Y4,Y5,Y6,Y7,Y8,Y9,Ya,Yb,Yc,Yd,Ye,Yf,Yg,Yh,Yi,Yj,Yk,Yl,Ym,Yn,ial,Yo,Yp,Yq,Yr,Ys,Yt,Yu,Yv,ires,iresL,ires1,Yw,Yx,Yy,Yz,YA,YB,bin2,YC,YD,YE,YF,YG,YH,YI,YJ,YK,YL,YM,YN,YO,YP,YQ,YR,un1,shOk,eqL,eq1,fillL,putAt,IHeap.load1,IHeap.loadL,IHeap.storeL,YS,YT,YU,YV,YW,YX,YY,YZ,B0,B1,B2,B3,B4,B5,B6,B7,B8,B9,Ba,Bb,Bc,Bd,Be,Bf,Bg,Bh,Bi,Bj,Bk,Bl,Bm, hE]
    exact h0 (by simp [readOk, hE]) _ kA

end
end Go.Proofs.YtkphglpmhebglaaI
