/- Who proposes: asking. -/
import Derived.Test.YtafnkmiggmfbdaaProB
namespace Go.Proofs.YtafnkmiggmfbdaaI
set_option linter.unusedSimpArgs false
set_option linter.unusedVariables false
open Go

section
variable (c : Ctx) (hA : HasBalA c) (hB : HasBalB c) (hD : HasBalD c) (hc : HasProp c) (hT : ProT c) {H : IHeap} {K : Value → IHeap → Prop} {B : Nat → Prop} {p : Nat} {P : Pro}

include hA hD hc in
theorem PLead_ok {a n fr : Int} (h : IsP B H p P) (hK : ∀ H' B', Fr B H H' → (∀ b, B' b → B b ∨ H.next ≤ b) → IsP B' H' p (P.lead a n fr).1 → K (.tuple #[vB (P.lead a n fr).2.1.1 (P.lead a n fr).2.1.2, .int .i64 (P.lead a n fr).2.2]) H') :
    c.C (c.F n_proposer_Proposer_Lead) [.pointer (some ⟨p, 0, none⟩), vB a n, .int .i64 fr] H K := by
  refine c.enter hc.proposer_Proposer_Lead rfl ?_
  obtain ⟨mv, g, _⟩ := h.rep
  have hp := h.lt p h.own
  have e1 : ¬ p = H.next := by omega
  have e2 : ¬ p = H.next + 1 := by omega
  obtain ⟨H0, hH0⟩ : ∃ X : IHeap, X = (H.alloc (.cells [.int .i64 a, .int .i64 n] false)).alloc (.cells [.int .i64 0, .int .i64 0] false) := ⟨_, rfl⟩
  have k0 : H.le H0 := by rw [hH0]; exact (H.le_alloc _).alloc _
  have n0 : H0.next = H.next + 2 := by rw [hH0]; rfl
  have b0 : H0.get H.next = some (.cells [.int .i64 a, .int .i64 n] false) := by rw [hH0, YV, if_neg (by rw [YX]; omega), YV, if_pos rfl]
  have r0 : H0.get (H.next + 1) = some (.cells [.int .i64 0, .int .i64 0] false) := by rw [hH0, YV, YX, if_pos rfl]
  simp -implicitDefEqProofs [J0,J1,J2,J3,J4,J5,J6,J7,J8,J9,Ja,Jb,Jc,Jd,Je,Jf,Jg,Jh,Ji,Jj,Jk,Jl,Jm,Jn,Jo,Jp,Jq,Jr,Js,Jt,Ju,Jv,Jw,Jx,Jy,Jz,JA,JB,JC,JD,JE,JF,JG,JH,JI,JJ,JK,JL,JM,JN,JO,JP,JQ,JR,JS,stillI,IOp.kind,JT,JU,JV,JW,JX,JY,JZ,Y0,Y1,Y2,Y3,Y4,Y5,Y6,Y7,Y8,Y9,Ya,Yb,Yc,Yd,Ye,Yf,Yg,Yh,Yi,Yj,Yk,Yl,Ym,Yn,Yo,Yp,Yq,ial,Yr,Ys,Yt,Yu,Yv,Yw,Yx,Yy,ires,iresL,ires1,Yz,YA,YB,YC,YD,YE,bin2,YF,YG,YH,YI,YJ,YK,YL,YM,YN,YO,YP,YQ,YR,YS,YT,YU,un1,shOk,eqL,eq1,fillL,putAt,IHeap.load1,IHeap.loadL,IHeap.storeL,YV,YW,YX,YY,YZ,B0,B1,B2,B3,B4,B5,B6,B7,B8,B9,Ba,Bb,Bc,Bd,Be,Bf,Bg,Bh,Bi,Bj,Bk,Bl,Bm,Bn,Bo,Bp, c_proposer_Proposer_Lead, vB, nilOf, ← hH0, b0]
  refine call_of (Valid_ok c hA fun H1 k1 => ?_)
  have n1 := k1.next
  have k01 := k0.trans k1
  have g1 := (k01.get p hp).trans g
  have b1 := (k1.get H.next (by omega)).trans b0
  have r1 := (k1.get (H.next + 1) (by omega)).trans r0
  have bad : ∀ (HX : IHeap) (x y : Value) (z : Int), H.le HX → H.next + 1 < HX.next → P.lead a n fr = (P, (0, 0), z) → K (.tuple #[vB 0 0, .int .i64 z]) (HX.set (H.next + 1) (.cells [x, y] false)) := by
    intro HX x y z kX nX hl
    rw [hl] at hK
    exact hK _ B (((kX.fr B)).set (.inr (by omega)) _) (fun b hb => .inl hb) ((h.le kX).fr (((IHeap.le_refl HX).fr (fun b => b = H.next + 1)).set (.inl rfl) _) (fun b hb e => by have := h.lt b hb; omega))
  by_cases hbad : validB a n = false ∨ fr < 0 ∨ 1024 ≤ fr
  · have hl : P.lead a n fr = (P, (0, 0), 1) := by unfold Pro.lead; rw [if_pos hbad]
    by_cases hv : validB a n = true
    · by_cases h2 : fr < 0
      · simp -implicitDefEqProofs [J0,J1,J2,J3,J4,J5,J6,J7,J8,J9,Ja,Jb,Jc,Jd,Je,Jf,Jg,Jh,Ji,Jj,Jk,Jl,Jm,Jn,Jo,Jp,Jq,Jr,Js,Jt,Ju,Jv,Jw,Jx,Jy,Jz,JA,JB,JC,JD,JE,JF,JG,JH,JI,JJ,JK,JL,JM,JN,JO,JP,JQ,JR,JS,stillI,IOp.kind,JT,JU,JV,JW,JX,JY,JZ,Y0,Y1,Y2,Y3,Y4,Y5,Y6,Y7,Y8,Y9,Ya,Yb,Yc,Yd,Ye,Yf,Yg,Yh,Yi,Yj,Yk,Yl,Ym,Yn,Yo,Yp,Yq,ial,Yr,Ys,Yt,Yu,Yv,Yw,Yx,Yy,ires,iresL,ires1,Yz,YA,YB,YC,YD,YE,bin2,YF,YG,YH,YI,YJ,YK,YL,YM,YN,YO,YP,YQ,YR,YS,YT,YU,un1,shOk,eqL,eq1,fillL,putAt,IHeap.load1,IHeap.loadL,IHeap.storeL,YV,YW,YX,YY,YZ,B0,B1,B2,B3,B4,B5,B6,B7,B8,B9,Ba,Bb,Bc,Bd,Be,Bf,Bg,Bh,Bi,Bj,Bk,Bl,Bm,Bn,Bo,Bp, hv, h2, r1]
        exact bad H1 _ _ _ k01 (by omega) hl
      · have h3 : 1024 ≤ fr := by rcases hbad with h | h | h; rw [hv] at h; cases h; exact absurd h h2; exact h
        simp -implicitDefEqProofs [J0,J1,J2,J3,J4,J5,J6,J7,J8,J9,Ja,Jb,Jc,Jd,Je,Jf,Jg,Jh,Ji,Jj,Jk,Jl,Jm,Jn,Jo,Jp,Jq,Jr,Js,Jt,Ju,Jv,Jw,Jx,Jy,Jz,JA,JB,JC,JD,JE,JF,JG,JH,JI,JJ,JK,JL,JM,JN,JO,JP,JQ,JR,JS,stillI,IOp.kind,JT,JU,JV,JW,JX,JY,JZ,Y0,Y1,Y2,Y3,Y4,Y5,Y6,Y7,Y8,Y9,Ya,Yb,Yc,Yd,Ye,Yf,Yg,Yh,Yi,Yj,Yk,Yl,Ym,Yn,Yo,Yp,Yq,ial,Yr,Ys,Yt,Yu,Yv,Yw,Yx,Yy,ires,iresL,ires1,Yz,YA,YB,YC,YD,YE,bin2,YF,YG,YH,YI,YJ,YK,YL,YM,YN,YO,YP,YQ,YR,YS,YT,YU,un1,shOk,eqL,eq1,fillL,putAt,IHeap.load1,IHeap.loadL,IHeap.storeL,YV,YW,YX,YY,YZ,B0,B1,B2,B3,B4,B5,B6,B7,B8,B9,Ba,Bb,Bc,Bd,Be,Bf,Bg,Bh,Bi,Bj,Bk,Bl,Bm,Bn,Bo,Bp, hv, h2, h3, r1]
        exact bad H1 _ _ _ k01 (by omega) hl
    · simp -implicitDefEqProofs [J0,J1,J2,J3,J4,J5,J6,J7,J8,J9,Ja,Jb,Jc,Jd,Je,Jf,Jg,Jh,Ji,Jj,Jk,Jl,Jm,Jn,Jo,Jp,Jq,Jr,Js,Jt,Ju,Jv,Jw,Jx,Jy,Jz,JA,JB,JC,JD,JE,JF,JG,JH,JI,JJ,JK,JL,JM,JN,JO,JP,JQ,JR,JS,stillI,IOp.kind,JT,JU,JV,JW,JX,JY,JZ,Y0,Y1,Y2,Y3,Y4,Y5,Y6,Y7,Y8,Y9,Ya,Yb,Yc,Yd,Ye,Yf,Yg,Yh,Yi,Yj,Yk,Yl,Ym,Yn,Yo,Yp,Yq,ial,Yr,Ys,Yt,Yu,Yv,Yw,Yx,Yy,ires,iresL,ires1,Yz,YA,YB,YC,YD,YE,bin2,YF,YG,YH,YI,YJ,YK,YL,YM,YN,YO,YP,YQ,YR,YS,YT,YU,un1,shOk,eqL,eq1,fillL,putAt,IHeap.load1,IHeap.loadL,IHeap.storeL,YV,YW,YX,YY,YZ,B0,B1,B2,B3,B4,B5,B6,B7,B8,B9,Ba,Bb,Bc,Bd,Be,Bf,Bg,Bh,Bi,Bj,Bk,Bl,Bm,Bn,Bo,Bp, hv, r1]
      exact bad H1 _ _ _ k01 (by omega) hl
  · have hv : validB a n = true := by cases hq : validB a n with | true => rfl | false => exact absurd (.inl hq) hbad
    have h2 : ¬ fr < 0 := fun h => hbad (.inr (.inl h))
    have h3 : ¬ 1024 ≤ fr := fun h => hbad (.inr (.inr h))
    obtain ⟨H2, hH2⟩ : ∃ X : IHeap, X = (H1.alloc (.cells [.int .i64 a, .int .i64 n, .int .i64 P.ba, .int .i64 P.bn] false)).alloc (.cells [.int .i64 0, .int .i64 0] false) := ⟨_, rfl⟩
    have k2 : H1.le H2 := by rw [hH2]; exact (H1.le_alloc _).alloc _
    have n2 : H2.next = H1.next + 2 := by rw [hH2]; rfl
    simp -implicitDefEqProofs [J0,J1,J2,J3,J4,J5,J6,J7,J8,J9,Ja,Jb,Jc,Jd,Je,Jf,Jg,Jh,Ji,Jj,Jk,Jl,Jm,Jn,Jo,Jp,Jq,Jr,Js,Jt,Ju,Jv,Jw,Jx,Jy,Jz,JA,JB,JC,JD,JE,JF,JG,JH,JI,JJ,JK,JL,JM,JN,JO,JP,JQ,JR,JS,stillI,IOp.kind,JT,JU,JV,JW,JX,JY,JZ,Y0,Y1,Y2,Y3,Y4,Y5,Y6,Y7,Y8,Y9,Ya,Yb,Yc,Yd,Ye,Yf,Yg,Yh,Yi,Yj,Yk,Yl,Ym,Yn,Yo,Yp,Yq,ial,Yr,Ys,Yt,Yu,Yv,Yw,Yx,Yy,ires,iresL,ires1,Yz,YA,YB,YC,YD,YE,bin2,YF,YG,YH,YI,YJ,YK,YL,YM,YN,YO,YP,YQ,YR,YS,YT,YU,un1,shOk,eqL,eq1,fillL,putAt,IHeap.load1,IHeap.loadL,IHeap.storeL,YV,YW,YX,YY,YZ,B0,B1,B2,B3,B4,B5,B6,B7,B8,B9,Ba,Bb,Bc,Bd,Be,Bf,Bg,Bh,Bi,Bj,Bk,Bl,Bm,Bn,Bo,Bp, hv, h2, h3, b1, g1, cP0, cP1, cP2, cP4, cP5, cP6, cP7, cP15, cQ0, cQ1, cQ4, cQ5, cQ6, cQ7, cQ15, cPlen, tP2, tP4, tP6, tP7, ← hH2]
    refine dcall_of c.mono (Max_ok c hA hD (l := [(a, n), (P.ba, P.bn)]) ?_ (by simp) fun H3 k3 => ?_)
    · refine ⟨_, _, rfl, fun _ => ⟨H1.next, 0, [.int .i64 a, .int .i64 n, .int .i64 P.ba, .int .i64 P.bn], false, rfl, by omega, by rw [hH2, YV, if_neg (by rw [YX]; omega), YV, if_pos rfl], fun i r hr => ?_⟩⟩
      match i, hr with
      | 0, hr => simp [rowB] at hr; subst hr; exact ⟨rfl, rfl, by simp⟩
      | 1, hr => simp [rowB] at hr; subst hr; exact ⟨rfl, rfl, by simp⟩
      | i + 2, hr => simp at hr
    · have n3 := k3.next
      have k03 := (k01.trans k2).trans k3
      have g3 := (k03.get p hp).trans g
      have t3 : H3.get (H1.next + 1) = some (.cells [.int .i64 0, .int .i64 0] false) := by rw [k3.get _ (by omega), hH2, YV, YX, if_pos rfl]
      have r3 : H3.get (H.next + 1) = some (.cells [.int .i64 0, .int .i64 0] false) := ((k2.trans k3).get _ (by omega)).trans r1
      obtain ⟨m, hm⟩ : ∃ m, m = maxL [(a, n), (P.ba, P.bn)] := ⟨_, rfl⟩
      rw [← hm]
      have e3 : ¬ H.next + 1 = H1.next + 1 := by omega
      obtain ⟨H4, hH4⟩ : ∃ X : IHeap, X = H3.set (H1.next + 1) (.cells [.int .i64 m.1, .int .i64 m.2] false) := ⟨_, rfl⟩
      have k4 : H.le H4 := by rw [hH4]; exact k03.set (by omega) _
      have n4 : H4.next = H3.next := by rw [hH4]; rfl
      have g4 := (k4.get p hp).trans g
      have t4 : H4.get (H1.next + 1) = some (.cells [.int .i64 m.1, .int .i64 m.2] false) := by rw [hH4, YW, if_pos rfl]
      have r4 : H4.get (H.next + 1) = some (.cells [.int .i64 0, .int .i64 0] false) := by rw [hH4, YW, if_neg e3]; exact r3
      by_cases hf : 2147483647 ≤ m.1
      · have hl : P.lead a n fr = (P, (0, 0), 5) := by unfold Pro.lead; rw [if_neg hbad, ← hm, if_pos hf]
        simp -implicitDefEqProofs [J0,J1,J2,J3,J4,J5,J6,J7,J8,J9,Ja,Jb,Jc,Jd,Je,Jf,Jg,Jh,Ji,Jj,Jk,Jl,Jm,Jn,Jo,Jp,Jq,Jr,Js,Jt,Ju,Jv,Jw,Jx,Jy,Jz,JA,JB,JC,JD,JE,JF,JG,JH,JI,JJ,JK,JL,JM,JN,JO,JP,JQ,JR,JS,stillI,IOp.kind,JT,JU,JV,JW,JX,JY,JZ,Y0,Y1,Y2,Y3,Y4,Y5,Y6,Y7,Y8,Y9,Ya,Yb,Yc,Yd,Ye,Yf,Yg,Yh,Yi,Yj,Yk,Yl,Ym,Yn,Yo,Yp,Yq,ial,Yr,Ys,Yt,Yu,Yv,Yw,Yx,Yy,ires,iresL,ires1,Yz,YA,YB,YC,YD,YE,bin2,YF,YG,YH,YI,YJ,YK,YL,YM,YN,YO,YP,YQ,YR,YS,YT,YU,un1,shOk,eqL,eq1,fillL,putAt,IHeap.load1,IHeap.loadL,IHeap.storeL,YV,YW,YX,YY,YZ,B0,B1,B2,B3,B4,B5,B6,B7,B8,B9,Ba,Bb,Bc,Bd,Be,Bf,Bg,Bh,Bi,Bj,Bk,Bl,Bm,Bn,Bo,Bp, vB, t3, ← hH4, t4, hf, r4]
        exact bad H4 _ _ _ k4 (by omega) hl
      · have hl : P.lead a n fr = ({ Pro.new P.n P.me with ba := (nextB m.1 P.me).1, bn := (nextB m.1 P.me).2, does := 1, fr := fr, next := fr }, nextB m.1 P.me, 0) := by unfold Pro.lead; rw [if_neg hbad, ← hm, if_neg hf]
        rw [hl] at hK
        obtain ⟨H5, hH5⟩ : ∃ X : IHeap, X = H4.alloc (.cells [.int .i64 0, .int .i64 0] false) := ⟨_, rfl⟩
        have k5 : H.le H5 := by rw [hH5]; exact k4.alloc _
        have n5 : H5.next = H4.next + 1 := by rw [hH5]; rfl
        simp -implicitDefEqProofs [J0,J1,J2,J3,J4,J5,J6,J7,J8,J9,Ja,Jb,Jc,Jd,Je,Jf,Jg,Jh,Ji,Jj,Jk,Jl,Jm,Jn,Jo,Jp,Jq,Jr,Js,Jt,Ju,Jv,Jw,Jx,Jy,Jz,JA,JB,JC,JD,JE,JF,JG,JH,JI,JJ,JK,JL,JM,JN,JO,JP,JQ,JR,JS,stillI,IOp.kind,JT,JU,JV,JW,JX,JY,JZ,Y0,Y1,Y2,Y3,Y4,Y5,Y6,Y7,Y8,Y9,Ya,Yb,Yc,Yd,Ye,Yf,Yg,Yh,Yi,Yj,Yk,Yl,Ym,Yn,Yo,Yp,Yq,ial,Yr,Ys,Yt,Yu,Yv,Yw,Yx,Yy,ires,iresL,ires1,Yz,YA,YB,YC,YD,YE,bin2,YF,YG,YH,YI,YJ,YK,YL,YM,YN,YO,YP,YQ,YR,YS,YT,YU,un1,shOk,eqL,eq1,fillL,putAt,IHeap.load1,IHeap.loadL,IHeap.storeL,YV,YW,YX,YY,YZ,B0,B1,B2,B3,B4,B5,B6,B7,B8,B9,Ba,Bb,Bc,Bd,Be,Bf,Bg,Bh,Bi,Bj,Bk,Bl,Bm,Bn,Bo,Bp, vB, t3, ← hH4, t4, hf, g4, cP0, cP1, cP2, cP4, cP5, cP6, cP7, cP15, cQ0, cQ1, cQ4, cQ5, cQ6, cQ7, cQ15, cPlen, tP2, tP4, tP6, tP7, ← hH5]
        refine dcall_of c.mono (Next_ok c hD fun H6 k6 => ?_)
        have n6 := k6.next
        obtain ⟨b, hb⟩ : ∃ b, b = nextB m.1 P.me := ⟨_, rfl⟩
        rw [← hb] at hK ⊢
        have t6 : H6.get H4.next = some (.cells [.int .i64 0, .int .i64 0] false) := by rw [k6.get _ (by omega), hH5, YV, if_pos rfl]
        have k06 := k5.trans k6
        have g6 := (k06.get p hp).trans g
        obtain ⟨H7, hH7⟩ : ∃ X : IHeap, X = H6.set H4.next (.cells [.int .i64 b.1, .int .i64 b.2] false) := ⟨_, rfl⟩
        have k7 : H.le H7 := by rw [hH7]; exact k06.set (by omega) _
        have n7 : H7.next = H6.next := by rw [hH7]; rfl
        have g7 := (k7.get p hp).trans g
        have t7 : H7.get H4.next = some (.cells [.int .i64 b.1, .int .i64 b.2] false) := by rw [hH7, YW, if_pos rfl]
        have r7 : H7.get (H.next + 1) = some (.cells [.int .i64 0, .int .i64 0] false) := by
          rw [hH7, YW, if_neg (by omega), k6.get _ (by omega), hH5, YV, if_neg (by omega)]; exact r4
        obtain ⟨PN, hPN⟩ : ∃ PN : Pro, PN = { Pro.new P.n P.me with ba := b.1, bn := b.2, does := 1, fr := fr, next := fr } := ⟨_, rfl⟩
        rw [← hPN] at hK
        obtain ⟨H8, hH8⟩ : ∃ X : IHeap, X = (H7.alloc (.map [] 0)).set p (.cells (cellsP PN (.map (some H7.next))) false) := ⟨_, rfl⟩
        have f8 : Fr B H H8 := by rw [hH8]; exact ((k7.alloc _).fr B).set (.inl h.own) _
        have n8 : H8.next = H7.next + 1 := by rw [hH8]; rfl
        have hH8' : (H7.alloc (.map [] 0)).set p (.cells [.int .i64 P.n, .int .i64 P.me, .int .i64 b.1, .int .i64 b.2, .int .i64 1, .int .i64 fr, .int .i64 fr, .bool false, .bool false, .bool false, .bool false, .bool false, .bool false, .bool false, .bool false, .map (some H7.next)] false) = H8 := by rw [hH8, hPN]; rfl
        have i8 : IsP (fun x => x = p ∨ x = H7.next) H8 p PN := by
          refine ⟨fun x hx => ?_, .inl rfl, .map (some H7.next), by rw [hH8, YW, if_pos rfl], .inr ⟨H7.next, rfl, .inr rfl, ?_⟩⟩
          · have := k7.next
            rcases hx with rfl | rfl <;> omega
          · have := IsMap.new H7 kI vV (κ := Int)
            rw [show PN.best = fun _ => none by rw [hPN]; rfl]
            exact this.same (by rw [hH8]; exact Nat.le_refl _) (by rw [hH8, YW, if_neg (by have := k7.next; omega)])
        have t8 : H8.get H4.next = some (.cells [.int .i64 b.1, .int .i64 b.2] false) := by rw [hH8, YW, if_neg (by have := k4.next; omega), YV, if_neg (by omega)]; exact t7
        have r8 : H8.get (H.next + 1) = some (.cells [.int .i64 0, .int .i64 0] false) := by rw [hH8, YW, if_neg (by omega), YV, if_neg (by omega)]; exact r7
        have e7 : ¬ p = H7.next := by have := k7.next; omega
        have d16 : List.drop 16 (cellsP P mv) = [] := rfl
        simp -implicitDefEqProofs [J0,J1,J2,J3,J4,J5,J6,J7,J8,J9,Ja,Jb,Jc,Jd,Je,Jf,Jg,Jh,Ji,Jj,Jk,Jl,Jm,Jn,Jo,Jp,Jq,Jr,Js,Jt,Ju,Jv,Jw,Jx,Jy,Jz,JA,JB,JC,JD,JE,JF,JG,JH,JI,JJ,JK,JL,JM,JN,JO,JP,JQ,JR,JS,stillI,IOp.kind,JT,JU,JV,JW,JX,JY,JZ,Y0,Y1,Y2,Y3,Y4,Y5,Y6,Y7,Y8,Y9,Ya,Yb,Yc,Yd,Ye,Yf,Yg,Yh,Yi,Yj,Yk,Yl,Ym,Yn,Yo,Yp,Yq,ial,Yr,Ys,Yt,Yu,Yv,Yw,Yx,Yy,ires,iresL,ires1,Yz,YA,YB,YC,YD,YE,bin2,YF,YG,YH,YI,YJ,YK,YL,YM,YN,YO,YP,YQ,YR,YS,YT,YU,un1,shOk,eqL,eq1,fillL,putAt,IHeap.load1,IHeap.loadL,IHeap.storeL,YV,YW,YX,YY,YZ,B0,B1,B2,B3,B4,B5,B6,B7,B8,B9,Ba,Bb,Bc,Bd,Be,Bf,Bg,Bh,Bi,Bj,Bk,Bl,Bm,Bn,Bo,Bp, vB, t6, ← hH7, g7, e7, d16, cP0, cP1, cP2, cP4, cP5, cP6, cP7, cP15, cQ0, cQ1, cQ4, cQ5, cQ6, cQ7, cQ15, cPlen, tP2, tP4, tP6, tP7, t7, hH8', t8, r8]
        refine hK _ _ (f8.set (.inr (by omega)) _) (fun x hx => ?_) (i8.fr (((IHeap.le_refl H8).fr (fun b => b = H.next + 1)).set (.inl rfl) _) (fun x hx e => ?_))
        · have := k7.next
          rcases hx with rfl | rfl
          · exact .inl h.own
          · exact .inr this
        · have := k7.next
          rcases hx with rfl | rfl <;> omega
end
end Go.Proofs.YtafnkmiggmfbdaaI
