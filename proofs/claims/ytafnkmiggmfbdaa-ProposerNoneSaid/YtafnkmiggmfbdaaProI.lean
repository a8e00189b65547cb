/- Who proposes: the chapter's example. -/
import Derived.Test.YtafnkmiggmfbdaaProH
namespace Go.Proofs.YtafnkmiggmfbdaaI
set_option linter.unusedSimpArgs false
set_option linter.unusedVariables false
open Go

def wx19 : VoteD := ⟨3, 1, 0, ⟨#[120]⟩⟩
def q1 : Pro := ⟨3, 1, 5, 1, 1, 2, 2, false, fun _ => false, fun _ => none⟩
def q2 : Pro := (q1.setWho 0).count wx19
def q3 : Pro := (q2.setWho 2).setDoes 2
def q4 : Pro := q3.setFilled true
def q5 : Pro := q4.setNext 5
def q6 : Pro := (q5.setBal 6 0).setDoes 0
theorem q1_ok : q1.ok := ok_new (n := 3) (me := 1) (by decide) (by omega) (by omega) |>.lead 4 0 2
theorem q_lead : (Pro.new 3 1).lead 4 0 2 = (q1, (5, 1), 0) := rfl
theorem q_prom1 : q1.promise 0 5 1 [wx19] = (q2, false) := by
  unfold Pro.promise
  rw [if_neg (by decide), if_pos (by decide)]
  rfl
theorem q2_next : q2.next = 4 := by decide
theorem q2_best : q2.best = fun s => if 3 = s then some wx19 else none := rfl
theorem q_prom2 : q2.promise 0 5 1 [] = (q2, false) := by
  unfold Pro.promise
  rw [if_pos (by decide)]
theorem q_prom3 : q2.promise 2 5 1 [] = (q3, true) := by
  unfold Pro.promise
  rw [if_neg (by decide), if_neg (by decide)]
  rfl
theorem q_prop1 : q2.propose ⟨#[121]⟩ = (q2, 16) := by
  unfold Pro.propose
  rw [if_neg (by decide), if_neg (by decide), if_pos (by decide)]
theorem q_prop2 : q4.propose ⟨#[121]⟩ = (q5, 0) := by
  unfold Pro.propose
  rw [if_neg (by decide), if_neg (by decide), if_neg (by decide)]
  rfl
theorem q_step : q5.step 6 0 = (q6, true) := by
  unfold Pro.step
  rw [if_neg (by decide)]
  rfl
theorem q3_end {e : Int} (h : IsEnd q3 e) : e = 4 := by
  refine h.uniq ⟨by decide, fun s v hs => ?_, .inr ⟨wx19, by decide⟩⟩
  have hs' : (if 3 = s then some wx19 else none) = some v := hs
  split at hs'
  · omega
  · cases hs'
theorem q3_fill : q3.fill 4 = [⟨2, 5, 1, ⟨#[]⟩⟩, ⟨3, 5, 1, ⟨#[120]⟩⟩] := rfl

section
variable (c : Ctx) (hA : HasBalA c) (hB : HasBalB c) (hD : HasBalD c) (hc : HasProp c) (hT : ProT c) (hL : HasLaw19 c) {H : IHeap} {K : Value → IHeap → Prop}

set_option maxRecDepth 20000 in
include hA hB hD hc hT hL in
theorem awake19 (hK : ∀ H', K (.bool true) H') : c.C (c.F n_hurdlelaw19_awake) [] H K := by
  refine c.enter hL.hurdlelaw19_awake rfl ?_
  simp -implicitDefEqProofs [J0,J1,J2,J3,J4,J5,J6,J7,J8,J9,Ja,Jb,Jc,Jd,Je,Jf,Jg,Jh,Ji,Jj,Jk,Jl,Jm,Jn,Jo,Jp,Jq,Jr,Js,Jt,Ju,Jv,Jw,Jx,Jy,Jz,JA,JB,JC,JD,JE,JF,JG,JH,JI,JJ,JK,JL,JM,JN,JO,JP,JQ,JR,JS,stillI,IOp.kind,JT,JU,JV,JW,JX,JY,JZ,Y0,Y1,Y2,Y3,Y4,Y5,Y6,Y7,Y8,Y9,Ya,Yb,Yc,Yd,Ye,Yf,Yg,Yh,Yi,Yj,Yk,Yl,Ym,Yn,Yo,Yp,Yq,ial,Yr,Ys,Yt,Yu,Yv,Yw,Yx,Yy,ires,iresL,ires1,Yz,YA,YB,YC,YD,YE,bin2,YF,YG,YH,YI,YJ,YK,YL,YM,YN,YO,YP,YQ,YR,YS,YT,YU,un1,shOk,eqL,eq1,fillL,putAt,IHeap.load1,IHeap.loadL,IHeap.storeL,YV,YW,YX,YY,YZ,B0,B1,B2,B3,B4,B5,B6,B7,B8,B9,Ba,Bb,Bc,Bd,Be,Bf,Bg,Bh,Bi,Bj,Bk,Bl,Bm,Bn,Bo,Bp, c_hurdlelaw19_awake]
  refine call_of (PNew_ok c hB hc (fun h => absurd h (by decide)) fun _ _ _ p B H1 k1 hb1 i1 => ?_)
  simp -implicitDefEqProofs [J0,J1,J2,J3,J4,J5,J6,J7,J8,J9,Ja,Jb,Jc,Jd,Je,Jf,Jg,Jh,Ji,Jj,Jk,Jl,Jm,Jn,Jo,Jp,Jq,Jr,Js,Jt,Ju,Jv,Jw,Jx,Jy,Jz,JA,JB,JC,JD,JE,JF,JG,JH,JI,JJ,JK,JL,JM,JN,JO,JP,JQ,JR,JS,stillI,IOp.kind,JT,JU,JV,JW,JX,JY,JZ,Y0,Y1,Y2,Y3,Y4,Y5,Y6,Y7,Y8,Y9,Ya,Yb,Yc,Yd,Ye,Yf,Yg,Yh,Yi,Yj,Yk,Yl,Ym,Yn,Yo,Yp,Yq,ial,Yr,Ys,Yt,Yu,Yv,Yw,Yx,Yy,ires,iresL,ires1,Yz,YA,YB,YC,YD,YE,bin2,YF,YG,YH,YI,YJ,YK,YL,YM,YN,YO,YP,YQ,YR,YS,YT,YU,un1,shOk,eqL,eq1,fillL,putAt,IHeap.load1,IHeap.loadL,IHeap.storeL,YV,YW,YX,YY,YZ,B0,B1,B2,B3,B4,B5,B6,B7,B8,B9,Ba,Bb,Bc,Bd,Be,Bf,Bg,Bh,Bi,Bj,Bk,Bl,Bm,Bn,Bo,Bp, nilOf]
  refine call_of (PNew_ok c hB hc (fun _ => ?_) fun _ _ h3 => absurd h3 (by omega))
  simp -implicitDefEqProofs [J0,J1,J2,J3,J4,J5,J6,J7,J8,J9,Ja,Jb,Jc,Jd,Je,Jf,Jg,Jh,Ji,Jj,Jk,Jl,Jm,Jn,Jo,Jp,Jq,Jr,Js,Jt,Ju,Jv,Jw,Jx,Jy,Jz,JA,JB,JC,JD,JE,JF,JG,JH,JI,JJ,JK,JL,JM,JN,JO,JP,JQ,JR,JS,stillI,IOp.kind,JT,JU,JV,JW,JX,JY,JZ,Y0,Y1,Y2,Y3,Y4,Y5,Y6,Y7,Y8,Y9,Ya,Yb,Yc,Yd,Ye,Yf,Yg,Yh,Yi,Yj,Yk,Yl,Ym,Yn,Yo,Yp,Yq,ial,Yr,Ys,Yt,Yu,Yv,Yw,Yx,Yy,ires,iresL,ires1,Yz,YA,YB,YC,YD,YE,bin2,YF,YG,YH,YI,YJ,YK,YL,YM,YN,YO,YP,YQ,YR,YS,YT,YU,un1,shOk,eqL,eq1,fillL,putAt,IHeap.load1,IHeap.loadL,IHeap.storeL,YV,YW,YX,YY,YZ,B0,B1,B2,B3,B4,B5,B6,B7,B8,B9,Ba,Bb,Bc,Bd,Be,Bf,Bg,Bh,Bi,Bj,Bk,Bl,Bm,Bn,Bo,Bp, nilOf]
  refine call_of (PLead_ok c hA hD hc (a := 4) (n := 0) (fr := 2) i1 fun H2 BS2 f2 g2 i2 => ?_)
  rw [q_lead] at i2 ⊢
  have n2 := f2.next
  obtain ⟨H3, hH3⟩ : ∃ X : IHeap, X = (H2.alloc (.cells [.int .i64 0, .int .i64 0] false)).set H2.next (.cells [.int .i64 5, .int .i64 1] false) := ⟨_, rfl⟩
  have k3 : H2.le H3 := by rw [hH3]; exact (H2.le_alloc _).set (Nat.le_refl _) _
  have n3 : H3.next = H2.next + 1 := by rw [hH3]; rfl
  have b3 : H3.get H2.next = some (.cells [.int .i64 5, .int .i64 1] false) := by rw [hH3, YW, if_pos rfl]
  have nb : ¬ BS2 H2.next := fun h => by have := i2.lt _ h; omega
  obtain ⟨H4, hH4⟩ : ∃ X : IHeap, X = H3.alloc (.cells (rowV wx19) false) := ⟨_, rfl⟩
  have k4 : H3.le H4 := by rw [hH4]; exact H3.le_alloc _
  have n4 : H4.next = H3.next + 1 := by rw [hH4]; rfl
  have hH4' : H3.alloc (.cells [.int .i64 3, .int .i64 1, .int .i64 0, .string ⟨#[120]⟩] false) = H4 := by rw [hH4]; rfl
  have b4 := (k4.get H2.next (by omega)).trans b3
  have v4 : H4.get H3.next = some (.cells (rowV wx19) false) := by rw [hH4, YV, if_pos rfl]
  have nv : ¬ BS2 H3.next := fun h => by have := i2.lt _ h; omega
  simp -implicitDefEqProofs [J0,J1,J2,J3,J4,J5,J6,J7,J8,J9,Ja,Jb,Jc,Jd,Je,Jf,Jg,Jh,Ji,Jj,Jk,Jl,Jm,Jn,Jo,Jp,Jq,Jr,Js,Jt,Ju,Jv,Jw,Jx,Jy,Jz,JA,JB,JC,JD,JE,JF,JG,JH,JI,JJ,JK,JL,JM,JN,JO,JP,JQ,JR,JS,stillI,IOp.kind,JT,JU,JV,JW,JX,JY,JZ,Y0,Y1,Y2,Y3,Y4,Y5,Y6,Y7,Y8,Y9,Ya,Yb,Yc,Yd,Ye,Yf,Yg,Yh,Yi,Yj,Yk,Yl,Ym,Yn,Yo,Yp,Yq,ial,Yr,Ys,Yt,Yu,Yv,Yw,Yx,Yy,ires,iresL,ires1,Yz,YA,YB,YC,YD,YE,bin2,YF,YG,YH,YI,YJ,YK,YL,YM,YN,YO,YP,YQ,YR,YS,YT,YU,un1,shOk,eqL,eq1,fillL,putAt,IHeap.load1,IHeap.loadL,IHeap.storeL,YV,YW,YX,YY,YZ,B0,B1,B2,B3,B4,B5,B6,B7,B8,B9,Ba,Bb,Bc,Bd,Be,Bf,Bg,Bh,Bi,Bj,Bk,Bl,Bm,Bn,Bo,Bp, vB, ← hH3, b3, hH4', b4]
  refine dcall_of c.mono (PPromise_ok c hA hB hc hT (fr := 0) (a := 5) (n := 1) (l := [wx19]) (D := fun b => b = H3.next) (i2.le (k3.trans k4)) (by decide) (by decide) ⟨?_, ?_⟩ (fun b hb => hb ▸ nv) (by decide) fun H5 f5 i5 => ?_)
  · refine ⟨_, _, rfl, fun _ => ⟨H3.next, 0, rowV wx19, false, rfl, by omega, v4, fun i r hr => ?_⟩⟩
    match i, hr with
    | 0, hr => simp at hr; subst hr; exact ⟨rfl, rfl, by simp [rowV]⟩
    | i + 1, hr => simp at hr
  · intro b o n cc e _
    simp only [Value.slice.injEq, Option.some.injEq, Addr.mk.injEq] at e
    exact e.1.1.symm
  rw [q_prom1] at i5 ⊢
  have b5 := (f5.get H2.next (by omega) nb).trans b4
  have n5 := f5.next
  simp -implicitDefEqProofs [J0,J1,J2,J3,J4,J5,J6,J7,J8,J9,Ja,Jb,Jc,Jd,Je,Jf,Jg,Jh,Ji,Jj,Jk,Jl,Jm,Jn,Jo,Jp,Jq,Jr,Js,Jt,Ju,Jv,Jw,Jx,Jy,Jz,JA,JB,JC,JD,JE,JF,JG,JH,JI,JJ,JK,JL,JM,JN,JO,JP,JQ,JR,JS,stillI,IOp.kind,JT,JU,JV,JW,JX,JY,JZ,Y0,Y1,Y2,Y3,Y4,Y5,Y6,Y7,Y8,Y9,Ya,Yb,Yc,Yd,Ye,Yf,Yg,Yh,Yi,Yj,Yk,Yl,Ym,Yn,Yo,Yp,Yq,ial,Yr,Ys,Yt,Yu,Yv,Yw,Yx,Yy,ires,iresL,ires1,Yz,YA,YB,YC,YD,YE,bin2,YF,YG,YH,YI,YJ,YK,YL,YM,YN,YO,YP,YQ,YR,YS,YT,YU,un1,shOk,eqL,eq1,fillL,putAt,IHeap.load1,IHeap.loadL,IHeap.storeL,YV,YW,YX,YY,YZ,B0,B1,B2,B3,B4,B5,B6,B7,B8,B9,Ba,Bb,Bc,Bd,Be,Bf,Bg,Bh,Bi,Bj,Bk,Bl,Bm,Bn,Bo,Bp, b5]
  refine dcall_of c.mono (PPromise_ok c hA hB hc hT (fr := 0) (a := 5) (n := 1) (l := []) (D := fun _ => False) i5 (by decide) (by decide) ⟨⟨none, 0, rfl, fun h => absurd rfl h⟩, fun _ _ _ _ e => by simp at e⟩ (fun b hb => hb.elim) (by decide) fun H6 f6 i6 => ?_)
  rw [q_prom2] at i6 ⊢
  have b6 := (f6.get H2.next (by omega) nb).trans b5
  have n6 := f6.next
  have ok2 : q2.ok := (q1_ok.setWho 0).count wx19
  simp -implicitDefEqProofs [J0,J1,J2,J3,J4,J5,J6,J7,J8,J9,Ja,Jb,Jc,Jd,Je,Jf,Jg,Jh,Ji,Jj,Jk,Jl,Jm,Jn,Jo,Jp,Jq,Jr,Js,Jt,Ju,Jv,Jw,Jx,Jy,Jz,JA,JB,JC,JD,JE,JF,JG,JH,JI,JJ,JK,JL,JM,JN,JO,JP,JQ,JR,JS,stillI,IOp.kind,JT,JU,JV,JW,JX,JY,JZ,Y0,Y1,Y2,Y3,Y4,Y5,Y6,Y7,Y8,Y9,Ya,Yb,Yc,Yd,Ye,Yf,Yg,Yh,Yi,Yj,Yk,Yl,Ym,Yn,Yo,Yp,Yq,ial,Yr,Ys,Yt,Yu,Yv,Yw,Yx,Yy,ires,iresL,ires1,Yz,YA,YB,YC,YD,YE,bin2,YF,YG,YH,YI,YJ,YK,YL,YM,YN,YO,YP,YQ,YR,YS,YT,YU,un1,shOk,eqL,eq1,fillL,putAt,IHeap.load1,IHeap.loadL,IHeap.storeL,YV,YW,YX,YY,YZ,B0,B1,B2,B3,B4,B5,B6,B7,B8,B9,Ba,Bb,Bc,Bd,Be,Bf,Bg,Bh,Bi,Bj,Bk,Bl,Bm,Bn,Bo,Bp]
  refine call_of (PPropose_ok c hc i6 ok2 fun H7 f7 i7 => ?_)
  have pv1 : q2.proposeV ⟨#[121]⟩ = zeroVote := by unfold Pro.proposeV; rw [q_prop1]; rfl
  rw [q_prop1] at i7 ⊢
  rw [pv1]
  have b7 := (f7.get H2.next (by omega) nb).trans b6
  have n7 := f7.next
  obtain ⟨H8, hH8⟩ : ∃ X : IHeap, X = (H7.alloc (.cells [.int .i64 0, .int .i64 0, .int .i64 0, .string ⟨#[]⟩] false)).set H7.next (.cells [.int .i64 0, .int .i64 0, .int .i64 0, .string ⟨#[]⟩] false) := ⟨_, rfl⟩
  have k8 : H7.le H8 := by rw [hH8]; exact (H7.le_alloc _).set (Nat.le_refl _) _
  have b8 := (k8.get H2.next (by omega)).trans b7
  have n8 := k8.next
  simp -implicitDefEqProofs [J0,J1,J2,J3,J4,J5,J6,J7,J8,J9,Ja,Jb,Jc,Jd,Je,Jf,Jg,Jh,Ji,Jj,Jk,Jl,Jm,Jn,Jo,Jp,Jq,Jr,Js,Jt,Ju,Jv,Jw,Jx,Jy,Jz,JA,JB,JC,JD,JE,JF,JG,JH,JI,JJ,JK,JL,JM,JN,JO,JP,JQ,JR,JS,stillI,IOp.kind,JT,JU,JV,JW,JX,JY,JZ,Y0,Y1,Y2,Y3,Y4,Y5,Y6,Y7,Y8,Y9,Ya,Yb,Yc,Yd,Ye,Yf,Yg,Yh,Yi,Yj,Yk,Yl,Ym,Yn,Yo,Yp,Yq,ial,Yr,Ys,Yt,Yu,Yv,Yw,Yx,Yy,ires,iresL,ires1,Yz,YA,YB,YC,YD,YE,bin2,YF,YG,YH,YI,YJ,YK,YL,YM,YN,YO,YP,YQ,YR,YS,YT,YU,un1,shOk,eqL,eq1,fillL,putAt,IHeap.load1,IHeap.loadL,IHeap.storeL,YV,YW,YX,YY,YZ,B0,B1,B2,B3,B4,B5,B6,B7,B8,B9,Ba,Bb,Bc,Bd,Be,Bf,Bg,Bh,Bi,Bj,Bk,Bl,Bm,Bn,Bo,Bp, vV, zeroVote, noS, ← hH8, b8]
  refine call_of (PPromise_ok c hA hB hc hT (fr := 2) (a := 5) (n := 1) (l := []) (D := fun _ => False) (i7.le k8) (by decide) (by decide) ⟨⟨none, 0, rfl, fun h => absurd rfl h⟩, fun _ _ _ _ e => by simp at e⟩ (fun b hb => hb.elim) (by decide) fun H9 f9 i9 => ?_)
  rw [q_prom3] at i9 ⊢
  have b9 := (f9.get H2.next (by omega) nb).trans b8
  have n9 := f9.next
  have ok3 : q3.ok := (ok2.setWho 2).setDoes ⟨by omega, by omega⟩
  simp -implicitDefEqProofs [J0,J1,J2,J3,J4,J5,J6,J7,J8,J9,Ja,Jb,Jc,Jd,Je,Jf,Jg,Jh,Ji,Jj,Jk,Jl,Jm,Jn,Jo,Jp,Jq,Jr,Js,Jt,Ju,Jv,Jw,Jx,Jy,Jz,JA,JB,JC,JD,JE,JF,JG,JH,JI,JJ,JK,JL,JM,JN,JO,JP,JQ,JR,JS,stillI,IOp.kind,JT,JU,JV,JW,JX,JY,JZ,Y0,Y1,Y2,Y3,Y4,Y5,Y6,Y7,Y8,Y9,Ya,Yb,Yc,Yd,Ye,Yf,Yg,Yh,Yi,Yj,Yk,Yl,Ym,Yn,Yo,Yp,Yq,ial,Yr,Ys,Yt,Yu,Yv,Yw,Yx,Yy,ires,iresL,ires1,Yz,YA,YB,YC,YD,YE,bin2,YF,YG,YH,YI,YJ,YK,YL,YM,YN,YO,YP,YQ,YR,YS,YT,YU,un1,shOk,eqL,eq1,fillL,putAt,IHeap.load1,IHeap.loadL,IHeap.storeL,YV,YW,YX,YY,YZ,B0,B1,B2,B3,B4,B5,B6,B7,B8,B9,Ba,Bb,Bc,Bd,Be,Bf,Bg,Bh,Bi,Bj,Bk,Bl,Bm,Bn,Bo,Bp]
  refine call_of (PFill_ok c hc hT i9 ok3 (fun h => absurd h (by decide)) fun _ _ e he vl HA fA iA grA => ?_)
  obtain rfl := q3_end he
  rw [q3_fill] at grA
  have bA := (fA.get H2.next (by omega) nb).trans b9
  have nA := fA.next
  simp -implicitDefEqProofs [J0,J1,J2,J3,J4,J5,J6,J7,J8,J9,Ja,Jb,Jc,Jd,Je,Jf,Jg,Jh,Ji,Jj,Jk,Jl,Jm,Jn,Jo,Jp,Jq,Jr,Js,Jt,Ju,Jv,Jw,Jx,Jy,Jz,JA,JB,JC,JD,JE,JF,JG,JH,JI,JJ,JK,JL,JM,JN,JO,JP,JQ,JR,JS,stillI,IOp.kind,JT,JU,JV,JW,JX,JY,JZ,Y0,Y1,Y2,Y3,Y4,Y5,Y6,Y7,Y8,Y9,Ya,Yb,Yc,Yd,Ye,Yf,Yg,Yh,Yi,Yj,Yk,Yl,Ym,Yn,Yo,Yp,Yq,ial,Yr,Ys,Yt,Yu,Yv,Yw,Yx,Yy,ires,iresL,ires1,Yz,YA,YB,YC,YD,YE,bin2,YF,YG,YH,YI,YJ,YK,YL,YM,YN,YO,YP,YQ,YR,YS,YT,YU,un1,shOk,eqL,eq1,fillL,putAt,IHeap.load1,IHeap.loadL,IHeap.storeL,YV,YW,YX,YY,YZ,B0,B1,B2,B3,B4,B5,B6,B7,B8,B9,Ba,Bb,Bc,Bd,Be,Bf,Bg,Bh,Bi,Bj,Bk,Bl,Bm,Bn,Bo,Bp]
  refine call_of (PFill_ok c hc hT iA (ok3.setFilled true) (fun _ => ?_) fun _ h => absurd h (by decide))
  simp -implicitDefEqProofs [J0,J1,J2,J3,J4,J5,J6,J7,J8,J9,Ja,Jb,Jc,Jd,Je,Jf,Jg,Jh,Ji,Jj,Jk,Jl,Jm,Jn,Jo,Jp,Jq,Jr,Js,Jt,Ju,Jv,Jw,Jx,Jy,Jz,JA,JB,JC,JD,JE,JF,JG,JH,JI,JJ,JK,JL,JM,JN,JO,JP,JQ,JR,JS,stillI,IOp.kind,JT,JU,JV,JW,JX,JY,JZ,Y0,Y1,Y2,Y3,Y4,Y5,Y6,Y7,Y8,Y9,Ya,Yb,Yc,Yd,Ye,Yf,Yg,Yh,Yi,Yj,Yk,Yl,Ym,Yn,Yo,Yp,Yq,ial,Yr,Ys,Yt,Yu,Yv,Yw,Yx,Yy,ires,iresL,ires1,Yz,YA,YB,YC,YD,YE,bin2,YF,YG,YH,YI,YJ,YK,YL,YM,YN,YO,YP,YQ,YR,YS,YT,YU,un1,shOk,eqL,eq1,fillL,putAt,IHeap.load1,IHeap.loadL,IHeap.storeL,YV,YW,YX,YY,YZ,B0,B1,B2,B3,B4,B5,B6,B7,B8,B9,Ba,Bb,Bc,Bd,Be,Bf,Bg,Bh,Bi,Bj,Bk,Bl,Bm,Bn,Bo,Bp]
  have ok4 : q4.ok := ok3.setFilled true
  refine call_of (PPropose_ok c hc (P := q4) iA ok4 fun HB fB iB => ?_)
  have pv2 : q4.proposeV ⟨#[121]⟩ = ⟨4, 5, 1, ⟨#[121]⟩⟩ := by unfold Pro.proposeV; rw [q_prop2]; rfl
  rw [q_prop2] at iB ⊢
  rw [pv2]
  have bB := (fB.get H2.next (by omega) nb).trans bA
  have nB := fB.next
  have dA := grA.slD
  have dB := dA.fr fB (fun b hb h => by have := i9.lt _ h; omega)
  obtain ⟨HC, hHC⟩ : ∃ X : IHeap, X = (HB.alloc (.cells [.int .i64 0, .int .i64 0, .int .i64 0, .string ⟨#[]⟩] false)).set HB.next (.cells [.int .i64 4, .int .i64 5, .int .i64 1, .string ⟨#[121]⟩] false) := ⟨_, rfl⟩
  have kC : HB.le HC := by rw [hHC]; exact (HB.le_alloc _).set (Nat.le_refl _) _
  have bC := (kC.get H2.next (by omega)).trans bB
  have cC : HC.get HB.next = some (.cells [.int .i64 4, .int .i64 5, .int .i64 1, .string ⟨#[121]⟩] false) := by rw [hHC, YW, if_pos rfl]
  have nC : HC.next = HB.next + 1 := by rw [hHC]; rfl
  have dC := dB.le kC
  obtain ⟨b, o, cp, cs, ro, ea, hb, hget, hrl, hrow, hbd⟩ := dC.sl.at (i := 0) (r := rowV ⟨2, 5, 1, ⟨#[]⟩⟩) rfl
  obtain ⟨b', o', cp', cs', ro', ea', hb', hget', hrl', hrow', hbd'⟩ := dC.sl.at (i := 1) (r := rowV ⟨3, 5, 1, ⟨#[120]⟩⟩) rfl
  rw [ea] at ea'
  simp only [Value.slice.injEq, Option.some.injEq, Addr.mk.injEq] at ea'
  obtain ⟨⟨rfl, rfl, -⟩, -, rfl⟩ := ea'
  rw [hget] at hget'
  simp only [Option.some.injEq, IObj.cells.injEq] at hget'
  obtain ⟨rfl, rfl⟩ := hget'
  subst ea
  have s0 := row_at hrow 3 (by omega)
  have s1 := row_at hrow' 3 (by omega)
  have s2 := win hrow' 1 2 (by omega)
  simp only [rowV, List.getElem?_cons_succ, List.getElem?_cons_zero, List.drop_succ_cons, List.drop_zero, List.take_succ_cons, List.take_zero, Nat.zero_mul, Nat.one_mul, Nat.add_zero] at s0 s1 s2
  have hbd2 : o + 4 + 1 + 2 ≤ cs.length := by omega
  simp -implicitDefEqProofs [J0,J1,J2,J3,J4,J5,J6,J7,J8,J9,Ja,Jb,Jc,Jd,Je,Jf,Jg,Jh,Ji,Jj,Jk,Jl,Jm,Jn,Jo,Jp,Jq,Jr,Js,Jt,Ju,Jv,Jw,Jx,Jy,Jz,JA,JB,JC,JD,JE,JF,JG,JH,JI,JJ,JK,JL,JM,JN,JO,JP,JQ,JR,JS,stillI,IOp.kind,JT,JU,JV,JW,JX,JY,JZ,Y0,Y1,Y2,Y3,Y4,Y5,Y6,Y7,Y8,Y9,Ya,Yb,Yc,Yd,Ye,Yf,Yg,Yh,Yi,Yj,Yk,Yl,Ym,Yn,Yo,Yp,Yq,ial,Yr,Ys,Yt,Yu,Yv,Yw,Yx,Yy,ires,iresL,ires1,Yz,YA,YB,YC,YD,YE,bin2,YF,YG,YH,YI,YJ,YK,YL,YM,YN,YO,YP,YQ,YR,YS,YT,YU,un1,shOk,eqL,eq1,fillL,putAt,IHeap.load1,IHeap.loadL,IHeap.storeL,YV,YW,YX,YY,YZ,B0,B1,B2,B3,B4,B5,B6,B7,B8,B9,Ba,Bb,Bc,Bd,Be,Bf,Bg,Bh,Bi,Bj,Bk,Bl,Bm,Bn,Bo,Bp, vV, ← hHC, bC]
  refine dcall_of c.mono (PLeads_ok c hc (P := q5) (iB.le kC) ?_)
  rw [decide_eq_true (show q5.does = 2 from rfl)]
  simp -implicitDefEqProofs [J0,J1,J2,J3,J4,J5,J6,J7,J8,J9,Ja,Jb,Jc,Jd,Je,Jf,Jg,Jh,Ji,Jj,Jk,Jl,Jm,Jn,Jo,Jp,Jq,Jr,Js,Jt,Ju,Jv,Jw,Jx,Jy,Jz,JA,JB,JC,JD,JE,JF,JG,JH,JI,JJ,JK,JL,JM,JN,JO,JP,JQ,JR,JS,stillI,IOp.kind,JT,JU,JV,JW,JX,JY,JZ,Y0,Y1,Y2,Y3,Y4,Y5,Y6,Y7,Y8,Y9,Ya,Yb,Yc,Yd,Ye,Yf,Yg,Yh,Yi,Yj,Yk,Yl,Ym,Yn,Yo,Yp,Yq,ial,Yr,Ys,Yt,Yu,Yv,Yw,Yx,Yy,ires,iresL,ires1,Yz,YA,YB,YC,YD,YE,bin2,YF,YG,YH,YI,YJ,YK,YL,YM,YN,YO,YP,YQ,YR,YS,YT,YU,un1,shOk,eqL,eq1,fillL,putAt,IHeap.load1,IHeap.loadL,IHeap.storeL,YV,YW,YX,YY,YZ,B0,B1,B2,B3,B4,B5,B6,B7,B8,B9,Ba,Bb,Bc,Bd,Be,Bf,Bg,Bh,Bi,Bj,Bk,Bl,Bm,Bn,Bo,Bp, hget, s0, s1, s2, hbd2, bC, cC, str2]
  refine dcall_of c.mono (PStep_ok c hA hc (a := 6) (n := 0) (iB.le kC) fun HD fD iD => ?_)
  rw [q_step] at iD ⊢
  simp -implicitDefEqProofs [J0,J1,J2,J3,J4,J5,J6,J7,J8,J9,Ja,Jb,Jc,Jd,Je,Jf,Jg,Jh,Ji,Jj,Jk,Jl,Jm,Jn,Jo,Jp,Jq,Jr,Js,Jt,Ju,Jv,Jw,Jx,Jy,Jz,JA,JB,JC,JD,JE,JF,JG,JH,JI,JJ,JK,JL,JM,JN,JO,JP,JQ,JR,JS,stillI,IOp.kind,JT,JU,JV,JW,JX,JY,JZ,Y0,Y1,Y2,Y3,Y4,Y5,Y6,Y7,Y8,Y9,Ya,Yb,Yc,Yd,Ye,Yf,Yg,Yh,Yi,Yj,Yk,Yl,Ym,Yn,Yo,Yp,Yq,ial,Yr,Ys,Yt,Yu,Yv,Yw,Yx,Yy,ires,iresL,ires1,Yz,YA,YB,YC,YD,YE,bin2,YF,YG,YH,YI,YJ,YK,YL,YM,YN,YO,YP,YQ,YR,YS,YT,YU,un1,shOk,eqL,eq1,fillL,putAt,IHeap.load1,IHeap.loadL,IHeap.storeL,YV,YW,YX,YY,YZ,B0,B1,B2,B3,B4,B5,B6,B7,B8,B9,Ba,Bb,Bc,Bd,Be,Bf,Bg,Bh,Bi,Bj,Bk,Bl,Bm,Bn,Bo,Bp]
  refine dcall_of c.mono (PLeads_ok c hc iD ?_)
  rw [decide_eq_false (show ¬ q6.does = 2 by decide)]
  simp -implicitDefEqProofs [J0,J1,J2,J3,J4,J5,J6,J7,J8,J9,Ja,Jb,Jc,Jd,Je,Jf,Jg,Jh,Ji,Jj,Jk,Jl,Jm,Jn,Jo,Jp,Jq,Jr,Js,Jt,Ju,Jv,Jw,Jx,Jy,Jz,JA,JB,JC,JD,JE,JF,JG,JH,JI,JJ,JK,JL,JM,JN,JO,JP,JQ,JR,JS,stillI,IOp.kind,JT,JU,JV,JW,JX,JY,JZ,Y0,Y1,Y2,Y3,Y4,Y5,Y6,Y7,Y8,Y9,Ya,Yb,Yc,Yd,Ye,Yf,Yg,Yh,Yi,Yj,Yk,Yl,Ym,Yn,Yo,Yp,Yq,ial,Yr,Ys,Yt,Yu,Yv,Yw,Yx,Yy,ires,iresL,ires1,Yz,YA,YB,YC,YD,YE,bin2,YF,YG,YH,YI,YJ,YK,YL,YM,YN,YO,YP,YQ,YR,YS,YT,YU,un1,shOk,eqL,eq1,fillL,putAt,IHeap.load1,IHeap.loadL,IHeap.storeL,YV,YW,YX,YY,YZ,B0,B1,B2,B3,B4,B5,B6,B7,B8,B9,Ba,Bb,Bc,Bd,Be,Bf,Bg,Bh,Bi,Bj,Bk,Bl,Bm,Bn,Bo,Bp]
  exact hK _
end
end Go.Proofs.YtafnkmiggmfbdaaI
