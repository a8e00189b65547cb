/- Ballots: the greatest, the next one. -/
import Derived.Test.YtafnkmiggmfbdaaBalC
import Derived.Test.YtafnkmiggmfbdaaPartBalD
namespace Go.Proofs.YtafnkmiggmfbdaaI
set_option linter.unusedSimpArgs false
set_option linter.unusedVariables false
open Go

def rowB (b : Int × Int) : List Value := [.int .i64 b.1, .int .i64 b.2]
def cmpBB (x y : Int × Int) : Int := cmpB x.1 x.2 y.1 y.2
def maxBy {α : Type} (cmp : α → α → Int) : List α → α → α
  | [], m => m
  | r :: l, m => maxBy cmp l (if 0 < cmp r m then r else m)

theorem maxBy_append {α : Type} (cmp : α → α → Int) : ∀ (l l' : List α) (m : α), maxBy cmp (l ++ l') m = maxBy cmp l' (maxBy cmp l m)
  | [], _, _ => rfl
  | r :: l, l', m => maxBy_append cmp l l' _
theorem maxBy_take {α : Type} (cmp : α → α → Int) (l : List α) (m r : α) (i : Nat) (h : l[i]? = some r) : maxBy cmp (l.take (i + 1)) m = if 0 < cmp r (maxBy cmp (l.take i) m) then r else maxBy cmp (l.take i) m := by
  rw [List.take_add_one, h, maxBy_append]; rfl

def maxL (l : List (Int × Int)) : Int × Int := match l with
  | [] => (0, 0)
  | x :: l => maxBy cmpBB l x

section
variable (c : Ctx) (hA : HasBalA c) (hc : HasBalD c) {H : IHeap} {K : Value → IHeap → Prop}
include hc

theorem Next_ok {a n node : Int} (hK : ∀ H', H.le H' → K (vB (nextB a node).1 (nextB a node).2) H') : c.C (c.F n_ballot_Next) [vB a n, .int .i64 node] H K := by
  refine c.enter hc.ballot_Next rfl ?_
  simp -implicitDefEqProofs [J0,J1,J2,J3,J4,J5,J6,J7,J8,J9,Ja,Jb,Jc,Jd,Je,Jf,Jg,Jh,Ji,Jj,Jk,Jl,Jm,Jn,Jo,Jp,Jq,Jr,Js,Jt,Ju,Jv,Jw,Jx,Jy,Jz,JA,JB,JC,JD,JE,JF,JG,JH,JI,JJ,JK,JL,JM,JN,JO,JP,JQ,JR,JS,stillI,IOp.kind,JT,JU,JV,JW,JX,JY,JZ,Y0,Y1,Y2,Y3,Y4,Y5,Y6,Y7,Y8,Y9,Ya,Yb,Yc,Yd,Ye,Yf,Yg,Yh,Yi,Yj,Yk,Yl,Ym,Yn,Yo,Yp,Yq,ial,Yr,Ys,Yt,Yu,Yv,Yw,Yx,Yy,ires,iresL,ires1,Yz,YA,YB,YC,YD,YE,bin2,YF,YG,YH,YI,YJ,YK,YL,YM,YN,YO,YP,YQ,YR,YS,YT,YU,un1,shOk,eqL,eq1,fillL,putAt,IHeap.load1,IHeap.loadL,IHeap.storeL,YV,YW,YX,YY,YZ,B0,B1,B2,B3,B4,B5,B6,B7,B8,B9,Ba,Bb,Bc,Bd,Be,Bf,Bg,Bh,Bi,Bj,Bk,Bl,Bm,Bn,Bo,Bp, c_ballot_Next, vB]
  unfold nextB vB at hK
  by_cases h1 : a < 0
  · simp -implicitDefEqProofs [J0,J1,J2,J3,J4,J5,J6,J7,J8,J9,Ja,Jb,Jc,Jd,Je,Jf,Jg,Jh,Ji,Jj,Jk,Jl,Jm,Jn,Jo,Jp,Jq,Jr,Js,Jt,Ju,Jv,Jw,Jx,Jy,Jz,JA,JB,JC,JD,JE,JF,JG,JH,JI,JJ,JK,JL,JM,JN,JO,JP,JQ,JR,JS,stillI,IOp.kind,JT,JU,JV,JW,JX,JY,JZ,Y0,Y1,Y2,Y3,Y4,Y5,Y6,Y7,Y8,Y9,Ya,Yb,Yc,Yd,Ye,Yf,Yg,Yh,Yi,Yj,Yk,Yl,Ym,Yn,Yo,Yp,Yq,ial,Yr,Ys,Yt,Yu,Yv,Yw,Yx,Yy,ires,iresL,ires1,Yz,YA,YB,YC,YD,YE,bin2,YF,YG,YH,YI,YJ,YK,YL,YM,YN,YO,YP,YQ,YR,YS,YT,YU,un1,shOk,eqL,eq1,fillL,putAt,IHeap.load1,IHeap.loadL,IHeap.storeL,YV,YW,YX,YY,YZ,B0,B1,B2,B3,B4,B5,B6,B7,B8,B9,Ba,Bb,Bc,Bd,Be,Bf,Bg,Bh,Bi,Bj,Bk,Bl,Bm,Bn,Bo,Bp, h1]
    simp only [h1, true_or, if_true] at hK
    exact hK _ (by (repeat' first | exact IHeap.le_refl _ | assumption | apply IHeap.le.alloc | (refine IHeap.le.set ?_ (by (try simp only [YX, YY]); omega) _) | (refine IHeap.le.trans ?_ (by assumption))))
  · by_cases h2 : 2147483647 ≤ a
    · simp -implicitDefEqProofs [J0,J1,J2,J3,J4,J5,J6,J7,J8,J9,Ja,Jb,Jc,Jd,Je,Jf,Jg,Jh,Ji,Jj,Jk,Jl,Jm,Jn,Jo,Jp,Jq,Jr,Js,Jt,Ju,Jv,Jw,Jx,Jy,Jz,JA,JB,JC,JD,JE,JF,JG,JH,JI,JJ,JK,JL,JM,JN,JO,JP,JQ,JR,JS,stillI,IOp.kind,JT,JU,JV,JW,JX,JY,JZ,Y0,Y1,Y2,Y3,Y4,Y5,Y6,Y7,Y8,Y9,Ya,Yb,Yc,Yd,Ye,Yf,Yg,Yh,Yi,Yj,Yk,Yl,Ym,Yn,Yo,Yp,Yq,ial,Yr,Ys,Yt,Yu,Yv,Yw,Yx,Yy,ires,iresL,ires1,Yz,YA,YB,YC,YD,YE,bin2,YF,YG,YH,YI,YJ,YK,YL,YM,YN,YO,YP,YQ,YR,YS,YT,YU,un1,shOk,eqL,eq1,fillL,putAt,IHeap.load1,IHeap.loadL,IHeap.storeL,YV,YW,YX,YY,YZ,B0,B1,B2,B3,B4,B5,B6,B7,B8,B9,Ba,Bb,Bc,Bd,Be,Bf,Bg,Bh,Bi,Bj,Bk,Bl,Bm,Bn,Bo,Bp, h1, h2]
      simp only [h1, h2, or_true, if_true] at hK
      exact hK _ (by (repeat' first | exact IHeap.le_refl _ | assumption | apply IHeap.le.alloc | (refine IHeap.le.set ?_ (by (try simp only [YX, YY]); omega) _) | (refine IHeap.le.trans ?_ (by assumption))))
    · have hw : IntKind.i64.wrap (a + 1) = a + 1 := wrap64 (by omega) (by omega)
      simp -implicitDefEqProofs [J0,J1,J2,J3,J4,J5,J6,J7,J8,J9,Ja,Jb,Jc,Jd,Je,Jf,Jg,Jh,Ji,Jj,Jk,Jl,Jm,Jn,Jo,Jp,Jq,Jr,Js,Jt,Ju,Jv,Jw,Jx,Jy,Jz,JA,JB,JC,JD,JE,JF,JG,JH,JI,JJ,JK,JL,JM,JN,JO,JP,JQ,JR,JS,stillI,IOp.kind,JT,JU,JV,JW,JX,JY,JZ,Y0,Y1,Y2,Y3,Y4,Y5,Y6,Y7,Y8,Y9,Ya,Yb,Yc,Yd,Ye,Yf,Yg,Yh,Yi,Yj,Yk,Yl,Ym,Yn,Yo,Yp,Yq,ial,Yr,Ys,Yt,Yu,Yv,Yw,Yx,Yy,ires,iresL,ires1,Yz,YA,YB,YC,YD,YE,bin2,YF,YG,YH,YI,YJ,YK,YL,YM,YN,YO,YP,YQ,YR,YS,YT,YU,un1,shOk,eqL,eq1,fillL,putAt,IHeap.load1,IHeap.loadL,IHeap.storeL,YV,YW,YX,YY,YZ,B0,B1,B2,B3,B4,B5,B6,B7,B8,B9,Ba,Bb,Bc,Bd,Be,Bf,Bg,Bh,Bi,Bj,Bk,Bl,Bm,Bn,Bo,Bp, h1, h2, hw]
      simp only [h1, h2, or_self, if_false] at hK
      exact hK _ (by (repeat' first | exact IHeap.le_refl _ | assumption | apply IHeap.le.alloc | (refine IHeap.le.set ?_ (by (try simp only [YX, YY]); omega) _) | (refine IHeap.le.trans ?_ (by assumption))))

theorem MaxFuncB_ok {x : Int × Int} {l : List (Int × Int)} {v : Value} {g : FuncId} (hs : SlR H 2 v ((x :: l).map rowB)) (hl : l.length < 4611686018427387904)
    (hg : ∀ (p q : Int × Int) (H : IHeap) (K : Value → IHeap → Prop), (∀ H', H.le H' → K (.int .i64 (cmpBB p q)) H') → c.C g [vB p.1 p.2, vB q.1 q.2] H K)
    (hK : ∀ H', H.le H' → K (vB (maxBy cmpBB l x).1 (maxBy cmpBB l x).2) H') : c.C (c.F n_slices_MaxFunc_api_Ballot_api_Ballot) [v, .func (.func g) #[] #[]] H K := by
  refine c.enter hc.slices_MaxFunc_api_Ballot_api_Ballot rfl ?_
  obtain ⟨a, cap, rfl, h2⟩ := hs
  obtain ⟨b, o, cs, ro, rfl, hb, hget, hrow⟩ := h2 (by simp)
  have hlen : ((x :: l).map rowB).length = l.length + 1 := by simp
  rw [hlen]
  obtain ⟨_, r2, r3⟩ := hrow 0 (rowB x) (by simp)
  simp only [Nat.zero_mul, Nat.add_zero] at r2 r3
  have hbn : b ≠ H.next := by omega
  have hl1 : ¬ ((l.length : Int) + 1 < 1) := by omega
  have hl0 : (0 : Int) < (l.length : Int) + 1 := by omega
  simp -implicitDefEqProofs [J0,J1,J2,J3,J4,J5,J6,J7,J8,J9,Ja,Jb,Jc,Jd,Je,Jf,Jg,Jh,Ji,Jj,Jk,Jl,Jm,Jn,Jo,Jp,Jq,Jr,Js,Jt,Ju,Jv,Jw,Jx,Jy,Jz,JA,JB,JC,JD,JE,JF,JG,JH,JI,JJ,JK,JL,JM,JN,JO,JP,JQ,JR,JS,stillI,IOp.kind,JT,JU,JV,JW,JX,JY,JZ,Y0,Y1,Y2,Y3,Y4,Y5,Y6,Y7,Y8,Y9,Ya,Yb,Yc,Yd,Ye,Yf,Yg,Yh,Yi,Yj,Yk,Yl,Ym,Yn,Yo,Yp,Yq,ial,Yr,Ys,Yt,Yu,Yv,Yw,Yx,Yy,ires,iresL,ires1,Yz,YA,YB,YC,YD,YE,bin2,YF,YG,YH,YI,YJ,YK,YL,YM,YN,YO,YP,YQ,YR,YS,YT,YU,un1,shOk,eqL,eq1,fillL,putAt,IHeap.load1,IHeap.loadL,IHeap.storeL,YV,YW,YX,YY,YZ,B0,B1,B2,B3,B4,B5,B6,B7,B8,B9,Ba,Bb,Bc,Bd,Be,Bf,Bg,Bh,Bi,Bj,Bk,Bl,Bm,Bn,Bo,Bp, c_slices_MaxFunc_api_Ballot_api_Ballot, hl1, hl0, hbn, hget, r2, r3, rowB]
  refine loop_nat c.mono (fun n T H' => ∃ (i : Nat) (m : Int × Int), i ≤ l.length ∧ n = l.length - i ∧ m = maxBy cmpBB (l.take i) x ∧ T 0 = .slice (some ⟨b, o, none⟩) (l.length + 1) cap ∧ T 1 = .func (.func g) #[] #[] ∧
    T 4 = .pointer (some ⟨H.next, 0, none⟩) ∧ T 5 = .pointer (some ⟨H.next + 1, 0, none⟩) ∧ T 6 = .int .i64 (i + 1) ∧ H.next + 2 ≤ H'.next ∧ (∀ k, k < H.next → H'.get k = H.get k) ∧
    H'.get H.next = some (.cells [.int .i64 0, .int .i64 0] false) ∧ H'.get (H.next + 1) = some (.cells (rowB m) false)) l.length ?_ ?_
  · refine ⟨0, x, by omega, rfl, rfl, ?_⟩
    simp -implicitDefEqProofs [J0,J1,J2,J3,J4,J5,J6,J7,J8,J9,Ja,Jb,Jc,Jd,Je,Jf,Jg,Jh,Ji,Jj,Jk,Jl,Jm,Jn,Jo,Jp,Jq,Jr,Js,Jt,Ju,Jv,Jw,Jx,Jy,Jz,JA,JB,JC,JD,JE,JF,JG,JH,JI,JJ,JK,JL,JM,JN,JO,JP,JQ,JR,JS,stillI,IOp.kind,JT,JU,JV,JW,JX,JY,JZ,Y0,Y1,Y2,Y3,Y4,Y5,Y6,Y7,Y8,Y9,Ya,Yb,Yc,Yd,Ye,Yf,Yg,Yh,Yi,Yj,Yk,Yl,Ym,Yn,Yo,Yp,Yq,ial,Yr,Ys,Yt,Yu,Yv,Yw,Yx,Yy,ires,iresL,ires1,Yz,YA,YB,YC,YD,YE,bin2,YF,YG,YH,YI,YJ,YK,YL,YM,YN,YO,YP,YQ,YR,YS,YT,YU,un1,shOk,eqL,eq1,fillL,putAt,IHeap.load1,IHeap.loadL,IHeap.storeL,YV,YW,YX,YY,YZ,B0,B1,B2,B3,B4,B5,B6,B7,B8,B9,Ba,Bb,Bc,Bd,Be,Bf,Bg,Bh,Bi,Bj,Bk,Bl,Bm,Bn,Bo,Bp, rowB]
    intro k hk
    have e1 : k ≠ H.next := by omega
    have e2 : k ≠ H.next + 1 := by omega
    simp [e1, e2]
  · rintro n T H' ⟨i, m, hi, rfl, hm, t0, t1, t4, t5, t6, hn, hold, g4, g5⟩
    have hb' := hold b hb
    by_cases hil : i < l.length
    · have hc1 : (i : Int) + 1 < (l.length : Int) + 1 := by omega
      have hc0 : (0 : Int) ≤ (i : Int) + 1 := by omega
      have hct : ((i : Int) + 1).toNat = i + 1 := by omega
      obtain ⟨_, s2, s3⟩ := hrow (i + 1) (rowB l[i]) (by simp [hil])
      simp -implicitDefEqProofs [J0,J1,J2,J3,J4,J5,J6,J7,J8,J9,Ja,Jb,Jc,Jd,Je,Jf,Jg,Jh,Ji,Jj,Jk,Jl,Jm,Jn,Jo,Jp,Jq,Jr,Js,Jt,Ju,Jv,Jw,Jx,Jy,Jz,JA,JB,JC,JD,JE,JF,JG,JH,JI,JJ,JK,JL,JM,JN,JO,JP,JQ,JR,JS,stillI,IOp.kind,JT,JU,JV,JW,JX,JY,JZ,Y0,Y1,Y2,Y3,Y4,Y5,Y6,Y7,Y8,Y9,Ya,Yb,Yc,Yd,Ye,Yf,Yg,Yh,Yi,Yj,Yk,Yl,Ym,Yn,Yo,Yp,Yq,ial,Yr,Ys,Yt,Yu,Yv,Yw,Yx,Yy,ires,iresL,ires1,Yz,YA,YB,YC,YD,YE,bin2,YF,YG,YH,YI,YJ,YK,YL,YM,YN,YO,YP,YQ,YR,YS,YT,YU,un1,shOk,eqL,eq1,fillL,putAt,IHeap.load1,IHeap.loadL,IHeap.storeL,YV,YW,YX,YY,YZ,B0,B1,B2,B3,B4,B5,B6,B7,B8,B9,Ba,Bb,Bc,Bd,Be,Bf,Bg,Bh,Bi,Bj,Bk,Bl,Bm,Bn,Bo,Bp, t0, t1, t4, t5, t6, hc1, hc0, hct, hb', hget, s2, s3, g5, rowB]
      refine dcall_of c.mono (hg l[i] m _ _ fun H1 h1 => ?_)
      have k5 := (h1.get (H.next + 1) (by omega)).trans g5
      have k4 := (h1.get H.next (by omega)).trans g4
      have kb := (h1.get b (by omega)).trans hb'
      have hw : IntKind.i64.wrap ((i : Int) + 1 + 1) = (i : Int) + 1 + 1 := wrap64 (by omega) (by omega)
      have hmt := maxBy_take cmpBB l x l[i] i (by simp [hil])
      rw [← hm] at hmt
      by_cases hcmp : 0 < cmpBB l[i] m
      · simp -implicitDefEqProofs [J0,J1,J2,J3,J4,J5,J6,J7,J8,J9,Ja,Jb,Jc,Jd,Je,Jf,Jg,Jh,Ji,Jj,Jk,Jl,Jm,Jn,Jo,Jp,Jq,Jr,Js,Jt,Ju,Jv,Jw,Jx,Jy,Jz,JA,JB,JC,JD,JE,JF,JG,JH,JI,JJ,JK,JL,JM,JN,JO,JP,JQ,JR,JS,stillI,IOp.kind,JT,JU,JV,JW,JX,JY,JZ,Y0,Y1,Y2,Y3,Y4,Y5,Y6,Y7,Y8,Y9,Ya,Yb,Yc,Yd,Ye,Yf,Yg,Yh,Yi,Yj,Yk,Yl,Ym,Yn,Yo,Yp,Yq,ial,Yr,Ys,Yt,Yu,Yv,Yw,Yx,Yy,ires,iresL,ires1,Yz,YA,YB,YC,YD,YE,bin2,YF,YG,YH,YI,YJ,YK,YL,YM,YN,YO,YP,YQ,YR,YS,YT,YU,un1,shOk,eqL,eq1,fillL,putAt,IHeap.load1,IHeap.loadL,IHeap.storeL,YV,YW,YX,YY,YZ,B0,B1,B2,B3,B4,B5,B6,B7,B8,B9,Ba,Bb,Bc,Bd,Be,Bf,Bg,Bh,Bi,Bj,Bk,Bl,Bm,Bn,Bo,Bp, t0, t1, t4, t5, t6, hc1, hc0, hct, hb', hget, s2, s3, k5, k4, kb, rowB, hcmp, hw]
        refine ⟨l.length - (i + 1), by omega, i + 1, by omega, rfl, by simp, by have := h1.next; omega, fun k hk => ?_, ?_⟩
        · rw [if_neg (by omega), h1.get k (by omega), hold k hk]
        · rw [hmt, if_pos hcmp]; exact ⟨rfl, rfl⟩
      · simp -implicitDefEqProofs [J0,J1,J2,J3,J4,J5,J6,J7,J8,J9,Ja,Jb,Jc,Jd,Je,Jf,Jg,Jh,Ji,Jj,Jk,Jl,Jm,Jn,Jo,Jp,Jq,Jr,Js,Jt,Ju,Jv,Jw,Jx,Jy,Jz,JA,JB,JC,JD,JE,JF,JG,JH,JI,JJ,JK,JL,JM,JN,JO,JP,JQ,JR,JS,stillI,IOp.kind,JT,JU,JV,JW,JX,JY,JZ,Y0,Y1,Y2,Y3,Y4,Y5,Y6,Y7,Y8,Y9,Ya,Yb,Yc,Yd,Ye,Yf,Yg,Yh,Yi,Yj,Yk,Yl,Ym,Yn,Yo,Yp,Yq,ial,Yr,Ys,Yt,Yu,Yv,Yw,Yx,Yy,ires,iresL,ires1,Yz,YA,YB,YC,YD,YE,bin2,YF,YG,YH,YI,YJ,YK,YL,YM,YN,YO,YP,YQ,YR,YS,YT,YU,un1,shOk,eqL,eq1,fillL,putAt,IHeap.load1,IHeap.loadL,IHeap.storeL,YV,YW,YX,YY,YZ,B0,B1,B2,B3,B4,B5,B6,B7,B8,B9,Ba,Bb,Bc,Bd,Be,Bf,Bg,Bh,Bi,Bj,Bk,Bl,Bm,Bn,Bo,Bp, t0, t1, t4, t5, t6, hc1, hc0, hct, hb', hget, s2, s3, k5, k4, kb, rowB, hcmp, hw]
        refine ⟨l.length - (i + 1), by omega, i + 1, by omega, rfl, by simp, by have := h1.next; omega, fun k hk => ?_, ?_⟩
        · rw [h1.get k (by omega), hold k hk]
        · rw [hmt, if_neg hcmp]; exact ⟨rfl, rfl⟩
    · have hie : i = l.length := by omega
      subst hie
      rw [List.take_length] at hm
      simp -implicitDefEqProofs [J0,J1,J2,J3,J4,J5,J6,J7,J8,J9,Ja,Jb,Jc,Jd,Je,Jf,Jg,Jh,Ji,Jj,Jk,Jl,Jm,Jn,Jo,Jp,Jq,Jr,Js,Jt,Ju,Jv,Jw,Jx,Jy,Jz,JA,JB,JC,JD,JE,JF,JG,JH,JI,JJ,JK,JL,JM,JN,JO,JP,JQ,JR,JS,stillI,IOp.kind,JT,JU,JV,JW,JX,JY,JZ,Y0,Y1,Y2,Y3,Y4,Y5,Y6,Y7,Y8,Y9,Ya,Yb,Yc,Yd,Ye,Yf,Yg,Yh,Yi,Yj,Yk,Yl,Ym,Yn,Yo,Yp,Yq,ial,Yr,Ys,Yt,Yu,Yv,Yw,Yx,Yy,ires,iresL,ires1,Yz,YA,YB,YC,YD,YE,bin2,YF,YG,YH,YI,YJ,YK,YL,YM,YN,YO,YP,YQ,YR,YS,YT,YU,un1,shOk,eqL,eq1,fillL,putAt,IHeap.load1,IHeap.loadL,IHeap.storeL,YV,YW,YX,YY,YZ,B0,B1,B2,B3,B4,B5,B6,B7,B8,B9,Ba,Bb,Bc,Bd,Be,Bf,Bg,Bh,Bi,Bj,Bk,Bl,Bm,Bn,Bo,Bp, t0, t1, t4, t5, t6, g5, g4, rowB]
      rw [← hm] at hK
      refine hK _ ⟨by simp only [YY]; omega, fun k hk => ?_⟩
      rw [YW, if_neg (by omega)]; exact hold k hk

include hA
theorem greatest_ok {x : Int × Int} {l : List (Int × Int)} {v : Value} (hs : SlR H 2 v ((x :: l).map rowB)) (hl : l.length < 4611686018427387904) (hK : ∀ H', H.le H' → K (vB (maxBy cmpBB l x).1 (maxBy cmpBB l x).2) H') :
    c.C (c.F n_ballot_greatest) [v] H K := by
  refine c.enter hc.ballot_greatest rfl ?_
  simp -implicitDefEqProofs [J0,J1,J2,J3,J4,J5,J6,J7,J8,J9,Ja,Jb,Jc,Jd,Je,Jf,Jg,Jh,Ji,Jj,Jk,Jl,Jm,Jn,Jo,Jp,Jq,Jr,Js,Jt,Ju,Jv,Jw,Jx,Jy,Jz,JA,JB,JC,JD,JE,JF,JG,JH,JI,JJ,JK,JL,JM,JN,JO,JP,JQ,JR,JS,stillI,IOp.kind,JT,JU,JV,JW,JX,JY,JZ,Y0,Y1,Y2,Y3,Y4,Y5,Y6,Y7,Y8,Y9,Ya,Yb,Yc,Yd,Ye,Yf,Yg,Yh,Yi,Yj,Yk,Yl,Ym,Yn,Yo,Yp,Yq,ial,Yr,Ys,Yt,Yu,Yv,Yw,Yx,Yy,ires,iresL,ires1,Yz,YA,YB,YC,YD,YE,bin2,YF,YG,YH,YI,YJ,YK,YL,YM,YN,YO,YP,YQ,YR,YS,YT,YU,un1,shOk,eqL,eq1,fillL,putAt,IHeap.load1,IHeap.loadL,IHeap.storeL,YV,YW,YX,YY,YZ,B0,B1,B2,B3,B4,B5,B6,B7,B8,B9,Ba,Bb,Bc,Bd,Be,Bf,Bg,Bh,Bi,Bj,Bk,Bl,Bm,Bn,Bo,Bp, c_ballot_greatest]
  refine call_of (MaxFuncB_ok c hc (hs.le (H.le_alloc _)) hl (fun p q H K h => Cmp_ok c hA h) fun H1 h1 => ?_)
  have k2 := (h1.get H.next (by simp [YX])).trans (alloc_get H _)
  simp -implicitDefEqProofs [J0,J1,J2,J3,J4,J5,J6,J7,J8,J9,Ja,Jb,Jc,Jd,Je,Jf,Jg,Jh,Ji,Jj,Jk,Jl,Jm,Jn,Jo,Jp,Jq,Jr,Js,Jt,Ju,Jv,Jw,Jx,Jy,Jz,JA,JB,JC,JD,JE,JF,JG,JH,JI,JJ,JK,JL,JM,JN,JO,JP,JQ,JR,JS,stillI,IOp.kind,JT,JU,JV,JW,JX,JY,JZ,Y0,Y1,Y2,Y3,Y4,Y5,Y6,Y7,Y8,Y9,Ya,Yb,Yc,Yd,Ye,Yf,Yg,Yh,Yi,Yj,Yk,Yl,Ym,Yn,Yo,Yp,Yq,ial,Yr,Ys,Yt,Yu,Yv,Yw,Yx,Yy,ires,iresL,ires1,Yz,YA,YB,YC,YD,YE,bin2,YF,YG,YH,YI,YJ,YK,YL,YM,YN,YO,YP,YQ,YR,YS,YT,YU,un1,shOk,eqL,eq1,fillL,putAt,IHeap.load1,IHeap.loadL,IHeap.storeL,YV,YW,YX,YY,YZ,B0,B1,B2,B3,B4,B5,B6,B7,B8,B9,Ba,Bb,Bc,Bd,Be,Bf,Bg,Bh,Bi,Bj,Bk,Bl,Bm,Bn,Bo,Bp, k2, vB]
  refine hK _ ⟨by have := h1.next; simp only [YX] at this; simp only [YY]; omega, fun k hk => ?_⟩
  rw [YW, if_neg (by omega), h1.get k (by simp only [YX]; omega), YV, if_neg (by omega)]

theorem Max_ok {l : List (Int × Int)} {v : Value} (hs : SlR H 2 v (l.map rowB)) (hl : l.length < 4611686018427387904) (hK : ∀ H', H.le H' → K (vB (maxL l).1 (maxL l).2) H') : c.C (c.F n_ballot_Max) [v] H K := by
  refine c.enter hc.ballot_Max rfl ?_
  cases l with
  | nil =>
    obtain ⟨a, cap, rfl, _⟩ := hs
    simp -implicitDefEqProofs [J0,J1,J2,J3,J4,J5,J6,J7,J8,J9,Ja,Jb,Jc,Jd,Je,Jf,Jg,Jh,Ji,Jj,Jk,Jl,Jm,Jn,Jo,Jp,Jq,Jr,Js,Jt,Ju,Jv,Jw,Jx,Jy,Jz,JA,JB,JC,JD,JE,JF,JG,JH,JI,JJ,JK,JL,JM,JN,JO,JP,JQ,JR,JS,stillI,IOp.kind,JT,JU,JV,JW,JX,JY,JZ,Y0,Y1,Y2,Y3,Y4,Y5,Y6,Y7,Y8,Y9,Ya,Yb,Yc,Yd,Ye,Yf,Yg,Yh,Yi,Yj,Yk,Yl,Ym,Yn,Yo,Yp,Yq,ial,Yr,Ys,Yt,Yu,Yv,Yw,Yx,Yy,ires,iresL,ires1,Yz,YA,YB,YC,YD,YE,bin2,YF,YG,YH,YI,YJ,YK,YL,YM,YN,YO,YP,YQ,YR,YS,YT,YU,un1,shOk,eqL,eq1,fillL,putAt,IHeap.load1,IHeap.loadL,IHeap.storeL,YV,YW,YX,YY,YZ,B0,B1,B2,B3,B4,B5,B6,B7,B8,B9,Ba,Bb,Bc,Bd,Be,Bf,Bg,Bh,Bi,Bj,Bk,Bl,Bm,Bn,Bo,Bp, c_ballot_Max]
    exact hK _ (by (repeat' first | exact IHeap.le_refl _ | assumption | apply IHeap.le.alloc | (refine IHeap.le.set ?_ (by (try simp only [YX, YY]); omega) _) | (refine IHeap.le.trans ?_ (by assumption))))
  | cons x l =>
    have hs' := hs
    obtain ⟨a, cap, rfl, _⟩ := hs
    have h0 : ((l.length : Int) + 1 = 0) = False := by simp; omega
    simp -implicitDefEqProofs [J0,J1,J2,J3,J4,J5,J6,J7,J8,J9,Ja,Jb,Jc,Jd,Je,Jf,Jg,Jh,Ji,Jj,Jk,Jl,Jm,Jn,Jo,Jp,Jq,Jr,Js,Jt,Ju,Jv,Jw,Jx,Jy,Jz,JA,JB,JC,JD,JE,JF,JG,JH,JI,JJ,JK,JL,JM,JN,JO,JP,JQ,JR,JS,stillI,IOp.kind,JT,JU,JV,JW,JX,JY,JZ,Y0,Y1,Y2,Y3,Y4,Y5,Y6,Y7,Y8,Y9,Ya,Yb,Yc,Yd,Ye,Yf,Yg,Yh,Yi,Yj,Yk,Yl,Ym,Yn,Yo,Yp,Yq,ial,Yr,Ys,Yt,Yu,Yv,Yw,Yx,Yy,ires,iresL,ires1,Yz,YA,YB,YC,YD,YE,bin2,YF,YG,YH,YI,YJ,YK,YL,YM,YN,YO,YP,YQ,YR,YS,YT,YU,un1,shOk,eqL,eq1,fillL,putAt,IHeap.load1,IHeap.loadL,IHeap.storeL,YV,YW,YX,YY,YZ,B0,B1,B2,B3,B4,B5,B6,B7,B8,B9,Ba,Bb,Bc,Bd,Be,Bf,Bg,Bh,Bi,Bj,Bk,Bl,Bm,Bn,Bo,Bp, c_ballot_Max, h0]
    refine call_of (greatest_ok c hA hc (by simpa using hs'.le (H.le_alloc _)) (by simp at hl; omega) fun H1 h1 => ?_)
    have k2 := (h1.get H.next (by simp [YX])).trans (alloc_get H _)
    simp -implicitDefEqProofs [J0,J1,J2,J3,J4,J5,J6,J7,J8,J9,Ja,Jb,Jc,Jd,Je,Jf,Jg,Jh,Ji,Jj,Jk,Jl,Jm,Jn,Jo,Jp,Jq,Jr,Js,Jt,Ju,Jv,Jw,Jx,Jy,Jz,JA,JB,JC,JD,JE,JF,JG,JH,JI,JJ,JK,JL,JM,JN,JO,JP,JQ,JR,JS,stillI,IOp.kind,JT,JU,JV,JW,JX,JY,JZ,Y0,Y1,Y2,Y3,Y4,Y5,Y6,Y7,Y8,Y9,Ya,Yb,Yc,Yd,Ye,Yf,Yg,Yh,Yi,Yj,Yk,Yl,Ym,Yn,Yo,Yp,Yq,ial,Yr,Ys,Yt,Yu,Yv,Yw,Yx,Yy,ires,iresL,ires1,Yz,YA,YB,YC,YD,YE,bin2,YF,YG,YH,YI,YJ,YK,YL,YM,YN,YO,YP,YQ,YR,YS,YT,YU,un1,shOk,eqL,eq1,fillL,putAt,IHeap.load1,IHeap.loadL,IHeap.storeL,YV,YW,YX,YY,YZ,B0,B1,B2,B3,B4,B5,B6,B7,B8,B9,Ba,Bb,Bc,Bd,Be,Bf,Bg,Bh,Bi,Bj,Bk,Bl,Bm,Bn,Bo,Bp, k2, vB]
    refine hK _ ⟨by have := h1.next; simp only [YX] at this; simp only [YY]; omega, fun k hk => ?_⟩
    rw [YW, if_neg (by omega), h1.get k (by simp only [YX]; omega), YV, if_neg (by omega)]

end
end Go.Proofs.YtafnkmiggmfbdaaI
