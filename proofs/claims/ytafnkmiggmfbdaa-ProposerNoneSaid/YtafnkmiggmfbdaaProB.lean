/- Who proposes: what each function does (second part). -/
import Derived.Test.YtafnkmiggmfbdaaProA
namespace Go.Proofs.YtafnkmiggmfbdaaI
set_option linter.unusedSimpArgs false
set_option linter.unusedVariables false
open Go

section
variable (c : Ctx) (hA : HasBalA c) (hB : HasBalB c) (hD : HasBalD c) (hc : HasProp c) (hT : ProT c) {H : IHeap} {K : Value → IHeap → Prop} {B : Nat → Prop} {p : Nat} {P : Pro}

theorem IsP.put {B : Nat → Prop} {H H' : IHeap} {p : Nat} {P P' : Pro} (h : IsP B H p P) (hn : H.next ≤ H'.next) (hg : ∀ mv, H.get p = some (.cells (cellsP P mv) false) → H'.get p = some (.cells (cellsP P' mv) false))
    (hr : ∀ b, b < H.next → b ≠ p → H'.get b = H.get b) (hb : P'.best = P.best) (hd : P'.does = P.does ∨ P'.does = 0) : IsP B H' p P' := by
  obtain ⟨h1, h2, mv, h3, h4⟩ := h
  refine ⟨fun b hb => Nat.lt_of_lt_of_le (h1 b hb) hn, h2, mv, hg mv h3, ?_⟩
  rcases h4 with ⟨e1, e2, e3⟩ | ⟨r, e, hrB, hm⟩
  · exact .inl ⟨e1, by rw [hb]; exact e2, by rcases hd with hd | hd <;> omega⟩
  · refine .inr ⟨r, e, hrB, ?_⟩
    rw [hb]
    exact hm.same hn (hr r (h1 r hrB) (fun e => hm.ne_cells h3 e.symm))

include hA hc in
theorem PStep_ok {a n : Int} (h : IsP B H p P) (hK : ∀ H', Fr B H H' → IsP B H' p (P.step a n).1 → K (.bool (P.step a n).2) H') : c.C (c.F n_proposer_Proposer_Step) [.pointer (some ⟨p, 0, none⟩), vB a n] H K := by
  refine c.enter hc.proposer_Proposer_Step rfl ?_
  obtain ⟨mv, g, _⟩ := h.rep
  have hp := h.lt p h.own
  have e1 : ¬ p = H.next := by omega
  simp -implicitDefEqProofs [J0,J1,J2,J3,J4,J5,J6,J7,J8,J9,Ja,Jb,Jc,Jd,Je,Jf,Jg,Jh,Ji,Jj,Jk,Jl,Jm,Jn,Jo,Jp,Jq,Jr,Js,Jt,Ju,Jv,Jw,Jx,Jy,Jz,JA,JB,JC,JD,JE,JF,JG,JH,JI,JJ,JK,JL,JM,JN,JO,JP,JQ,JR,JS,stillI,IOp.kind,JT,JU,JV,JW,JX,JY,JZ,Y0,Y1,Y2,Y3,Y4,Y5,Y6,Y7,Y8,Y9,Ya,Yb,Yc,Yd,Ye,Yf,Yg,Yh,Yi,Yj,Yk,Yl,Ym,Yn,Yo,Yp,Yq,ial,Yr,Ys,Yt,Yu,Yv,Yw,Yx,Yy,ires,iresL,ires1,Yz,YA,YB,YC,YD,YE,bin2,YF,YG,YH,YI,YJ,YK,YL,YM,YN,YO,YP,YQ,YR,YS,YT,YU,un1,shOk,eqL,eq1,fillL,putAt,IHeap.load1,IHeap.loadL,IHeap.storeL,YV,YW,YX,YY,YZ,B0,B1,B2,B3,B4,B5,B6,B7,B8,B9,Ba,Bb,Bc,Bd,Be,Bf,Bg,Bh,Bi,Bj,Bk,Bl,Bm,Bn,Bo,Bp, c_proposer_Proposer_Step, vB, nilOf]
  have k0 := H.le_alloc (.cells [.int .i64 a, .int .i64 n] false)
  refine dcall_of c.mono (Valid_ok c hA fun H1 k1 => ?_)
  have g1 := (k1.get p (by rw [YX]; omega)).trans ((k0.get p hp).trans g)
  have b1 := (k1.get H.next (by rw [YX]; omega)).trans (alloc_get H _)
  by_cases hv : validB a n = true
  · simp -implicitDefEqProofs [J0,J1,J2,J3,J4,J5,J6,J7,J8,J9,Ja,Jb,Jc,Jd,Je,Jf,Jg,Jh,Ji,Jj,Jk,Jl,Jm,Jn,Jo,Jp,Jq,Jr,Js,Jt,Ju,Jv,Jw,Jx,Jy,Jz,JA,JB,JC,JD,JE,JF,JG,JH,JI,JJ,JK,JL,JM,JN,JO,JP,JQ,JR,JS,stillI,IOp.kind,JT,JU,JV,JW,JX,JY,JZ,Y0,Y1,Y2,Y3,Y4,Y5,Y6,Y7,Y8,Y9,Ya,Yb,Yc,Yd,Ye,Yf,Yg,Yh,Yi,Yj,Yk,Yl,Ym,Yn,Yo,Yp,Yq,ial,Yr,Ys,Yt,Yu,Yv,Yw,Yx,Yy,ires,iresL,ires1,Yz,YA,YB,YC,YD,YE,bin2,YF,YG,YH,YI,YJ,YK,YL,YM,YN,YO,YP,YQ,YR,YS,YT,YU,un1,shOk,eqL,eq1,fillL,putAt,IHeap.load1,IHeap.loadL,IHeap.storeL,YV,YW,YX,YY,YZ,B0,B1,B2,B3,B4,B5,B6,B7,B8,B9,Ba,Bb,Bc,Bd,Be,Bf,Bg,Bh,Bi,Bj,Bk,Bl,Bm,Bn,Bo,Bp, hv, b1, g1, cP0, cP1, cP2, cP4, cP5, cP6, cP7, cP15, cQ0, cQ1, cQ4, cQ5, cQ6, cQ7, cQ15, cPlen, tP2, tP4, tP6, tP7]
    refine dcall_of c.mono (Cmp_ok c hA fun H2 k2 => ?_)
    have n1 := k1.next
    rw [YX] at n1
    have g2 := (k2.get p (by omega)).trans g1
    have b2 := (k2.get H.next (by omega)).trans b1
    by_cases hcm : cmpB a n P.ba P.bn ≤ 0
    · have hs : P.step a n = (P, false) := by unfold Pro.step; rw [if_pos (.inr hcm)]
      rw [hs] at hK
      simp -implicitDefEqProofs [J0,J1,J2,J3,J4,J5,J6,J7,J8,J9,Ja,Jb,Jc,Jd,Je,Jf,Jg,Jh,Ji,Jj,Jk,Jl,Jm,Jn,Jo,Jp,Jq,Jr,Js,Jt,Ju,Jv,Jw,Jx,Jy,Jz,JA,JB,JC,JD,JE,JF,JG,JH,JI,JJ,JK,JL,JM,JN,JO,JP,JQ,JR,JS,stillI,IOp.kind,JT,JU,JV,JW,JX,JY,JZ,Y0,Y1,Y2,Y3,Y4,Y5,Y6,Y7,Y8,Y9,Ya,Yb,Yc,Yd,Ye,Yf,Yg,Yh,Yi,Yj,Yk,Yl,Ym,Yn,Yo,Yp,Yq,ial,Yr,Ys,Yt,Yu,Yv,Yw,Yx,Yy,ires,iresL,ires1,Yz,YA,YB,YC,YD,YE,bin2,YF,YG,YH,YI,YJ,YK,YL,YM,YN,YO,YP,YQ,YR,YS,YT,YU,un1,shOk,eqL,eq1,fillL,putAt,IHeap.load1,IHeap.loadL,IHeap.storeL,YV,YW,YX,YY,YZ,B0,B1,B2,B3,B4,B5,B6,B7,B8,B9,Ba,Bb,Bc,Bd,Be,Bf,Bg,Bh,Bi,Bj,Bk,Bl,Bm,Bn,Bo,Bp, hcm]
      have k := (k0.trans k1).trans k2
      exact hK _ (k.fr _) (h.le k)
    · have hs : P.step a n = ((P.setBal a n).setDoes 0, true) := by unfold Pro.step; rw [if_neg (by simp [hv, hcm])]
      rw [hs] at hK
      simp -implicitDefEqProofs [J0,J1,J2,J3,J4,J5,J6,J7,J8,J9,Ja,Jb,Jc,Jd,Je,Jf,Jg,Jh,Ji,Jj,Jk,Jl,Jm,Jn,Jo,Jp,Jq,Jr,Js,Jt,Ju,Jv,Jw,Jx,Jy,Jz,JA,JB,JC,JD,JE,JF,JG,JH,JI,JJ,JK,JL,JM,JN,JO,JP,JQ,JR,JS,stillI,IOp.kind,JT,JU,JV,JW,JX,JY,JZ,Y0,Y1,Y2,Y3,Y4,Y5,Y6,Y7,Y8,Y9,Ya,Yb,Yc,Yd,Ye,Yf,Yg,Yh,Yi,Yj,Yk,Yl,Ym,Yn,Yo,Yp,Yq,ial,Yr,Ys,Yt,Yu,Yv,Yw,Yx,Yy,ires,iresL,ires1,Yz,YA,YB,YC,YD,YE,bin2,YF,YG,YH,YI,YJ,YK,YL,YM,YN,YO,YP,YQ,YR,YS,YT,YU,un1,shOk,eqL,eq1,fillL,putAt,IHeap.load1,IHeap.loadL,IHeap.storeL,YV,YW,YX,YY,YZ,B0,B1,B2,B3,B4,B5,B6,B7,B8,B9,Ba,Bb,Bc,Bd,Be,Bf,Bg,Bh,Bi,Bj,Bk,Bl,Bm,Bn,Bo,Bp, hcm, g2, b2, cP0, cP1, cP2, cP4, cP5, cP6, cP7, cP15, cQ0, cQ1, cQ4, cQ5, cQ6, cQ7, cQ15, cPlen, tP2, tP4, tP6, tP7]
      have k := (k0.trans k1).trans k2
      have g0 := (k.get p hp).trans g
      refine hK _ (((k.fr B).set (.inl h.own) _).set (.inl h.own) _) (h.put (Nat.le_trans k.next (Nat.le_refl _)) (fun mv' g' => ?_) (fun b hb hne => ?_) rfl (.inr rfl))
      · rw [g'] at g
        simp only [Option.some.injEq, IObj.cells.injEq, and_true] at g
        have : mv' = mv := by simpa [cellsP] using g
        subst this
        rw [YW, if_pos rfl]
      · rw [YW, if_neg hne, YW, if_neg hne]
        exact k.get b hb
  · have hs : P.step a n = (P, false) := by unfold Pro.step; rw [if_pos (.inl (by simpa using hv))]
    rw [hs] at hK
    simp -implicitDefEqProofs [J0,J1,J2,J3,J4,J5,J6,J7,J8,J9,Ja,Jb,Jc,Jd,Je,Jf,Jg,Jh,Ji,Jj,Jk,Jl,Jm,Jn,Jo,Jp,Jq,Jr,Js,Jt,Ju,Jv,Jw,Jx,Jy,Jz,JA,JB,JC,JD,JE,JF,JG,JH,JI,JJ,JK,JL,JM,JN,JO,JP,JQ,JR,JS,stillI,IOp.kind,JT,JU,JV,JW,JX,JY,JZ,Y0,Y1,Y2,Y3,Y4,Y5,Y6,Y7,Y8,Y9,Ya,Yb,Yc,Yd,Ye,Yf,Yg,Yh,Yi,Yj,Yk,Yl,Ym,Yn,Yo,Yp,Yq,ial,Yr,Ys,Yt,Yu,Yv,Yw,Yx,Yy,ires,iresL,ires1,Yz,YA,YB,YC,YD,YE,bin2,YF,YG,YH,YI,YJ,YK,YL,YM,YN,YO,YP,YQ,YR,YS,YT,YU,un1,shOk,eqL,eq1,fillL,putAt,IHeap.load1,IHeap.loadL,IHeap.storeL,YV,YW,YX,YY,YZ,B0,B1,B2,B3,B4,B5,B6,B7,B8,B9,Ba,Bb,Bc,Bd,Be,Bf,Bg,Bh,Bi,Bj,Bk,Bl,Bm,Bn,Bo,Bp, hv]
    exact hK _ ((k0.trans k1).fr _) (h.le (k0.trans k1))

def zeroVote : VoteD := ⟨0, 0, 0, noS⟩
def Pro.proposeV (P : Pro) (s : ByteArray) : VoteD := if (P.propose s).2 = 0 then ⟨P.next, P.ba, P.bn, s⟩ else zeroVote
include hc in
theorem PPropose_ok {s : ByteArray} (h : IsP B H p P) (ho : P.ok) (hK : ∀ H', Fr B H H' → IsP B H' p (P.propose s).1 → K (.tuple #[vV (P.proposeV s), .int .i64 (P.propose s).2]) H') :
    c.C (c.F n_proposer_Proposer_Propose) [.pointer (some ⟨p, 0, none⟩), .string s] H K := by
  refine c.enter hc.proposer_Proposer_Propose rfl ?_
  obtain ⟨mv, g, _⟩ := h.rep
  have hp := h.lt p h.own
  have e1 : ¬ p = H.next := by omega
  have hl : s.data.toList.length = s.size := rfl
  have kA : ∀ x y, H.le ((H.alloc x).set H.next y) := fun x y => (H.le_alloc _).set (Nat.le_refl _) _
  unfold Pro.proposeV at hK
  unfold Pro.propose at hK
  by_cases h1 : 4096 < s.size
  · have h1' : (4096 : Int) < (s.size : Int) := by omega
    simp only [if_pos h1] at hK
    simp -implicitDefEqProofs [J0,J1,J2,J3,J4,J5,J6,J7,J8,J9,Ja,Jb,Jc,Jd,Je,Jf,Jg,Jh,Ji,Jj,Jk,Jl,Jm,Jn,Jo,Jp,Jq,Jr,Js,Jt,Ju,Jv,Jw,Jx,Jy,Jz,JA,JB,JC,JD,JE,JF,JG,JH,JI,JJ,JK,JL,JM,JN,JO,JP,JQ,JR,JS,stillI,IOp.kind,JT,JU,JV,JW,JX,JY,JZ,Y0,Y1,Y2,Y3,Y4,Y5,Y6,Y7,Y8,Y9,Ya,Yb,Yc,Yd,Ye,Yf,Yg,Yh,Yi,Yj,Yk,Yl,Ym,Yn,Yo,Yp,Yq,ial,Yr,Ys,Yt,Yu,Yv,Yw,Yx,Yy,ires,iresL,ires1,Yz,YA,YB,YC,YD,YE,bin2,YF,YG,YH,YI,YJ,YK,YL,YM,YN,YO,YP,YQ,YR,YS,YT,YU,un1,shOk,eqL,eq1,fillL,putAt,IHeap.load1,IHeap.loadL,IHeap.storeL,YV,YW,YX,YY,YZ,B0,B1,B2,B3,B4,B5,B6,B7,B8,B9,Ba,Bb,Bc,Bd,Be,Bf,Bg,Bh,Bi,Bj,Bk,Bl,Bm,Bn,Bo,Bp, c_proposer_Proposer_Propose, nilOf, hl, h1']
    exact hK _ ((kA _ _).fr _) (h.le (kA _ _))
  · have h1' : ¬ (4096 : Int) < (s.size : Int) := by omega
    simp only [if_neg h1] at hK
    have z5 : ¬ ((5 : Int) = 0) := by decide
    have z16 : ¬ ((16 : Int) = 0) := by decide
    by_cases h2 : 1024 ≤ P.next
    · simp only [if_pos h2, if_neg z5] at hK
      simp -implicitDefEqProofs [J0,J1,J2,J3,J4,J5,J6,J7,J8,J9,Ja,Jb,Jc,Jd,Je,Jf,Jg,Jh,Ji,Jj,Jk,Jl,Jm,Jn,Jo,Jp,Jq,Jr,Js,Jt,Ju,Jv,Jw,Jx,Jy,Jz,JA,JB,JC,JD,JE,JF,JG,JH,JI,JJ,JK,JL,JM,JN,JO,JP,JQ,JR,JS,stillI,IOp.kind,JT,JU,JV,JW,JX,JY,JZ,Y0,Y1,Y2,Y3,Y4,Y5,Y6,Y7,Y8,Y9,Ya,Yb,Yc,Yd,Ye,Yf,Yg,Yh,Yi,Yj,Yk,Yl,Ym,Yn,Yo,Yp,Yq,ial,Yr,Ys,Yt,Yu,Yv,Yw,Yx,Yy,ires,iresL,ires1,Yz,YA,YB,YC,YD,YE,bin2,YF,YG,YH,YI,YJ,YK,YL,YM,YN,YO,YP,YQ,YR,YS,YT,YU,un1,shOk,eqL,eq1,fillL,putAt,IHeap.load1,IHeap.loadL,IHeap.storeL,YV,YW,YX,YY,YZ,B0,B1,B2,B3,B4,B5,B6,B7,B8,B9,Ba,Bb,Bc,Bd,Be,Bf,Bg,Bh,Bi,Bj,Bk,Bl,Bm,Bn,Bo,Bp, c_proposer_Proposer_Propose, nilOf, hl, h1', h2, g, cP0, cP1, cP2, cP4, cP5, cP6, cP7, cP15, cQ0, cQ1, cQ4, cQ5, cQ6, cQ7, cQ15, cPlen, tP2, tP4, tP6, tP7, e1]
      exact hK _ ((kA _ _).fr _) (h.le (kA _ _))
    · simp only [if_neg h2] at hK
      by_cases h3 : P.does = 2
      · simp only [h3, ne_eq, not_true, if_false] at hK
        have w1 : IntKind.i64.wrap (P.next + 1) = P.next + 1 := wrap64 (by have := ho.2.2.2.1; have := ho.2.2.2.2.1; omega) (by omega)
        have w2 : IntKind.i64.wrap ((P.setNext (P.next + 1)).next - 1) = P.next := by
          rw [show (P.setNext (P.next + 1)).next - 1 = P.next by show P.next + 1 - 1 = P.next; omega]
          exact wrap64 (by have := ho.2.2.2.1; have := ho.2.2.2.2.1; omega) (by omega)
        simp -implicitDefEqProofs [J0,J1,J2,J3,J4,J5,J6,J7,J8,J9,Ja,Jb,Jc,Jd,Je,Jf,Jg,Jh,Ji,Jj,Jk,Jl,Jm,Jn,Jo,Jp,Jq,Jr,Js,Jt,Ju,Jv,Jw,Jx,Jy,Jz,JA,JB,JC,JD,JE,JF,JG,JH,JI,JJ,JK,JL,JM,JN,JO,JP,JQ,JR,JS,stillI,IOp.kind,JT,JU,JV,JW,JX,JY,JZ,Y0,Y1,Y2,Y3,Y4,Y5,Y6,Y7,Y8,Y9,Ya,Yb,Yc,Yd,Ye,Yf,Yg,Yh,Yi,Yj,Yk,Yl,Ym,Yn,Yo,Yp,Yq,ial,Yr,Ys,Yt,Yu,Yv,Yw,Yx,Yy,ires,iresL,ires1,Yz,YA,YB,YC,YD,YE,bin2,YF,YG,YH,YI,YJ,YK,YL,YM,YN,YO,YP,YQ,YR,YS,YT,YU,un1,shOk,eqL,eq1,fillL,putAt,IHeap.load1,IHeap.loadL,IHeap.storeL,YV,YW,YX,YY,YZ,B0,B1,B2,B3,B4,B5,B6,B7,B8,B9,Ba,Bb,Bc,Bd,Be,Bf,Bg,Bh,Bi,Bj,Bk,Bl,Bm,Bn,Bo,Bp, c_proposer_Proposer_Propose, nilOf, hl, h1', h2, h3, g, cP0, cP1, cP2, cP4, cP5, cP6, cP7, cP15, cQ0, cQ1, cQ4, cQ5, cQ6, cQ7, cQ15, cPlen, tP2, tP4, tP6, tP7, e1, w1, w2]
        obtain ⟨HX, hHX⟩ : ∃ X : IHeap, X = (H.alloc (.cells [.int .i64 0, .int .i64 0, .int .i64 0, .string ⟨#[]⟩] false)).set p (.cells (cellsP (P.setNext (P.next + 1)) mv) false) := ⟨_, rfl⟩
        have fX : Fr B H HX := by rw [hHX]; exact (((H.le_alloc _).fr B).set (.inl h.own) _)
        have nX : HX.next = H.next + 1 := by rw [hHX]; rfl
        have gX : HX.get H.next = some (.cells [.int .i64 0, .int .i64 0, .int .i64 0, .string ⟨#[]⟩] false) := by
          rw [hHX, YW, if_neg (fun e => e1 e.symm)]; exact alloc_get _ _
        have iX : IsP B HX p (P.setNext (P.next + 1)) := h.put (by omega) (fun mv' g' => by
          have : mv' = mv := by simpa [g', cellsP] using g
          subst this
          rw [hHX, YW, if_pos rfl]) (fun b hb hne => by rw [hHX, YW, if_neg hne, YV, if_neg (by omega)]) rfl (.inl rfl)
        rw [show (H.alloc (.cells [.int .i64 0, .int .i64 0, .int .i64 0, .string ⟨#[]⟩] false)).set p _ = HX from hHX.symm]
        refine call_of (Pvote_ok c hc (s := P.next) iX fun H2 k2 => ?_)
        have g2 := (k2.get H.next (by omega)).trans gX
        simp -implicitDefEqProofs [J0,J1,J2,J3,J4,J5,J6,J7,J8,J9,Ja,Jb,Jc,Jd,Je,Jf,Jg,Jh,Ji,Jj,Jk,Jl,Jm,Jn,Jo,Jp,Jq,Jr,Js,Jt,Ju,Jv,Jw,Jx,Jy,Jz,JA,JB,JC,JD,JE,JF,JG,JH,JI,JJ,JK,JL,JM,JN,JO,JP,JQ,JR,JS,stillI,IOp.kind,JT,JU,JV,JW,JX,JY,JZ,Y0,Y1,Y2,Y3,Y4,Y5,Y6,Y7,Y8,Y9,Ya,Yb,Yc,Yd,Ye,Yf,Yg,Yh,Yi,Yj,Yk,Yl,Ym,Yn,Yo,Yp,Yq,ial,Yr,Ys,Yt,Yu,Yv,Yw,Yx,Yy,ires,iresL,ires1,Yz,YA,YB,YC,YD,YE,bin2,YF,YG,YH,YI,YJ,YK,YL,YM,YN,YO,YP,YQ,YR,YS,YT,YU,un1,shOk,eqL,eq1,fillL,putAt,IHeap.load1,IHeap.loadL,IHeap.storeL,YV,YW,YX,YY,YZ,B0,B1,B2,B3,B4,B5,B6,B7,B8,B9,Ba,Bb,Bc,Bd,Be,Bf,Bg,Bh,Bi,Bj,Bk,Bl,Bm,Bn,Bo,Bp, vV, g2]
        refine hK _ ((fX.trans_le k2).set (.inr (Nat.le_refl _)) _) ?_
        exact ((iX.le k2).fr (((IHeap.le_refl H2).fr (fun b => b = H.next)).set (.inl rfl) _) (fun b hb e => by have := h.lt b hb; omega))
      · have h3' : ¬ P.does = 2 := h3
        simp only [h3, ne_eq, not_false_eq_true, if_true, if_neg z16] at hK
        simp -implicitDefEqProofs [J0,J1,J2,J3,J4,J5,J6,J7,J8,J9,Ja,Jb,Jc,Jd,Je,Jf,Jg,Jh,Ji,Jj,Jk,Jl,Jm,Jn,Jo,Jp,Jq,Jr,Js,Jt,Ju,Jv,Jw,Jx,Jy,Jz,JA,JB,JC,JD,JE,JF,JG,JH,JI,JJ,JK,JL,JM,JN,JO,JP,JQ,JR,JS,stillI,IOp.kind,JT,JU,JV,JW,JX,JY,JZ,Y0,Y1,Y2,Y3,Y4,Y5,Y6,Y7,Y8,Y9,Ya,Yb,Yc,Yd,Ye,Yf,Yg,Yh,Yi,Yj,Yk,Yl,Ym,Yn,Yo,Yp,Yq,ial,Yr,Ys,Yt,Yu,Yv,Yw,Yx,Yy,ires,iresL,ires1,Yz,YA,YB,YC,YD,YE,bin2,YF,YG,YH,YI,YJ,YK,YL,YM,YN,YO,YP,YQ,YR,YS,YT,YU,un1,shOk,eqL,eq1,fillL,putAt,IHeap.load1,IHeap.loadL,IHeap.storeL,YV,YW,YX,YY,YZ,B0,B1,B2,B3,B4,B5,B6,B7,B8,B9,Ba,Bb,Bc,Bd,Be,Bf,Bg,Bh,Bi,Bj,Bk,Bl,Bm,Bn,Bo,Bp, c_proposer_Proposer_Propose, nilOf, hl, h1', h2, h3, g, cP0, cP1, cP2, cP4, cP5, cP6, cP7, cP15, cQ0, cQ1, cQ4, cQ5, cQ6, cQ7, cQ15, cPlen, tP2, tP4, tP6, tP7, e1]
        exact hK _ ((kA _ _).fr _) (h.le (kA _ _))
end
end Go.Proofs.YtafnkmiggmfbdaaI
