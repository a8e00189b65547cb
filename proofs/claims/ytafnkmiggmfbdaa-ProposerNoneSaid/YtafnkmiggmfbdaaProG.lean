/- Who proposes: what stays right; one that is none. -/
import Derived.Test.YtafnkmiggmfbdaaProF
namespace Go.Proofs.YtafnkmiggmfbdaaI
set_option linter.unusedSimpArgs false
set_option linter.unusedVariables false
open Go

theorem ok_new {n me : Int} (h1 : quorumI n ≠ 0) (h2 : 0 ≤ me) (h3 : me < n) : (Pro.new n me).ok :=
  ⟨h1, h2, h3, Int.le_refl _, Int.le_refl _, by show (0 : Int) ≤ 1024; omega, ⟨by show (0 : Int) ≤ 0; omega, by show (0 : Int) ≤ 2; omega⟩, fun _ _ h => by cases h⟩
theorem Pro.ok.lead {P : Pro} (h : P.ok) (a n fr : Int) : (P.lead a n fr).1.ok := by
  unfold Pro.lead
  split
  · exact h
  · rename_i hc
    split
    · exact h
    · simp only [not_or] at hc
      obtain ⟨h1, h2, h3, _⟩ := h
      exact ⟨h1, h2, h3, by show 0 ≤ fr; omega, Int.le_refl _, by show fr ≤ 1024; omega, ⟨by show (0 : Int) ≤ 1; omega, by show (1 : Int) ≤ 2; omega⟩, fun _ _ h => by cases h⟩
theorem Pro.takes_iff {P : Pro} {v : VoteD} : P.takes v = true ↔ P.fr ≤ v.slot ∧ v.slot < 1024 ∧ validB v.a v.n = true ∧ v.val.size ≤ 4096 := by
  unfold Pro.takes
  simp only [Bool.and_eq_true, decide_eq_true_eq]
theorem Pro.ok.count {P : Pro} (h : P.ok) (v : VoteD) : (P.count v).ok := by
  unfold Pro.count
  cases ht : P.takes v with
  | false => exact h
  | true =>
    obtain ⟨t1, t2, t3, t4⟩ := Pro.takes_iff.1 ht
    obtain ⟨h1, h2, h3, h4, h5, h6, h7, h8⟩ := h
    obtain ⟨nx, hnx⟩ : ∃ nx, nx = (if v.slot + 1 > P.next then v.slot + 1 else P.next) := ⟨_, rfl⟩
    have q : P.next ≤ nx ∧ v.slot < nx ∧ nx ≤ 1024 := by rw [hnx]; split <;> omega
    rw [← hnx, if_pos rfl]
    split
    · refine ⟨h1, h2, h3, h4, by show P.fr ≤ nx; omega, q.2.2, h7, fun s w hw => ?_⟩
      have hw' : (if v.slot = s then some v else P.best s) = some w := hw
      split at hw'
      · rename_i e
        injection hw' with hw'
        subst hw'
        exact ⟨e, by show P.fr ≤ s; omega, by show s < nx; omega, t3, t4⟩
      · obtain ⟨a1, a2, a3, a4⟩ := h8 s w hw'
        exact ⟨a1, a2, by show s < nx; omega, a4⟩
    · refine ⟨h1, h2, h3, h4, by show P.fr ≤ nx; omega, q.2.2, h7, fun s w hw => ?_⟩
      obtain ⟨a1, a2, a3, a4⟩ := h8 s w hw
      exact ⟨a1, a2, by show s < nx; omega, a4⟩
theorem ok_counts : ∀ (l : List VoteD) {P : Pro}, P.ok → (l.foldl Pro.count P).ok
  | [], _, h => h
  | v :: l, _, h => ok_counts l (h.count v)
theorem Pro.ok.setWho {P : Pro} (h : P.ok) (i : Nat) : (P.setWho i).ok := h
theorem Pro.ok.setFilled {P : Pro} (h : P.ok) (b : Bool) : (P.setFilled b).ok := h
theorem Pro.ok.setDoes {P : Pro} (h : P.ok) {x : Int} (hx : 0 ≤ x ∧ x ≤ 2) : (P.setDoes x).ok := ⟨h.1, h.2.1, h.2.2.1, h.2.2.2.1, h.2.2.2.2.1, h.2.2.2.2.2.1, hx, h.2.2.2.2.2.2.2⟩
theorem Pro.ok.promise {P : Pro} (h : P.ok) (fr a n : Int) (l : List VoteD) : (P.promise fr a n l).1.ok := by
  unfold Pro.promise
  split
  · exact h
  · split
    · exact ok_counts l (h.setWho _)
    · exact (ok_counts l (h.setWho _)).setDoes ⟨by decide, by decide⟩
theorem Pro.ok.propose {P : Pro} (h : P.ok) (s : ByteArray) : (P.propose s).1.ok := by
  unfold Pro.propose
  split
  · exact h
  · split
    · exact h
    · split
      · exact h
      · obtain ⟨h1, h2, h3, h4, h5, h6, h7, h8⟩ := h
        refine ⟨h1, h2, h3, h4, by show P.fr ≤ P.next + 1; omega, by show P.next + 1 ≤ 1024; omega, h7, fun s w hw => ?_⟩
        obtain ⟨a1, a2, a3, a4⟩ := h8 s w hw
        exact ⟨a1, a2, by show s < P.next + 1; omega, a4⟩
theorem Pro.ok.step {P : Pro} (h : P.ok) (a n : Int) : (P.step a n).1.ok := by
  unfold Pro.step
  split
  · exact h
  · exact Pro.ok.setDoes (P := P.setBal a n) h ⟨by decide, by decide⟩

section
variable (c : Ctx) (hA : HasBalA c) (hB : HasBalB c) (hD : HasBalD c) (hc : HasProp c) (hT : ProT c) {H : IHeap} {K : Value → IHeap → Prop}
include hc

theorem PLead_none {a n fr : Int} (hK : ∀ H', H.le H' → K (.tuple #[vB 0 0, .int .i64 1]) H') : c.C (c.F n_proposer_Proposer_Lead) [.pointer none, vB a n, .int .i64 fr] H K := by
  refine c.enter hc.proposer_Proposer_Lead rfl ?_
  simp -implicitDefEqProofs [J0,J1,J2,J3,J4,J5,J6,J7,J8,J9,Ja,Jb,Jc,Jd,Je,Jf,Jg,Jh,Ji,Jj,Jk,Jl,Jm,Jn,Jo,Jp,Jq,Jr,Js,Jt,Ju,Jv,Jw,Jx,Jy,Jz,JA,JB,JC,JD,JE,JF,JG,JH,JI,JJ,JK,JL,JM,JN,JO,JP,JQ,JR,JS,stillI,IOp.kind,JT,JU,JV,JW,JX,JY,JZ,Y0,Y1,Y2,Y3,Y4,Y5,Y6,Y7,Y8,Y9,Ya,Yb,Yc,Yd,Ye,Yf,Yg,Yh,Yi,Yj,Yk,Yl,Ym,Yn,Yo,Yp,Yq,ial,Yr,Ys,Yt,Yu,Yv,Yw,Yx,Yy,ires,iresL,ires1,Yz,YA,YB,YC,YD,YE,bin2,YF,YG,YH,YI,YJ,YK,YL,YM,YN,YO,YP,YQ,YR,YS,YT,YU,un1,shOk,eqL,eq1,fillL,putAt,IHeap.load1,IHeap.loadL,IHeap.storeL,YV,YW,YX,YY,YZ,B0,B1,B2,B3,B4,B5,B6,B7,B8,B9,Ba,Bb,Bc,Bd,Be,Bf,Bg,Bh,Bi,Bj,Bk,Bl,Bm,Bn,Bo,Bp, c_proposer_Proposer_Lead, vB, nilOf]
  refine hK _ ?_
  exact ((H.le_alloc _).alloc _).set (by omega) _
theorem PPropose_none {s : ByteArray} (hK : ∀ H', H.le H' → K (.tuple #[vV zeroVote, .int .i64 1]) H') : c.C (c.F n_proposer_Proposer_Propose) [.pointer none, .string s] H K := by
  refine c.enter hc.proposer_Proposer_Propose rfl ?_
  simp -implicitDefEqProofs [J0,J1,J2,J3,J4,J5,J6,J7,J8,J9,Ja,Jb,Jc,Jd,Je,Jf,Jg,Jh,Ji,Jj,Jk,Jl,Jm,Jn,Jo,Jp,Jq,Jr,Js,Jt,Ju,Jv,Jw,Jx,Jy,Jz,JA,JB,JC,JD,JE,JF,JG,JH,JI,JJ,JK,JL,JM,JN,JO,JP,JQ,JR,JS,stillI,IOp.kind,JT,JU,JV,JW,JX,JY,JZ,Y0,Y1,Y2,Y3,Y4,Y5,Y6,Y7,Y8,Y9,Ya,Yb,Yc,Yd,Ye,Yf,Yg,Yh,Yi,Yj,Yk,Yl,Ym,Yn,Yo,Yp,Yq,ial,Yr,Ys,Yt,Yu,Yv,Yw,Yx,Yy,ires,iresL,ires1,Yz,YA,YB,YC,YD,YE,bin2,YF,YG,YH,YI,YJ,YK,YL,YM,YN,YO,YP,YQ,YR,YS,YT,YU,un1,shOk,eqL,eq1,fillL,putAt,IHeap.load1,IHeap.loadL,IHeap.storeL,YV,YW,YX,YY,YZ,B0,B1,B2,B3,B4,B5,B6,B7,B8,B9,Ba,Bb,Bc,Bd,Be,Bf,Bg,Bh,Bi,Bj,Bk,Bl,Bm,Bn,Bo,Bp, c_proposer_Proposer_Propose, nilOf]
  refine hK _ ?_
  exact (H.le_alloc _).set (by omega) _
theorem PPromise_none {fr a n : Int} {u : Value} (hK : ∀ H', H.le H' → K (.bool false) H') : c.C (c.F n_proposer_Proposer_Promise) [.pointer none, .int .i64 fr, vB a n, u] H K := by
  refine c.enter hc.proposer_Proposer_Promise rfl ?_
  simp -implicitDefEqProofs [J0,J1,J2,J3,J4,J5,J6,J7,J8,J9,Ja,Jb,Jc,Jd,Je,Jf,Jg,Jh,Ji,Jj,Jk,Jl,Jm,Jn,Jo,Jp,Jq,Jr,Js,Jt,Ju,Jv,Jw,Jx,Jy,Jz,JA,JB,JC,JD,JE,JF,JG,JH,JI,JJ,JK,JL,JM,JN,JO,JP,JQ,JR,JS,stillI,IOp.kind,JT,JU,JV,JW,JX,JY,JZ,Y0,Y1,Y2,Y3,Y4,Y5,Y6,Y7,Y8,Y9,Ya,Yb,Yc,Yd,Ye,Yf,Yg,Yh,Yi,Yj,Yk,Yl,Ym,Yn,Yo,Yp,Yq,ial,Yr,Ys,Yt,Yu,Yv,Yw,Yx,Yy,ires,iresL,ires1,Yz,YA,YB,YC,YD,YE,bin2,YF,YG,YH,YI,YJ,YK,YL,YM,YN,YO,YP,YQ,YR,YS,YT,YU,un1,shOk,eqL,eq1,fillL,putAt,IHeap.load1,IHeap.loadL,IHeap.storeL,YV,YW,YX,YY,YZ,B0,B1,B2,B3,B4,B5,B6,B7,B8,B9,Ba,Bb,Bc,Bd,Be,Bf,Bg,Bh,Bi,Bj,Bk,Bl,Bm,Bn,Bo,Bp, c_proposer_Proposer_Promise, vB, nilOf]
  exact hK _ (H.le_alloc _)
theorem PFill_none (hK : K (.slice none 0 0) H) : c.C (c.F n_proposer_Proposer_Fill) [.pointer none] H K := by
  refine c.enter hc.proposer_Proposer_Fill rfl ?_
  simp -implicitDefEqProofs [J0,J1,J2,J3,J4,J5,J6,J7,J8,J9,Ja,Jb,Jc,Jd,Je,Jf,Jg,Jh,Ji,Jj,Jk,Jl,Jm,Jn,Jo,Jp,Jq,Jr,Js,Jt,Ju,Jv,Jw,Jx,Jy,Jz,JA,JB,JC,JD,JE,JF,JG,JH,JI,JJ,JK,JL,JM,JN,JO,JP,JQ,JR,JS,stillI,IOp.kind,JT,JU,JV,JW,JX,JY,JZ,Y0,Y1,Y2,Y3,Y4,Y5,Y6,Y7,Y8,Y9,Ya,Yb,Yc,Yd,Ye,Yf,Yg,Yh,Yi,Yj,Yk,Yl,Ym,Yn,Yo,Yp,Yq,ial,Yr,Ys,Yt,Yu,Yv,Yw,Yx,Yy,ires,iresL,ires1,Yz,YA,YB,YC,YD,YE,bin2,YF,YG,YH,YI,YJ,YK,YL,YM,YN,YO,YP,YQ,YR,YS,YT,YU,un1,shOk,eqL,eq1,fillL,putAt,IHeap.load1,IHeap.loadL,IHeap.storeL,YV,YW,YX,YY,YZ,B0,B1,B2,B3,B4,B5,B6,B7,B8,B9,Ba,Bb,Bc,Bd,Be,Bf,Bg,Bh,Bi,Bj,Bk,Bl,Bm,Bn,Bo,Bp, c_proposer_Proposer_Fill]
  refine call_of (PLeads_none c hc ?_)
  simp -implicitDefEqProofs [J0,J1,J2,J3,J4,J5,J6,J7,J8,J9,Ja,Jb,Jc,Jd,Je,Jf,Jg,Jh,Ji,Jj,Jk,Jl,Jm,Jn,Jo,Jp,Jq,Jr,Js,Jt,Ju,Jv,Jw,Jx,Jy,Jz,JA,JB,JC,JD,JE,JF,JG,JH,JI,JJ,JK,JL,JM,JN,JO,JP,JQ,JR,JS,stillI,IOp.kind,JT,JU,JV,JW,JX,JY,JZ,Y0,Y1,Y2,Y3,Y4,Y5,Y6,Y7,Y8,Y9,Ya,Yb,Yc,Yd,Ye,Yf,Yg,Yh,Yi,Yj,Yk,Yl,Ym,Yn,Yo,Yp,Yq,ial,Yr,Ys,Yt,Yu,Yv,Yw,Yx,Yy,ires,iresL,ires1,Yz,YA,YB,YC,YD,YE,bin2,YF,YG,YH,YI,YJ,YK,YL,YM,YN,YO,YP,YQ,YR,YS,YT,YU,un1,shOk,eqL,eq1,fillL,putAt,IHeap.load1,IHeap.loadL,IHeap.storeL,YV,YW,YX,YY,YZ,B0,B1,B2,B3,B4,B5,B6,B7,B8,B9,Ba,Bb,Bc,Bd,Be,Bf,Bg,Bh,Bi,Bj,Bk,Bl,Bm,Bn,Bo,Bp]
  exact hK
theorem PStep_none {a n : Int} (hK : ∀ H', H.le H' → K (.bool false) H') : c.C (c.F n_proposer_Proposer_Step) [.pointer none, vB a n] H K := by
  refine c.enter hc.proposer_Proposer_Step rfl ?_
  simp -implicitDefEqProofs [J0,J1,J2,J3,J4,J5,J6,J7,J8,J9,Ja,Jb,Jc,Jd,Je,Jf,Jg,Jh,Ji,Jj,Jk,Jl,Jm,Jn,Jo,Jp,Jq,Jr,Js,Jt,Ju,Jv,Jw,Jx,Jy,Jz,JA,JB,JC,JD,JE,JF,JG,JH,JI,JJ,JK,JL,JM,JN,JO,JP,JQ,JR,JS,stillI,IOp.kind,JT,JU,JV,JW,JX,JY,JZ,Y0,Y1,Y2,Y3,Y4,Y5,Y6,Y7,Y8,Y9,Ya,Yb,Yc,Yd,Ye,Yf,Yg,Yh,Yi,Yj,Yk,Yl,Ym,Yn,Yo,Yp,Yq,ial,Yr,Ys,Yt,Yu,Yv,Yw,Yx,Yy,ires,iresL,ires1,Yz,YA,YB,YC,YD,YE,bin2,YF,YG,YH,YI,YJ,YK,YL,YM,YN,YO,YP,YQ,YR,YS,YT,YU,un1,shOk,eqL,eq1,fillL,putAt,IHeap.load1,IHeap.loadL,IHeap.storeL,YV,YW,YX,YY,YZ,B0,B1,B2,B3,B4,B5,B6,B7,B8,B9,Ba,Bb,Bc,Bd,Be,Bf,Bg,Bh,Bi,Bj,Bk,Bl,Bm,Bn,Bo,Bp, c_proposer_Proposer_Step, vB, nilOf]
  exact hK _ (H.le_alloc _)
theorem PNext_none (hK : K (.int .i64 0) H) : c.C (c.F n_proposer_Proposer_Next) [.pointer none] H K := by
  refine c.enter hc.proposer_Proposer_Next rfl ?_
  simp -implicitDefEqProofs [J0,J1,J2,J3,J4,J5,J6,J7,J8,J9,Ja,Jb,Jc,Jd,Je,Jf,Jg,Jh,Ji,Jj,Jk,Jl,Jm,Jn,Jo,Jp,Jq,Jr,Js,Jt,Ju,Jv,Jw,Jx,Jy,Jz,JA,JB,JC,JD,JE,JF,JG,JH,JI,JJ,JK,JL,JM,JN,JO,JP,JQ,JR,JS,stillI,IOp.kind,JT,JU,JV,JW,JX,JY,JZ,Y0,Y1,Y2,Y3,Y4,Y5,Y6,Y7,Y8,Y9,Ya,Yb,Yc,Yd,Ye,Yf,Yg,Yh,Yi,Yj,Yk,Yl,Ym,Yn,Yo,Yp,Yq,ial,Yr,Ys,Yt,Yu,Yv,Yw,Yx,Yy,ires,iresL,ires1,Yz,YA,YB,YC,YD,YE,bin2,YF,YG,YH,YI,YJ,YK,YL,YM,YN,YO,YP,YQ,YR,YS,YT,YU,un1,shOk,eqL,eq1,fillL,putAt,IHeap.load1,IHeap.loadL,IHeap.storeL,YV,YW,YX,YY,YZ,B0,B1,B2,B3,B4,B5,B6,B7,B8,B9,Ba,Bb,Bc,Bd,Be,Bf,Bg,Bh,Bi,Bj,Bk,Bl,Bm,Bn,Bo,Bp, c_proposer_Proposer_Next, nilOf]
  exact hK
end
end Go.Proofs.YtafnkmiggmfbdaaI
