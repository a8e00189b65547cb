/- Who proposes: promises. -/
import Derived.Test.YtafnkmiggmfbdaaProD
namespace Go.Proofs.YtafnkmiggmfbdaaI
set_option linter.unusedSimpArgs false
set_option linter.unusedVariables false
open Go

theorem count_keep (P : Pro) (v : VoteD) : (P.count v).n = P.n ∧ (P.count v).me = P.me ∧ (P.count v).does = P.does ∧ (P.count v).fr = P.fr ∧ (P.count v).who = P.who ∧ (P.count v).ba = P.ba ∧ (P.count v).bn = P.bn ∧ (P.count v).filled = P.filled := by
  unfold Pro.count
  split
  · split <;> exact ⟨rfl, rfl, rfl, rfl, rfl, rfl, rfl, rfl⟩
  · exact ⟨rfl, rfl, rfl, rfl, rfl, rfl, rfl, rfl⟩
theorem counts_keep : ∀ (l : List VoteD) (P : Pro), (l.foldl Pro.count P).n = P.n ∧ (l.foldl Pro.count P).me = P.me ∧ (l.foldl Pro.count P).does = P.does ∧ (l.foldl Pro.count P).fr = P.fr ∧ (l.foldl Pro.count P).who = P.who ∧ (l.foldl Pro.count P).ba = P.ba ∧ (l.foldl Pro.count P).bn = P.bn ∧ (l.foldl Pro.count P).filled = P.filled
  | [], P => ⟨rfl, rfl, rfl, rfl, rfl, rfl, rfl, rfl⟩
  | v :: l, P => by
    obtain ⟨h1, h2, h3, h4, h5, h6, h7, h8⟩ := counts_keep l (P.count v)
    obtain ⟨k1, k2, k3, k4, k5, k6, k7, k8⟩ := count_keep P v
    exact ⟨h1.trans k1, h2.trans k2, h3.trans k3, h4.trans k4, h5.trans k5, h6.trans k6, h7.trans k7, h8.trans k8⟩
theorem cntW_le (w : Nat → Bool) : ∀ k, cntW w k ≤ k
  | 0 => Nat.le_refl _
  | k + 1 => by have := cntW_le w k; simp only [cntW]; split <;> omega

section
variable (c : Ctx) (hA : HasBalA c) (hB : HasBalB c) (hD : HasBalD c) (hc : HasProp c) (hT : ProT c) {H : IHeap} {K : Value → IHeap → Prop} {B : Nat → Prop} {p : Nat} {P : Pro}

include hA hB hc hT in
theorem PPromise_ok {fr a n : Int} {u : Value} {l : List VoteD} {D : Nat → Prop} (h : IsP B H p P) (hfr : 0 ≤ P.fr) (hn7 : P.n ≤ 7) (hu : SlD D H 4 u (l.map rowV)) (hDB : ∀ b, D b → ¬ B b) (hl : l.length ≤ 1000000)
    (hK : ∀ H', Fr B H H' → IsP B H' p (P.promise fr a n l).1 → K (.bool (P.promise fr a n l).2) H') :
    c.C (c.F n_proposer_Proposer_Promise) [.pointer (some ⟨p, 0, none⟩), .int .i64 fr, vB a n, u] H K := by
  refine c.enter hc.proposer_Proposer_Promise rfl ?_
  obtain ⟨mv, g, hrep⟩ := h.rep
  have hp := h.lt p h.own
  have e1 : ¬ p = H.next := by omega
  obtain ⟨H0, hH0⟩ : ∃ X : IHeap, X = H.alloc (.cells [.int .i64 a, .int .i64 n] false) := ⟨_, rfl⟩
  have k0 : H.le H0 := by rw [hH0]; exact H.le_alloc _
  have n0 : H0.next = H.next + 1 := by rw [hH0]; rfl
  have b0 : H0.get H.next = some (.cells [.int .i64 a, .int .i64 n] false) := by rw [hH0, YV, if_pos rfl]
  have g0 := (k0.get p hp).trans g
  have bad : (P.does ≠ 1 ∨ fr < 0 ∨ P.n ≤ fr ∨ ¬ (a = P.ba ∧ n = P.bn) ∨ P.who fr.toNat = true) → K (.bool false) H0 := by
    intro hb
    have : P.promise fr a n l = (P, false) := by unfold Pro.promise; rw [if_pos hb]
    rw [this] at hK
    exact hK H0 (k0.fr B) (h.le k0)
  by_cases h1 : P.does = 1
  · by_cases h2 : fr < 0
    · simp -implicitDefEqProofs [J0,J1,J2,J3,J4,J5,J6,J7,J8,J9,Ja,Jb,Jc,Jd,Je,Jf,Jg,Jh,Ji,Jj,Jk,Jl,Jm,Jn,Jo,Jp,Jq,Jr,Js,Jt,Ju,Jv,Jw,Jx,Jy,Jz,JA,JB,JC,JD,JE,JF,JG,JH,JI,JJ,JK,JL,JM,JN,JO,JP,JQ,JR,JS,stillI,IOp.kind,JT,JU,JV,JW,JX,JY,JZ,Y0,Y1,Y2,Y3,Y4,Y5,Y6,Y7,Y8,Y9,Ya,Yb,Yc,Yd,Ye,Yf,Yg,Yh,Yi,Yj,Yk,Yl,Ym,Yn,Yo,Yp,Yq,ial,Yr,Ys,Yt,Yu,Yv,Yw,Yx,Yy,ires,iresL,ires1,Yz,YA,YB,YC,YD,YE,bin2,YF,YG,YH,YI,YJ,YK,YL,YM,YN,YO,YP,YQ,YR,YS,YT,YU,un1,shOk,eqL,eq1,fillL,putAt,IHeap.load1,IHeap.loadL,IHeap.storeL,YV,YW,YX,YY,YZ,B0,B1,B2,B3,B4,B5,B6,B7,B8,B9,Ba,Bb,Bc,Bd,Be,Bf,Bg,Bh,Bi,Bj,Bk,Bl,Bm,Bn,Bo,Bp, c_proposer_Proposer_Promise, vB, nilOf, ← hH0, g0, cP0, cP1, cP2, cP4, cP5, cP6, cP7, cP15, cQ0, cQ1, cQ4, cQ5, cQ6, cQ7, cQ15, cPlen, tP2, tP4, tP6, tP7, h1, h2]
      exact bad (.inr (.inl h2))
    · by_cases h3 : P.n ≤ fr
      · simp -implicitDefEqProofs [J0,J1,J2,J3,J4,J5,J6,J7,J8,J9,Ja,Jb,Jc,Jd,Je,Jf,Jg,Jh,Ji,Jj,Jk,Jl,Jm,Jn,Jo,Jp,Jq,Jr,Js,Jt,Ju,Jv,Jw,Jx,Jy,Jz,JA,JB,JC,JD,JE,JF,JG,JH,JI,JJ,JK,JL,JM,JN,JO,JP,JQ,JR,JS,stillI,IOp.kind,JT,JU,JV,JW,JX,JY,JZ,Y0,Y1,Y2,Y3,Y4,Y5,Y6,Y7,Y8,Y9,Ya,Yb,Yc,Yd,Ye,Yf,Yg,Yh,Yi,Yj,Yk,Yl,Ym,Yn,Yo,Yp,Yq,ial,Yr,Ys,Yt,Yu,Yv,Yw,Yx,Yy,ires,iresL,ires1,Yz,YA,YB,YC,YD,YE,bin2,YF,YG,YH,YI,YJ,YK,YL,YM,YN,YO,YP,YQ,YR,YS,YT,YU,un1,shOk,eqL,eq1,fillL,putAt,IHeap.load1,IHeap.loadL,IHeap.storeL,YV,YW,YX,YY,YZ,B0,B1,B2,B3,B4,B5,B6,B7,B8,B9,Ba,Bb,Bc,Bd,Be,Bf,Bg,Bh,Bi,Bj,Bk,Bl,Bm,Bn,Bo,Bp, c_proposer_Proposer_Promise, vB, nilOf, ← hH0, g0, cP0, cP1, cP2, cP4, cP5, cP6, cP7, cP15, cQ0, cQ1, cQ4, cQ5, cQ6, cQ7, cQ15, cPlen, tP2, tP4, tP6, tP7, h1, h2, h3]
        exact bad (.inr (.inr (.inl h3)))
      · by_cases h4 : a = P.ba ∧ n = P.bn
        · obtain ⟨rfl, rfl⟩ := h4
          have h2' : 0 ≤ fr := by omega
          obtain ⟨i, rfl⟩ : ∃ i : Nat, fr = i := ⟨fr.toNat, by omega⟩
          have hi7 : i < 7 := by omega
          have hi7' : (i : Int) < 7 := by omega
          have q1 := who_at P mv i hi7
          have hi16 : 8 + i < 16 := by omega
          by_cases h5 : P.who i = true
          · rw [h5] at q1
            have q1' : ∀ hh, (cellsP P mv)[8 + i]'hh = .bool true := fun hh => by rw [List.getElem?_eq_getElem hh] at q1; exact Option.some.inj q1
            simp -implicitDefEqProofs [J0,J1,J2,J3,J4,J5,J6,J7,J8,J9,Ja,Jb,Jc,Jd,Je,Jf,Jg,Jh,Ji,Jj,Jk,Jl,Jm,Jn,Jo,Jp,Jq,Jr,Js,Jt,Ju,Jv,Jw,Jx,Jy,Jz,JA,JB,JC,JD,JE,JF,JG,JH,JI,JJ,JK,JL,JM,JN,JO,JP,JQ,JR,JS,stillI,IOp.kind,JT,JU,JV,JW,JX,JY,JZ,Y0,Y1,Y2,Y3,Y4,Y5,Y6,Y7,Y8,Y9,Ya,Yb,Yc,Yd,Ye,Yf,Yg,Yh,Yi,Yj,Yk,Yl,Ym,Yn,Yo,Yp,Yq,ial,Yr,Ys,Yt,Yu,Yv,Yw,Yx,Yy,ires,iresL,ires1,Yz,YA,YB,YC,YD,YE,bin2,YF,YG,YH,YI,YJ,YK,YL,YM,YN,YO,YP,YQ,YR,YS,YT,YU,un1,shOk,eqL,eq1,fillL,putAt,IHeap.load1,IHeap.loadL,IHeap.storeL,YV,YW,YX,YY,YZ,B0,B1,B2,B3,B4,B5,B6,B7,B8,B9,Ba,Bb,Bc,Bd,Be,Bf,Bg,Bh,Bi,Bj,Bk,Bl,Bm,Bn,Bo,Bp, c_proposer_Proposer_Promise, vB, nilOf, ← hH0, g0, b0, cP0, cP1, cP2, cP4, cP5, cP6, cP7, cP15, cQ0, cQ1, cQ4, cQ5, cQ6, cQ7, cQ15, cPlen, tP2, tP4, tP6, tP7, h1, h2, h3, q1, q1', hi7, hi7', hi16, h2']
            exact bad (.inr (.inr (.inr (.inr (by simpa using h5)))))
          · have h5f : P.who i = false := by simpa using h5
            rw [h5f] at q1
            have q1' : ∀ hh, (cellsP P mv)[8 + i]'hh = .bool false := fun hh => by rw [List.getElem?_eq_getElem hh] at q1; exact Option.some.inj q1
            have hi15 : 8 + i ≤ 15 := by omega
            have tW : List.take (8 + i) (cellsP P mv) ++ .bool true :: List.drop (8 + i + 1) (cellsP P mv) = cellsP (P.setWho i) mv := by
              have := who_put P mv i hi7
              simpa [putAt] using this
            obtain ⟨PW, hPW⟩ : ∃ PW, PW = P.setWho i := ⟨_, rfl⟩
            obtain ⟨H1, hH1⟩ : ∃ X : IHeap, X = H0.set p (.cells (cellsP PW mv) false) := ⟨_, rfl⟩
            have f1 : Fr B H H1 := by rw [hH1]; exact (k0.fr B).set (.inl h.own) _
            have i1 : IsP B H1 p PW := h.put f1.next (fun mv' g' => by
              have : mv' = mv := by simpa [g', cellsP] using g
              subst this
              rw [hH1, YW, if_pos rfl]) (fun b hb hne => by rw [hH1, YW, if_neg hne]; exact k0.get b hb) (by rw [hPW]; rfl) (.inl (by rw [hPW]; rfl))
            rw [← hPW] at tW
            have hpr : P.promise i P.ba P.bn l = if (cntW PW.who 7 : Int) < quorumI P.n then (l.foldl Pro.count PW, false) else ((l.foldl Pro.count PW).setDoes 2, true) := by
              unfold Pro.promise
              rw [if_neg (by simp [h1, h3, h5f]), hPW]
              rfl
            rw [hpr] at hK
            have dW : PW.does ≠ 0 := by rw [hPW]; show P.does ≠ 0; omega
            have fW : 0 ≤ PW.fr := by rw [hPW]; exact hfr
            obtain ⟨ua, ucap, rfl, _⟩ := id hu.sl
            rw [List.length_map] at hu ⊢
            simp -implicitDefEqProofs [J0,J1,J2,J3,J4,J5,J6,J7,J8,J9,Ja,Jb,Jc,Jd,Je,Jf,Jg,Jh,Ji,Jj,Jk,Jl,Jm,Jn,Jo,Jp,Jq,Jr,Js,Jt,Ju,Jv,Jw,Jx,Jy,Jz,JA,JB,JC,JD,JE,JF,JG,JH,JI,JJ,JK,JL,JM,JN,JO,JP,JQ,JR,JS,stillI,IOp.kind,JT,JU,JV,JW,JX,JY,JZ,Y0,Y1,Y2,Y3,Y4,Y5,Y6,Y7,Y8,Y9,Ya,Yb,Yc,Yd,Ye,Yf,Yg,Yh,Yi,Yj,Yk,Yl,Ym,Yn,Yo,Yp,Yq,ial,Yr,Ys,Yt,Yu,Yv,Yw,Yx,Yy,ires,iresL,ires1,Yz,YA,YB,YC,YD,YE,bin2,YF,YG,YH,YI,YJ,YK,YL,YM,YN,YO,YP,YQ,YR,YS,YT,YU,un1,shOk,eqL,eq1,fillL,putAt,IHeap.load1,IHeap.loadL,IHeap.storeL,YV,YW,YX,YY,YZ,B0,B1,B2,B3,B4,B5,B6,B7,B8,B9,Ba,Bb,Bc,Bd,Be,Bf,Bg,Bh,Bi,Bj,Bk,Bl,Bm,Bn,Bo,Bp, c_proposer_Proposer_Promise, vB, nilOf, ← hH0, g0, b0, cP0, cP1, cP2, cP4, cP5, cP6, cP7, cP15, cQ0, cQ1, cQ4, cQ5, cQ6, cQ7, cQ15, cPlen, tP2, tP4, tP6, tP7, h1, h2, h3, q1, q1', hi7, hi7', hi16, h2', hi15, tW, ← hH1]
            refine loop_nat c.mono (fun k T H' => ∃ j : Nat, j ≤ l.length ∧ k = l.length - j ∧ T 0 = .pointer (some ⟨p, 0, none⟩) ∧ T 56 = .slice ua l.length ucap ∧ T 57 = .int .i64 l.length ∧ T 58 = .int .i64 j ∧ Fr B H H' ∧ IsP B H' p ((l.take j).foldl Pro.count PW)) l.length ?_ ?_
            · refine ⟨0, by omega, rfl, ?_⟩
              simp -implicitDefEqProofs [J0,J1,J2,J3,J4,J5,J6,J7,J8,J9,Ja,Jb,Jc,Jd,Je,Jf,Jg,Jh,Ji,Jj,Jk,Jl,Jm,Jn,Jo,Jp,Jq,Jr,Js,Jt,Ju,Jv,Jw,Jx,Jy,Jz,JA,JB,JC,JD,JE,JF,JG,JH,JI,JJ,JK,JL,JM,JN,JO,JP,JQ,JR,JS,stillI,IOp.kind,JT,JU,JV,JW,JX,JY,JZ,Y0,Y1,Y2,Y3,Y4,Y5,Y6,Y7,Y8,Y9,Ya,Yb,Yc,Yd,Ye,Yf,Yg,Yh,Yi,Yj,Yk,Yl,Ym,Yn,Yo,Yp,Yq,ial,Yr,Ys,Yt,Yu,Yv,Yw,Yx,Yy,ires,iresL,ires1,Yz,YA,YB,YC,YD,YE,bin2,YF,YG,YH,YI,YJ,YK,YL,YM,YN,YO,YP,YQ,YR,YS,YT,YU,un1,shOk,eqL,eq1,fillL,putAt,IHeap.load1,IHeap.loadL,IHeap.storeL,YV,YW,YX,YY,YZ,B0,B1,B2,B3,B4,B5,B6,B7,B8,B9,Ba,Bb,Bc,Bd,Be,Bf,Bg,Bh,Bi,Bj,Bk,Bl,Bm,Bn,Bo,Bp]
              exact ⟨f1, i1⟩
            · rintro k T H' ⟨j, hj, rfl, t0, t56, t57, t58, fH, iH⟩
              by_cases hjl : j < l.length
              · have hjl' : (j : Int) < (l.length : Int) := by omega
                have hx : l[j]? = some l[j] := List.getElem?_eq_getElem hjl
                obtain ⟨v, hv⟩ : ∃ v, v = l[j] := ⟨_, rfl⟩
                rw [← hv] at hx
                have hu' := hu.fr fH hDB
                obtain ⟨b, o, cp, cs, ro, ea, hb, hget, hrl, hrow, hbd⟩ := hu'.sl.at (i := j) (r := rowV v) (by simp [hx])
                rw [List.length_map] at ea
                simp only [Value.slice.injEq] at ea
                obtain ⟨rfl, -, rfl⟩ := ea
                simp only [rowV] at hrow
                have wj : IntKind.i64.wrap ((j : Int) + 1) = (j : Int) + 1 := wrap64 (by omega) (by omega)
                obtain ⟨H2, hH2⟩ : ∃ X : IHeap, X = (H'.alloc (.cells [.int .i64 0, .int .i64 0, .int .i64 0, .string ⟨#[]⟩] false)).set H'.next (.cells [.int .i64 v.slot, .int .i64 v.a, .int .i64 v.n, .string v.val] false) := ⟨_, rfl⟩
                have k2 : H'.le H2 := by rw [hH2]; exact (H'.le_alloc _).set (Nat.le_refl _) _
                have b2 : H2.get H'.next = some (.cells [.int .i64 v.slot, .int .i64 v.a, .int .i64 v.n, .string v.val] false) := by rw [hH2, YW, if_pos rfl]
                simp -implicitDefEqProofs [J0,J1,J2,J3,J4,J5,J6,J7,J8,J9,Ja,Jb,Jc,Jd,Je,Jf,Jg,Jh,Ji,Jj,Jk,Jl,Jm,Jn,Jo,Jp,Jq,Jr,Js,Jt,Ju,Jv,Jw,Jx,Jy,Jz,JA,JB,JC,JD,JE,JF,JG,JH,JI,JJ,JK,JL,JM,JN,JO,JP,JQ,JR,JS,stillI,IOp.kind,JT,JU,JV,JW,JX,JY,JZ,Y0,Y1,Y2,Y3,Y4,Y5,Y6,Y7,Y8,Y9,Ya,Yb,Yc,Yd,Ye,Yf,Yg,Yh,Yi,Yj,Yk,Yl,Ym,Yn,Yo,Yp,Yq,ial,Yr,Ys,Yt,Yu,Yv,Yw,Yx,Yy,ires,iresL,ires1,Yz,YA,YB,YC,YD,YE,bin2,YF,YG,YH,YI,YJ,YK,YL,YM,YN,YO,YP,YQ,YR,YS,YT,YU,un1,shOk,eqL,eq1,fillL,putAt,IHeap.load1,IHeap.loadL,IHeap.storeL,YV,YW,YX,YY,YZ,B0,B1,B2,B3,B4,B5,B6,B7,B8,B9,Ba,Bb,Bc,Bd,Be,Bf,Bg,Bh,Bi,Bj,Bk,Bl,Bm,Bn,Bo,Bp, t0, t56, t57, t58, hjl, hjl', hget, hrow, hbd, ← hH2, b2]
                have hkp := counts_keep (l.take j) PW
                refine call_of (Pcount_ok c hA hc hT (v := v) (iH.le k2) (by rw [hkp.2.2.1]; exact dW) (by rw [hkp.2.2.2.1]; exact fW) fun H3 f3 i3 => ?_)
                simp -implicitDefEqProofs [J0,J1,J2,J3,J4,J5,J6,J7,J8,J9,Ja,Jb,Jc,Jd,Je,Jf,Jg,Jh,Ji,Jj,Jk,Jl,Jm,Jn,Jo,Jp,Jq,Jr,Js,Jt,Ju,Jv,Jw,Jx,Jy,Jz,JA,JB,JC,JD,JE,JF,JG,JH,JI,JJ,JK,JL,JM,JN,JO,JP,JQ,JR,JS,stillI,IOp.kind,JT,JU,JV,JW,JX,JY,JZ,Y0,Y1,Y2,Y3,Y4,Y5,Y6,Y7,Y8,Y9,Ya,Yb,Yc,Yd,Ye,Yf,Yg,Yh,Yi,Yj,Yk,Yl,Ym,Yn,Yo,Yp,Yq,ial,Yr,Ys,Yt,Yu,Yv,Yw,Yx,Yy,ires,iresL,ires1,Yz,YA,YB,YC,YD,YE,bin2,YF,YG,YH,YI,YJ,YK,YL,YM,YN,YO,YP,YQ,YR,YS,YT,YU,un1,shOk,eqL,eq1,fillL,putAt,IHeap.load1,IHeap.loadL,IHeap.storeL,YV,YW,YX,YY,YZ,B0,B1,B2,B3,B4,B5,B6,B7,B8,B9,Ba,Bb,Bc,Bd,Be,Bf,Bg,Bh,Bi,Bj,Bk,Bl,Bm,Bn,Bo,Bp, t0, t56, t57, t58, wj]
                refine ⟨l.length - (j + 1), by omega, j + 1, by omega, rfl, rfl, fH.trans (k2.trans_fr f3) (fun b hb => .inl hb), ?_⟩
                rw [List.take_add_one, hx, List.foldl_append]
                exact i3
              · have hjl' : ¬ (j : Int) < (l.length : Int) := by omega
                have hje : j = l.length := by omega
                subst hje
                rw [List.take_length] at iH
                have hkp := counts_keep l PW
                obtain ⟨PF, hPF⟩ : ∃ PF, PF = l.foldl Pro.count PW := ⟨_, rfl⟩
                rw [← hPF] at iH hK hkp
                obtain ⟨mv2, g2, hrep2⟩ := iH.rep
                have s7 : List.take 7 (List.drop 8 (cellsP PF mv2)) = who7 PF.who := rfl
                simp -implicitDefEqProofs [J0,J1,J2,J3,J4,J5,J6,J7,J8,J9,Ja,Jb,Jc,Jd,Je,Jf,Jg,Jh,Ji,Jj,Jk,Jl,Jm,Jn,Jo,Jp,Jq,Jr,Js,Jt,Ju,Jv,Jw,Jx,Jy,Jz,JA,JB,JC,JD,JE,JF,JG,JH,JI,JJ,JK,JL,JM,JN,JO,JP,JQ,JR,JS,stillI,IOp.kind,JT,JU,JV,JW,JX,JY,JZ,Y0,Y1,Y2,Y3,Y4,Y5,Y6,Y7,Y8,Y9,Ya,Yb,Yc,Yd,Ye,Yf,Yg,Yh,Yi,Yj,Yk,Yl,Ym,Yn,Yo,Yp,Yq,ial,Yr,Ys,Yt,Yu,Yv,Yw,Yx,Yy,ires,iresL,ires1,Yz,YA,YB,YC,YD,YE,bin2,YF,YG,YH,YI,YJ,YK,YL,YM,YN,YO,YP,YQ,YR,YS,YT,YU,un1,shOk,eqL,eq1,fillL,putAt,IHeap.load1,IHeap.loadL,IHeap.storeL,YV,YW,YX,YY,YZ,B0,B1,B2,B3,B4,B5,B6,B7,B8,B9,Ba,Bb,Bc,Bd,Be,Bf,Bg,Bh,Bi,Bj,Bk,Bl,Bm,Bn,Bo,Bp, t0, t56, t57, t58, hjl, hjl', g2, cP0, cP1, cP2, cP4, cP5, cP6, cP7, cP15, cQ0, cQ1, cQ4, cQ5, cQ6, cQ7, cQ15, cPlen, tP2, tP4, tP6, tP7, s7]
                refine loop_nat c.mono (fun k T H2 => ∃ j : Nat, j ≤ 7 ∧ k = 7 - j ∧ T 0 = .pointer (some ⟨p, 0, none⟩) ∧ T 69 = .agg (who7 PF.who).toArray ∧ T 70 = .int .i64 j ∧ T 11 = .int .i64 (cntW PW.who j : Nat) ∧ H2 = H') 7 ?_ ?_
                · refine ⟨0, by omega, rfl, ?_⟩
                  simp -implicitDefEqProofs [J0,J1,J2,J3,J4,J5,J6,J7,J8,J9,Ja,Jb,Jc,Jd,Je,Jf,Jg,Jh,Ji,Jj,Jk,Jl,Jm,Jn,Jo,Jp,Jq,Jr,Js,Jt,Ju,Jv,Jw,Jx,Jy,Jz,JA,JB,JC,JD,JE,JF,JG,JH,JI,JJ,JK,JL,JM,JN,JO,JP,JQ,JR,JS,stillI,IOp.kind,JT,JU,JV,JW,JX,JY,JZ,Y0,Y1,Y2,Y3,Y4,Y5,Y6,Y7,Y8,Y9,Ya,Yb,Yc,Yd,Ye,Yf,Yg,Yh,Yi,Yj,Yk,Yl,Ym,Yn,Yo,Yp,Yq,ial,Yr,Ys,Yt,Yu,Yv,Yw,Yx,Yy,ires,iresL,ires1,Yz,YA,YB,YC,YD,YE,bin2,YF,YG,YH,YI,YJ,YK,YL,YM,YN,YO,YP,YQ,YR,YS,YT,YU,un1,shOk,eqL,eq1,fillL,putAt,IHeap.load1,IHeap.loadL,IHeap.storeL,YV,YW,YX,YY,YZ,B0,B1,B2,B3,B4,B5,B6,B7,B8,B9,Ba,Bb,Bc,Bd,Be,Bf,Bg,Bh,Bi,Bj,Bk,Bl,Bm,Bn,Bo,Bp, t0]
                  rfl
                · rintro k T2 H2 ⟨j, hj, rfl, t0, t69, t70, t11, rfl⟩
                  have hcle := cntW_le PW.who j
                  have wj : IntKind.i64.wrap ((j : Int) + 1) = (j : Int) + 1 := wrap64 (by omega) (by omega)
                  have wc : IntKind.i64.wrap ((cntW PW.who j : Int) + 1) = (cntW PW.who j : Int) + 1 := wrap64 (by omega) (by omega)
                  by_cases hj7 : j < 7
                  · have hj7' : (j : Int) < 7 := by omega
                    have hg := who_get PF.who j hj7
                    cases hw : PF.who j with
                    | true =>
                      rw [hw] at hg
                      simp -implicitDefEqProofs [J0,J1,J2,J3,J4,J5,J6,J7,J8,J9,Ja,Jb,Jc,Jd,Je,Jf,Jg,Jh,Ji,Jj,Jk,Jl,Jm,Jn,Jo,Jp,Jq,Jr,Js,Jt,Ju,Jv,Jw,Jx,Jy,Jz,JA,JB,JC,JD,JE,JF,JG,JH,JI,JJ,JK,JL,JM,JN,JO,JP,JQ,JR,JS,stillI,IOp.kind,JT,JU,JV,JW,JX,JY,JZ,Y0,Y1,Y2,Y3,Y4,Y5,Y6,Y7,Y8,Y9,Ya,Yb,Yc,Yd,Ye,Yf,Yg,Yh,Yi,Yj,Yk,Yl,Ym,Yn,Yo,Yp,Yq,ial,Yr,Ys,Yt,Yu,Yv,Yw,Yx,Yy,ires,iresL,ires1,Yz,YA,YB,YC,YD,YE,bin2,YF,YG,YH,YI,YJ,YK,YL,YM,YN,YO,YP,YQ,YR,YS,YT,YU,un1,shOk,eqL,eq1,fillL,putAt,IHeap.load1,IHeap.loadL,IHeap.storeL,YV,YW,YX,YY,YZ,B0,B1,B2,B3,B4,B5,B6,B7,B8,B9,Ba,Bb,Bc,Bd,Be,Bf,Bg,Bh,Bi,Bj,Bk,Bl,Bm,Bn,Bo,Bp, t0, t69, t70, t11, hj7, hj7', hg, wj, wc]
                      refine ⟨7 - (j + 1), by omega, j + 1, by omega, rfl, rfl, ?_⟩
                      simp only [cntW, ← hkp.2.2.2.2.1, hw]
                      rfl
                    | false =>
                      rw [hw] at hg
                      simp -implicitDefEqProofs [J0,J1,J2,J3,J4,J5,J6,J7,J8,J9,Ja,Jb,Jc,Jd,Je,Jf,Jg,Jh,Ji,Jj,Jk,Jl,Jm,Jn,Jo,Jp,Jq,Jr,Js,Jt,Ju,Jv,Jw,Jx,Jy,Jz,JA,JB,JC,JD,JE,JF,JG,JH,JI,JJ,JK,JL,JM,JN,JO,JP,JQ,JR,JS,stillI,IOp.kind,JT,JU,JV,JW,JX,JY,JZ,Y0,Y1,Y2,Y3,Y4,Y5,Y6,Y7,Y8,Y9,Ya,Yb,Yc,Yd,Ye,Yf,Yg,Yh,Yi,Yj,Yk,Yl,Ym,Yn,Yo,Yp,Yq,ial,Yr,Ys,Yt,Yu,Yv,Yw,Yx,Yy,ires,iresL,ires1,Yz,YA,YB,YC,YD,YE,bin2,YF,YG,YH,YI,YJ,YK,YL,YM,YN,YO,YP,YQ,YR,YS,YT,YU,un1,shOk,eqL,eq1,fillL,putAt,IHeap.load1,IHeap.loadL,IHeap.storeL,YV,YW,YX,YY,YZ,B0,B1,B2,B3,B4,B5,B6,B7,B8,B9,Ba,Bb,Bc,Bd,Be,Bf,Bg,Bh,Bi,Bj,Bk,Bl,Bm,Bn,Bo,Bp, t0, t69, t70, t11, hj7, hj7', hg, wj]
                      refine ⟨7 - (j + 1), by omega, j + 1, by omega, rfl, rfl, ?_⟩
                      simp only [cntW, ← hkp.2.2.2.2.1, hw]
                      rfl
                  · have hj7' : ¬ (j : Int) < 7 := by omega
                    have hje : j = 7 := by omega
                    subst hje
                    simp -implicitDefEqProofs [J0,J1,J2,J3,J4,J5,J6,J7,J8,J9,Ja,Jb,Jc,Jd,Je,Jf,Jg,Jh,Ji,Jj,Jk,Jl,Jm,Jn,Jo,Jp,Jq,Jr,Js,Jt,Ju,Jv,Jw,Jx,Jy,Jz,JA,JB,JC,JD,JE,JF,JG,JH,JI,JJ,JK,JL,JM,JN,JO,JP,JQ,JR,JS,stillI,IOp.kind,JT,JU,JV,JW,JX,JY,JZ,Y0,Y1,Y2,Y3,Y4,Y5,Y6,Y7,Y8,Y9,Ya,Yb,Yc,Yd,Ye,Yf,Yg,Yh,Yi,Yj,Yk,Yl,Ym,Yn,Yo,Yp,Yq,ial,Yr,Ys,Yt,Yu,Yv,Yw,Yx,Yy,ires,iresL,ires1,Yz,YA,YB,YC,YD,YE,bin2,YF,YG,YH,YI,YJ,YK,YL,YM,YN,YO,YP,YQ,YR,YS,YT,YU,un1,shOk,eqL,eq1,fillL,putAt,IHeap.load1,IHeap.loadL,IHeap.storeL,YV,YW,YX,YY,YZ,B0,B1,B2,B3,B4,B5,B6,B7,B8,B9,Ba,Bb,Bc,Bd,Be,Bf,Bg,Bh,Bi,Bj,Bk,Bl,Bm,Bn,Bo,Bp, t0, t69, t70, t11, g2, cP0, cP1, cP2, cP4, cP5, cP6, cP7, cP15, cQ0, cQ1, cQ4, cQ5, cQ6, cQ7, cQ15, cPlen, tP2, tP4, tP6, tP7]
                    refine call_of (Quorum_ok c hB ?_)
                    have hnn : PF.n = P.n := by rw [hkp.1, hPW]; rfl
                    rw [hnn]
                    by_cases hq : (cntW PW.who 7 : Int) < quorumI P.n
                    · rw [if_pos hq] at hK
                      simp -implicitDefEqProofs [J0,J1,J2,J3,J4,J5,J6,J7,J8,J9,Ja,Jb,Jc,Jd,Je,Jf,Jg,Jh,Ji,Jj,Jk,Jl,Jm,Jn,Jo,Jp,Jq,Jr,Js,Jt,Ju,Jv,Jw,Jx,Jy,Jz,JA,JB,JC,JD,JE,JF,JG,JH,JI,JJ,JK,JL,JM,JN,JO,JP,JQ,JR,JS,stillI,IOp.kind,JT,JU,JV,JW,JX,JY,JZ,Y0,Y1,Y2,Y3,Y4,Y5,Y6,Y7,Y8,Y9,Ya,Yb,Yc,Yd,Ye,Yf,Yg,Yh,Yi,Yj,Yk,Yl,Ym,Yn,Yo,Yp,Yq,ial,Yr,Ys,Yt,Yu,Yv,Yw,Yx,Yy,ires,iresL,ires1,Yz,YA,YB,YC,YD,YE,bin2,YF,YG,YH,YI,YJ,YK,YL,YM,YN,YO,YP,YQ,YR,YS,YT,YU,un1,shOk,eqL,eq1,fillL,putAt,IHeap.load1,IHeap.loadL,IHeap.storeL,YV,YW,YX,YY,YZ,B0,B1,B2,B3,B4,B5,B6,B7,B8,B9,Ba,Bb,Bc,Bd,Be,Bf,Bg,Bh,Bi,Bj,Bk,Bl,Bm,Bn,Bo,Bp, t0, t11, hq]
                      exact hK _ fH iH
                    · rw [if_neg hq] at hK
                      simp -implicitDefEqProofs [J0,J1,J2,J3,J4,J5,J6,J7,J8,J9,Ja,Jb,Jc,Jd,Je,Jf,Jg,Jh,Ji,Jj,Jk,Jl,Jm,Jn,Jo,Jp,Jq,Jr,Js,Jt,Ju,Jv,Jw,Jx,Jy,Jz,JA,JB,JC,JD,JE,JF,JG,JH,JI,JJ,JK,JL,JM,JN,JO,JP,JQ,JR,JS,stillI,IOp.kind,JT,JU,JV,JW,JX,JY,JZ,Y0,Y1,Y2,Y3,Y4,Y5,Y6,Y7,Y8,Y9,Ya,Yb,Yc,Yd,Ye,Yf,Yg,Yh,Yi,Yj,Yk,Yl,Ym,Yn,Yo,Yp,Yq,ial,Yr,Ys,Yt,Yu,Yv,Yw,Yx,Yy,ires,iresL,ires1,Yz,YA,YB,YC,YD,YE,bin2,YF,YG,YH,YI,YJ,YK,YL,YM,YN,YO,YP,YQ,YR,YS,YT,YU,un1,shOk,eqL,eq1,fillL,putAt,IHeap.load1,IHeap.loadL,IHeap.storeL,YV,YW,YX,YY,YZ,B0,B1,B2,B3,B4,B5,B6,B7,B8,B9,Ba,Bb,Bc,Bd,Be,Bf,Bg,Bh,Bi,Bj,Bk,Bl,Bm,Bn,Bo,Bp, t0, t11, hq, g2, cP0, cP1, cP2, cP4, cP5, cP6, cP7, cP15, cQ0, cQ1, cQ4, cQ5, cQ6, cQ7, cQ15, cPlen, tP2, tP4, tP6, tP7]
                      refine hK _ (fH.set (.inl h.own) _) ?_
                      have hm : ∃ r, mv2 = .map (some r) ∧ B r ∧ IsMap H2 r kI vV PF.best := by
                        rcases hrep2 with ⟨_, _, hz⟩ | hm
                        · exact absurd hz (by rw [hkp.2.2.1]; exact dW)
                        · exact hm
                      obtain ⟨r, rfl, hr, hm⟩ := hm
                      refine ⟨iH.lt, h.own, .map (some r), by rw [YW, if_pos rfl], .inr ⟨r, rfl, hr, hm.same (Nat.le_refl _) ?_⟩⟩
                      rw [YW, if_neg (fun e => hm.ne_cells g2 e.symm)]
        · have hb4 : P.promise fr a n l = (P, false) := by unfold Pro.promise; rw [if_pos (.inr (.inr (.inr (.inl h4))))]
          by_cases h4a : a = P.ba
          · subst h4a
            have h4b : ¬ n = P.bn := fun e => h4 ⟨rfl, e⟩
            simp -implicitDefEqProofs [J0,J1,J2,J3,J4,J5,J6,J7,J8,J9,Ja,Jb,Jc,Jd,Je,Jf,Jg,Jh,Ji,Jj,Jk,Jl,Jm,Jn,Jo,Jp,Jq,Jr,Js,Jt,Ju,Jv,Jw,Jx,Jy,Jz,JA,JB,JC,JD,JE,JF,JG,JH,JI,JJ,JK,JL,JM,JN,JO,JP,JQ,JR,JS,stillI,IOp.kind,JT,JU,JV,JW,JX,JY,JZ,Y0,Y1,Y2,Y3,Y4,Y5,Y6,Y7,Y8,Y9,Ya,Yb,Yc,Yd,Ye,Yf,Yg,Yh,Yi,Yj,Yk,Yl,Ym,Yn,Yo,Yp,Yq,ial,Yr,Ys,Yt,Yu,Yv,Yw,Yx,Yy,ires,iresL,ires1,Yz,YA,YB,YC,YD,YE,bin2,YF,YG,YH,YI,YJ,YK,YL,YM,YN,YO,YP,YQ,YR,YS,YT,YU,un1,shOk,eqL,eq1,fillL,putAt,IHeap.load1,IHeap.loadL,IHeap.storeL,YV,YW,YX,YY,YZ,B0,B1,B2,B3,B4,B5,B6,B7,B8,B9,Ba,Bb,Bc,Bd,Be,Bf,Bg,Bh,Bi,Bj,Bk,Bl,Bm,Bn,Bo,Bp, c_proposer_Proposer_Promise, vB, nilOf, ← hH0, g0, b0, cP0, cP1, cP2, cP4, cP5, cP6, cP7, cP15, cQ0, cQ1, cQ4, cQ5, cQ6, cQ7, cQ15, cPlen, tP2, tP4, tP6, tP7, h1, h2, h3, h4b]
            exact bad (.inr (.inr (.inr (.inl h4))))
          · simp -implicitDefEqProofs [J0,J1,J2,J3,J4,J5,J6,J7,J8,J9,Ja,Jb,Jc,Jd,Je,Jf,Jg,Jh,Ji,Jj,Jk,Jl,Jm,Jn,Jo,Jp,Jq,Jr,Js,Jt,Ju,Jv,Jw,Jx,Jy,Jz,JA,JB,JC,JD,JE,JF,JG,JH,JI,JJ,JK,JL,JM,JN,JO,JP,JQ,JR,JS,stillI,IOp.kind,JT,JU,JV,JW,JX,JY,JZ,Y0,Y1,Y2,Y3,Y4,Y5,Y6,Y7,Y8,Y9,Ya,Yb,Yc,Yd,Ye,Yf,Yg,Yh,Yi,Yj,Yk,Yl,Ym,Yn,Yo,Yp,Yq,ial,Yr,Ys,Yt,Yu,Yv,Yw,Yx,Yy,ires,iresL,ires1,Yz,YA,YB,YC,YD,YE,bin2,YF,YG,YH,YI,YJ,YK,YL,YM,YN,YO,YP,YQ,YR,YS,YT,YU,un1,shOk,eqL,eq1,fillL,putAt,IHeap.load1,IHeap.loadL,IHeap.storeL,YV,YW,YX,YY,YZ,B0,B1,B2,B3,B4,B5,B6,B7,B8,B9,Ba,Bb,Bc,Bd,Be,Bf,Bg,Bh,Bi,Bj,Bk,Bl,Bm,Bn,Bo,Bp, c_proposer_Proposer_Promise, vB, nilOf, ← hH0, g0, b0, cP0, cP1, cP2, cP4, cP5, cP6, cP7, cP15, cQ0, cQ1, cQ4, cQ5, cQ6, cQ7, cQ15, cPlen, tP2, tP4, tP6, tP7, h1, h2, h3, h4a]
            exact bad (.inr (.inr (.inr (.inl h4))))
  · simp -implicitDefEqProofs [J0,J1,J2,J3,J4,J5,J6,J7,J8,J9,Ja,Jb,Jc,Jd,Je,Jf,Jg,Jh,Ji,Jj,Jk,Jl,Jm,Jn,Jo,Jp,Jq,Jr,Js,Jt,Ju,Jv,Jw,Jx,Jy,Jz,JA,JB,JC,JD,JE,JF,JG,JH,JI,JJ,JK,JL,JM,JN,JO,JP,JQ,JR,JS,stillI,IOp.kind,JT,JU,JV,JW,JX,JY,JZ,Y0,Y1,Y2,Y3,Y4,Y5,Y6,Y7,Y8,Y9,Ya,Yb,Yc,Yd,Ye,Yf,Yg,Yh,Yi,Yj,Yk,Yl,Ym,Yn,Yo,Yp,Yq,ial,Yr,Ys,Yt,Yu,Yv,Yw,Yx,Yy,ires,iresL,ires1,Yz,YA,YB,YC,YD,YE,bin2,YF,YG,YH,YI,YJ,YK,YL,YM,YN,YO,YP,YQ,YR,YS,YT,YU,un1,shOk,eqL,eq1,fillL,putAt,IHeap.load1,IHeap.loadL,IHeap.storeL,YV,YW,YX,YY,YZ,B0,B1,B2,B3,B4,B5,B6,B7,B8,B9,Ba,Bb,Bc,Bd,Be,Bf,Bg,Bh,Bi,Bj,Bk,Bl,Bm,Bn,Bo,Bp, c_proposer_Proposer_Promise, vB, nilOf, ← hH0, g0, cP0, cP1, cP2, cP4, cP5, cP6, cP7, cP15, cQ0, cQ1, cQ4, cQ5, cQ6, cQ7, cQ15, cPlen, tP2, tP4, tP6, tP7, h1]
    exact bad (.inl h1)
end
end Go.Proofs.YtafnkmiggmfbdaaI
