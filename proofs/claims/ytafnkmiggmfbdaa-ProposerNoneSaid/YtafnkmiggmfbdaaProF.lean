/- Who proposes: what it fills. -/
import Derived.Test.YtafnkmiggmfbdaaProE
namespace Go.Proofs.YtafnkmiggmfbdaaI
set_option linter.unusedSimpArgs false
set_option linter.unusedVariables false
open Go

theorem filledL_snoc (P : Pro) : ∀ (k : Nat) (s : Int), filledL P s (k + 1) = filledL P s k ++ [⟨s + k, P.ba, P.bn, valOf (P.best (s + k))⟩]
  | 0, s => by simp [filledL]
  | k + 1, s => by
    have ih := filledL_snoc P k (s + 1)
    rw [filledL, ih, filledL, List.cons_append]
    rw [show s + 1 + (k : Int) = s + ((k + 1 : Nat) : Int) by omega]
theorem filledL_len (P : Pro) : ∀ (k : Nat) (s : Int), (filledL P s k).length = k
  | 0, _ => rfl
  | k + 1, s => by rw [filledL, List.length_cons, filledL_len P k]
theorem born_inj : ∀ {es : List MapEntry} {x y : MapEntry}, (es.map (·.born)).Nodup → x ∈ es → y ∈ es → x.born = y.born → x = y
  | [], _, _, _, h, _, _ => by simp at h
  | z :: es, x, y, hn, hx, hy, e => by
    simp only [List.map_cons, List.nodup_cons] at hn
    rcases List.mem_cons.1 hx with h1 | h1
    · rcases List.mem_cons.1 hy with h2 | h2
      · rw [h1, h2]
      · subst h1; exact (hn.1 (List.mem_map.2 ⟨y, h2, e.symm⟩)).elim
    · rcases List.mem_cons.1 hy with h2 | h2
      · subst h2; exact (hn.1 (List.mem_map.2 ⟨x, h1, e⟩)).elim
      · exact born_inj hn.2 h1 h2 e
theorem IsP.keep {B : Nat → Prop} {H H' : IHeap} {p N : Nat} {P : Pro} (h : IsP B H p P) (k : IHeap.keep N H H') (hN : ∀ b, B b → b < N) : IsP B H' p P := by
  obtain ⟨h1, h2, mv, h3, h4⟩ := h
  refine ⟨fun b hb => Nat.lt_of_lt_of_le (h1 b hb) k.next, h2, mv, (k.get p (hN p h2)).trans h3, h4.imp id ?_⟩
  rintro ⟨r, e, hr, hm⟩
  exact ⟨r, e, hr, hm.same k.next (k.get r (hN r hr))⟩

section
variable (c : Ctx) (hA : HasBalA c) (hB : HasBalB c) (hD : HasBalD c) (hc : HasProp c) (hT : ProT c) {H : IHeap} {K : Value → IHeap → Prop} {B : Nat → Prop} {p : Nat} {P : Pro}

include hc hT in
theorem PFill_ok (h : IsP B H p P) (ho : P.ok) (h0 : (P.does ≠ 2 ∨ P.filled = true) → K (.slice none 0 0) H)
    (hK : P.does = 2 → P.filled = false → ∀ e, IsEnd P e → ∀ v' H', Fr B H H' → IsP B H' p (P.setFilled true) → Grow H' H.next 4 v' ((P.fill e).map rowV) → K v' H') :
    c.C (c.F n_proposer_Proposer_Fill) [.pointer (some ⟨p, 0, none⟩)] H K := by
  refine c.enter hc.proposer_Proposer_Fill rfl ?_
  have hp := h.lt p h.own
  simp -implicitDefEqProofs [J0,J1,J2,J3,J4,J5,J6,J7,J8,J9,Ja,Jb,Jc,Jd,Je,Jf,Jg,Jh,Ji,Jj,Jk,Jl,Jm,Jn,Jo,Jp,Jq,Jr,Js,Jt,Ju,Jv,Jw,Jx,Jy,Jz,JA,JB,JC,JD,JE,JF,JG,JH,JI,JJ,JK,JL,JM,JN,JO,JP,JQ,JR,JS,stillI,IOp.kind,JT,JU,JV,JW,JX,JY,JZ,Y0,Y1,Y2,Y3,Y4,Y5,Y6,Y7,Y8,Y9,Ya,Yb,Yc,Yd,Ye,Yf,Yg,Yh,Yi,Yj,Yk,Yl,Ym,Yn,Yo,Yp,Yq,ial,Yr,Ys,Yt,Yu,Yv,Yw,Yx,Yy,ires,iresL,ires1,Yz,YA,YB,YC,YD,YE,bin2,YF,YG,YH,YI,YJ,YK,YL,YM,YN,YO,YP,YQ,YR,YS,YT,YU,un1,shOk,eqL,eq1,fillL,putAt,IHeap.load1,IHeap.loadL,IHeap.storeL,YV,YW,YX,YY,YZ,B0,B1,B2,B3,B4,B5,B6,B7,B8,B9,Ba,Bb,Bc,Bd,Be,Bf,Bg,Bh,Bi,Bj,Bk,Bl,Bm,Bn,Bo,Bp, c_proposer_Proposer_Fill]
  refine call_of (PLeads_ok c hc h ?_)
  by_cases h1 : P.does = 2
  · obtain ⟨r, g, hr, hm, hne⟩ := h.getNext (by omega)
    have hrl := h.lt r hr
    cases h2 : P.filled with
    | true =>
      simp -implicitDefEqProofs [J0,J1,J2,J3,J4,J5,J6,J7,J8,J9,Ja,Jb,Jc,Jd,Je,Jf,Jg,Jh,Ji,Jj,Jk,Jl,Jm,Jn,Jo,Jp,Jq,Jr,Js,Jt,Ju,Jv,Jw,Jx,Jy,Jz,JA,JB,JC,JD,JE,JF,JG,JH,JI,JJ,JK,JL,JM,JN,JO,JP,JQ,JR,JS,stillI,IOp.kind,JT,JU,JV,JW,JX,JY,JZ,Y0,Y1,Y2,Y3,Y4,Y5,Y6,Y7,Y8,Y9,Ya,Yb,Yc,Yd,Ye,Yf,Yg,Yh,Yi,Yj,Yk,Yl,Ym,Yn,Yo,Yp,Yq,ial,Yr,Ys,Yt,Yu,Yv,Yw,Yx,Yy,ires,iresL,ires1,Yz,YA,YB,YC,YD,YE,bin2,YF,YG,YH,YI,YJ,YK,YL,YM,YN,YO,YP,YQ,YR,YS,YT,YU,un1,shOk,eqL,eq1,fillL,putAt,IHeap.load1,IHeap.loadL,IHeap.storeL,YV,YW,YX,YY,YZ,B0,B1,B2,B3,B4,B5,B6,B7,B8,B9,Ba,Bb,Bc,Bd,Be,Bf,Bg,Bh,Bi,Bj,Bk,Bl,Bm,Bn,Bo,Bp, h1, g, cP0, cP1, cP2, cP4, cP5, cP6, cP7, cP15, cQ0, cQ1, cQ4, cQ5, cQ6, cQ7, cQ15, cPlen, tP2, tP4, tP6, tP7, h2]
      exact h0 (.inr h2)
    | false =>
      obtain ⟨o1, o2, o3, o4, o5, o6, o7, o8⟩ := ho
      obtain ⟨PF, hPF⟩ : ∃ PF, PF = P.setFilled true := ⟨_, rfl⟩
      obtain ⟨H1, hH1⟩ : ∃ X : IHeap, X = H.set p (.cells (cellsP PF (.map (some r))) false) := ⟨_, rfl⟩
      have n1 : H1.next = H.next := by rw [hH1]; rfl
      have g1 : H1.get p = some (.cells (cellsP PF (.map (some r))) false) := by rw [hH1, YW, if_pos rfl]
      have m1 : IsMap H1 r kI vV P.best := hm.same (by omega) (by rw [hH1, YW, if_neg (fun e => hne e.symm)])
      have f1 : Fr B H H1 := by rw [hH1]; exact (Fr.refl B H).set (.inl h.own) _
      obtain ⟨es, clock, gr, hb, hes1, hes2⟩ := m1.entries
      have frF : PF.fr = P.fr := by rw [hPF]; rfl
      simp -implicitDefEqProofs [J0,J1,J2,J3,J4,J5,J6,J7,J8,J9,Ja,Jb,Jc,Jd,Je,Jf,Jg,Jh,Ji,Jj,Jk,Jl,Jm,Jn,Jo,Jp,Jq,Jr,Js,Jt,Ju,Jv,Jw,Jx,Jy,Jz,JA,JB,JC,JD,JE,JF,JG,JH,JI,JJ,JK,JL,JM,JN,JO,JP,JQ,JR,JS,stillI,IOp.kind,JT,JU,JV,JW,JX,JY,JZ,Y0,Y1,Y2,Y3,Y4,Y5,Y6,Y7,Y8,Y9,Ya,Yb,Yc,Yd,Ye,Yf,Yg,Yh,Yi,Yj,Yk,Yl,Ym,Yn,Yo,Yp,Yq,ial,Yr,Ys,Yt,Yu,Yv,Yw,Yx,Yy,ires,iresL,ires1,Yz,YA,YB,YC,YD,YE,bin2,YF,YG,YH,YI,YJ,YK,YL,YM,YN,YO,YP,YQ,YR,YS,YT,YU,un1,shOk,eqL,eq1,fillL,putAt,IHeap.load1,IHeap.loadL,IHeap.storeL,YV,YW,YX,YY,YZ,B0,B1,B2,B3,B4,B5,B6,B7,B8,B9,Ba,Bb,Bc,Bd,Be,Bf,Bg,Bh,Bi,Bj,Bk,Bl,Bm,Bn,Bo,Bp, h1, g, cP0, cP1, cP2, cP4, cP5, cP6, cP7, cP15, cQ0, cQ1, cQ4, cQ5, cQ6, cQ7, cQ15, cPlen, tP2, tP4, tP6, tP7, h2, ← hPF, ← hH1, g1, rangeI, gr, frF]
      refine loop_nat c.mono (fun k T H' => ∃ (seen : List Nat) (e : Int), k = leftM es seen ∧ T 0 = .pointer (some ⟨p, 0, none⟩) ∧ T 27 = .pointer (some ⟨H1.next, 0, none⟩) ∧ T 3 = .int .i64 e ∧
        H'.next = H1.next + 1 ∧ (∀ b, b < H1.next → H'.get b = H1.get b) ∧ H'.get H1.next = some (.iter (some r) clock seen clock) ∧
        P.fr ≤ e ∧ e ≤ P.next ∧ (∀ x ∈ es, x.born ∈ seen → ∀ s, x.key = kI s → s < e) ∧ (e = P.fr ∨ ∃ v, P.best (e - 1) = some v)) (leftM es []) ?_ ?_
      · refine ⟨[], P.fr, rfl, ?_⟩
        simp -implicitDefEqProofs [J0,J1,J2,J3,J4,J5,J6,J7,J8,J9,Ja,Jb,Jc,Jd,Je,Jf,Jg,Jh,Ji,Jj,Jk,Jl,Jm,Jn,Jo,Jp,Jq,Jr,Js,Jt,Ju,Jv,Jw,Jx,Jy,Jz,JA,JB,JC,JD,JE,JF,JG,JH,JI,JJ,JK,JL,JM,JN,JO,JP,JQ,JR,JS,stillI,IOp.kind,JT,JU,JV,JW,JX,JY,JZ,Y0,Y1,Y2,Y3,Y4,Y5,Y6,Y7,Y8,Y9,Ya,Yb,Yc,Yd,Ye,Yf,Yg,Yh,Yi,Yj,Yk,Yl,Ym,Yn,Yo,Yp,Yq,ial,Yr,Ys,Yt,Yu,Yv,Yw,Yx,Yy,ires,iresL,ires1,Yz,YA,YB,YC,YD,YE,bin2,YF,YG,YH,YI,YJ,YK,YL,YM,YN,YO,YP,YQ,YR,YS,YT,YU,un1,shOk,eqL,eq1,fillL,putAt,IHeap.load1,IHeap.loadL,IHeap.storeL,YV,YW,YX,YY,YZ,B0,B1,B2,B3,B4,B5,B6,B7,B8,B9,Ba,Bb,Bc,Bd,Be,Bf,Bg,Bh,Bi,Bj,Bk,Bl,Bm,Bn,Bo,Bp]
        exact ⟨fun b hb hbn => by omega, o5⟩
      · rintro k T H' ⟨seen, e, rfl, t0, t27, t3, n', hold, git, e1, e2, e3, e4⟩
        have gr' := (hold r (by omega)).trans gr
        have g' := (hold p (by omega)).trans g1
        simp -implicitDefEqProofs [J0,J1,J2,J3,J4,J5,J6,J7,J8,J9,Ja,Jb,Jc,Jd,Je,Jf,Jg,Jh,Ji,Jj,Jk,Jl,Jm,Jn,Jo,Jp,Jq,Jr,Js,Jt,Ju,Jv,Jw,Jx,Jy,Jz,JA,JB,JC,JD,JE,JF,JG,JH,JI,JJ,JK,JL,JM,JN,JO,JP,JQ,JR,JS,stillI,IOp.kind,JT,JU,JV,JW,JX,JY,JZ,Y0,Y1,Y2,Y3,Y4,Y5,Y6,Y7,Y8,Y9,Ya,Yb,Yc,Yd,Ye,Yf,Yg,Yh,Yi,Yj,Yk,Yl,Ym,Yn,Yo,Yp,Yq,ial,Yr,Ys,Yt,Yu,Yv,Yw,Yx,Yy,ires,iresL,ires1,Yz,YA,YB,YC,YD,YE,bin2,YF,YG,YH,YI,YJ,YK,YL,YM,YN,YO,YP,YQ,YR,YS,YT,YU,un1,shOk,eqL,eq1,fillL,putAt,IHeap.load1,IHeap.loadL,IHeap.storeL,YV,YW,YX,YY,YZ,B0,B1,B2,B3,B4,B5,B6,B7,B8,B9,Ba,Bb,Bc,Bd,Be,Bf,Bg,Bh,Bi,Bj,Bk,Bl,Bm,Bn,Bo,Bp, t0, t27, t3]
        refine next_of git gr' hb (fun hall => ?_) (fun x hx hxs => ?_)
        · have hend : IsEnd P e := by
            refine ⟨e1, fun s v hs => ?_, e4⟩
            obtain ⟨x, hx, hk, _⟩ := hes2 s v hs
            exact e3 x hx (hall x hx) s hk
          obtain ⟨N, hN⟩ : ∃ N : Nat, N = (e - P.fr).toNat := ⟨_, rfl⟩
          have hN' : e = P.fr + N := by omega
          have kH : IHeap.keep H1.next H1 H' := ⟨by omega, hold⟩
          have iF : IsP B H1 p PF := ⟨fun b hb => by have := h.lt b hb; omega, h.own, _, g1, .inr ⟨r, rfl, hr, by rw [hPF]; exact m1⟩⟩
          have bF : PF.best = P.best := by rw [hPF]; rfl
          have aF : PF.ba = P.ba ∧ PF.bn = P.bn := by rw [hPF]; exact ⟨rfl, rfl⟩
          simp -implicitDefEqProofs [J0,J1,J2,J3,J4,J5,J6,J7,J8,J9,Ja,Jb,Jc,Jd,Je,Jf,Jg,Jh,Ji,Jj,Jk,Jl,Jm,Jn,Jo,Jp,Jq,Jr,Js,Jt,Ju,Jv,Jw,Jx,Jy,Jz,JA,JB,JC,JD,JE,JF,JG,JH,JI,JJ,JK,JL,JM,JN,JO,JP,JQ,JR,JS,stillI,IOp.kind,JT,JU,JV,JW,JX,JY,JZ,Y0,Y1,Y2,Y3,Y4,Y5,Y6,Y7,Y8,Y9,Ya,Yb,Yc,Yd,Ye,Yf,Yg,Yh,Yi,Yj,Yk,Yl,Ym,Yn,Yo,Yp,Yq,ial,Yr,Ys,Yt,Yu,Yv,Yw,Yx,Yy,ires,iresL,ires1,Yz,YA,YB,YC,YD,YE,bin2,YF,YG,YH,YI,YJ,YK,YL,YM,YN,YO,YP,YQ,YR,YS,YT,YU,un1,shOk,eqL,eq1,fillL,putAt,IHeap.load1,IHeap.loadL,IHeap.storeL,YV,YW,YX,YY,YZ,B0,B1,B2,B3,B4,B5,B6,B7,B8,B9,Ba,Bb,Bc,Bd,Be,Bf,Bg,Bh,Bi,Bj,Bk,Bl,Bm,Bn,Bo,Bp, t0, t27, t3, g', cP0, cP1, cP2, cP4, cP5, cP6, cP7, cP15, cQ0, cQ1, cQ4, cQ5, cQ6, cQ7, cQ15, cPlen, tP2, tP4, tP6, tP7, frF]
          refine loop_nat c.mono (fun k T H2 => ∃ j : Nat, j ≤ N ∧ k = N - j ∧ T 0 = .pointer (some ⟨p, 0, none⟩) ∧ T 3 = .int .i64 e ∧ T 6 = .int .i64 (P.fr + j) ∧ IHeap.keep H1.next H1 H2 ∧ Grow H2 H.next 4 (T 5) ((filledL P P.fr j).map rowV)) N ?_ ?_
          · refine ⟨0, by omega, rfl, ?_⟩
            simp -implicitDefEqProofs [J0,J1,J2,J3,J4,J5,J6,J7,J8,J9,Ja,Jb,Jc,Jd,Je,Jf,Jg,Jh,Ji,Jj,Jk,Jl,Jm,Jn,Jo,Jp,Jq,Jr,Js,Jt,Ju,Jv,Jw,Jx,Jy,Jz,JA,JB,JC,JD,JE,JF,JG,JH,JI,JJ,JK,JL,JM,JN,JO,JP,JQ,JR,JS,stillI,IOp.kind,JT,JU,JV,JW,JX,JY,JZ,Y0,Y1,Y2,Y3,Y4,Y5,Y6,Y7,Y8,Y9,Ya,Yb,Yc,Yd,Ye,Yf,Yg,Yh,Yi,Yj,Yk,Yl,Ym,Yn,Yo,Yp,Yq,ial,Yr,Ys,Yt,Yu,Yv,Yw,Yx,Yy,ires,iresL,ires1,Yz,YA,YB,YC,YD,YE,bin2,YF,YG,YH,YI,YJ,YK,YL,YM,YN,YO,YP,YQ,YR,YS,YT,YU,un1,shOk,eqL,eq1,fillL,putAt,IHeap.load1,IHeap.loadL,IHeap.storeL,YV,YW,YX,YY,YZ,B0,B1,B2,B3,B4,B5,B6,B7,B8,B9,Ba,Bb,Bc,Bd,Be,Bf,Bg,Bh,Bi,Bj,Bk,Bl,Bm,Bn,Bo,Bp, t0, t3]
            exact ⟨kH, Grow.nil _ _ _⟩
          · rintro k T2 H2 ⟨j, hj, rfl, t0, t3, t6, kH2, gr2⟩
            by_cases hjN : j < N
            · have hlt : P.fr + (j : Int) < e := by omega
              have ws : IntKind.i64.wrap (P.fr + (j : Int) + 1) = P.fr + (j : Int) + 1 := wrap64 (by omega) (by omega)
              have i2 := iF.keep kH2 (fun b hb => by have := h.lt b hb; omega)
              have g2 := (kH2.get p (by omega)).trans g1
              have m2 : IsMap H2 r kI vV P.best := m1.same kH2.next (kH2.get r (by omega))
              have lk := m2.look (P := c.P) (keyOf_int hT.key) (P.fr + j) (.agg #[.int .i64 0, .int .i64 0, .int .i64 0, .string ⟨#[]⟩]) false
              simp only [kI] at lk
              obtain ⟨q, hq⟩ : ∃ q, q = P.best (P.fr + (j : Int)) := ⟨_, rfl⟩
              have hval : ∃ z, (match P.best (P.fr + (j : Int)) with | some a => vV a | none => Value.agg #[.int .i64 0, .int .i64 0, .int .i64 0, .string ⟨#[]⟩]) = Value.agg z ∧ z.toList[3]? = some (.string (valOf (P.best (P.fr + (j : Int))))) := by
                cases P.best (P.fr + (j : Int)) with
                | none => exact ⟨_, rfl, rfl⟩
                | some a => exact ⟨_, rfl, rfl⟩
              obtain ⟨z, hz1, hz2⟩ := hval
              have lk' : lookR c.P H2 (c.Ty 2) (.agg #[.int .i64 0, .int .i64 0, .int .i64 0, .string ⟨#[]⟩]) false (.map (some r)) (.int .i64 (P.fr + (j : Int))) = some (.agg z) := by
                rw [lk, ← hz1]
                cases P.best (P.fr + (j : Int)) <;> rfl
              have hz2' : z[3]? = some (.string (valOf (P.best (P.fr + (j : Int))))) := by simpa using hz2
              simp -implicitDefEqProofs [J0,J1,J2,J3,J4,J5,J6,J7,J8,J9,Ja,Jb,Jc,Jd,Je,Jf,Jg,Jh,Ji,Jj,Jk,Jl,Jm,Jn,Jo,Jp,Jq,Jr,Js,Jt,Ju,Jv,Jw,Jx,Jy,Jz,JA,JB,JC,JD,JE,JF,JG,JH,JI,JJ,JK,JL,JM,JN,JO,JP,JQ,JR,JS,stillI,IOp.kind,JT,JU,JV,JW,JX,JY,JZ,Y0,Y1,Y2,Y3,Y4,Y5,Y6,Y7,Y8,Y9,Ya,Yb,Yc,Yd,Ye,Yf,Yg,Yh,Yi,Yj,Yk,Yl,Ym,Yn,Yo,Yp,Yq,ial,Yr,Ys,Yt,Yu,Yv,Yw,Yx,Yy,ires,iresL,ires1,Yz,YA,YB,YC,YD,YE,bin2,YF,YG,YH,YI,YJ,YK,YL,YM,YN,YO,YP,YQ,YR,YS,YT,YU,un1,shOk,eqL,eq1,fillL,putAt,IHeap.load1,IHeap.loadL,IHeap.storeL,YV,YW,YX,YY,YZ,B0,B1,B2,B3,B4,B5,B6,B7,B8,B9,Ba,Bb,Bc,Bd,Be,Bf,Bg,Bh,Bi,Bj,Bk,Bl,Bm,Bn,Bo,Bp, t0, t3, t6, hlt, g2, cP0, cP1, cP2, cP4, cP5, cP6, cP7, cP15, cQ0, cQ1, cQ4, cQ5, cQ6, cQ7, cQ15, cPlen, tP2, tP4, tP6, tP7, lk', hz2']
              refine call_of (Pvote_ok c hc i2 fun H3 k3 => ?_)
              obtain ⟨V, hV⟩ : ∃ V : VoteD, V = ⟨P.fr + (j : Int), P.ba, P.bn, valOf (P.best (P.fr + (j : Int)))⟩ := ⟨_, rfl⟩
              rw [aF.1, aF.2, ← hV]
              obtain ⟨H4, hH4⟩ : ∃ X : IHeap, X = H3.alloc (.cells (rowV V) false) := ⟨_, rfl⟩
              have k4 : H3.le H4 := by rw [hH4]; exact H3.le_alloc _
              have b4 : H4.get H3.next = some (.cells (rowV V) false) := by rw [hH4, YV, if_pos rfl]
              have n2 := kH2.next
              have n3 := k3.next
              have hlen := filledL_len P j P.fr
              have hH4' : H3.alloc (.cells [.int .i64 V.slot, .int .i64 V.a, .int .i64 V.n, .string V.val] false) = H4 := by rw [hH4]; rfl
              obtain ⟨v5, H5, ap, gr5, kp5⟩ := (gr2.le (k3.trans k4)).append1 (bytes := 40) (new := rowV V) (by have := k4.next; omega) (by omega) (by omega) (by rw [List.length_map]; omega) (by rw [List.length_map]; omega) rfl rfl
              simp only [rowV] at b4 ap
              simp -implicitDefEqProofs [J0,J1,J2,J3,J4,J5,J6,J7,J8,J9,Ja,Jb,Jc,Jd,Je,Jf,Jg,Jh,Ji,Jj,Jk,Jl,Jm,Jn,Jo,Jp,Jq,Jr,Js,Jt,Ju,Jv,Jw,Jx,Jy,Jz,JA,JB,JC,JD,JE,JF,JG,JH,JI,JJ,JK,JL,JM,JN,JO,JP,JQ,JR,JS,stillI,IOp.kind,JT,JU,JV,JW,JX,JY,JZ,Y0,Y1,Y2,Y3,Y4,Y5,Y6,Y7,Y8,Y9,Ya,Yb,Yc,Yd,Ye,Yf,Yg,Yh,Yi,Yj,Yk,Yl,Ym,Yn,Yo,Yp,Yq,ial,Yr,Ys,Yt,Yu,Yv,Yw,Yx,Yy,ires,iresL,ires1,Yz,YA,YB,YC,YD,YE,bin2,YF,YG,YH,YI,YJ,YK,YL,YM,YN,YO,YP,YQ,YR,YS,YT,YU,un1,shOk,eqL,eq1,fillL,putAt,IHeap.load1,IHeap.loadL,IHeap.storeL,YV,YW,YX,YY,YZ,B0,B1,B2,B3,B4,B5,B6,B7,B8,B9,Ba,Bb,Bc,Bd,Be,Bf,Bg,Bh,Bi,Bj,Bk,Bl,Bm,Bn,Bo,Bp, t0, t3, t6, vV, hH4', lenOfI, firstI, b4, ap, ws]
              refine ⟨N - (j + 1), by omega, j + 1, by omega, rfl, by omega, ?_, ?_⟩
              · exact (kH2.trans ((k3.trans k4).keep (by omega))).trans (n1 ▸ kp5)
              · rw [filledL_snoc, List.map_append]
                exact hV ▸ gr5
            · have hge : ¬ P.fr + (j : Int) < e := by omega
              have hje : j = N := by omega
              simp -implicitDefEqProofs [J0,J1,J2,J3,J4,J5,J6,J7,J8,J9,Ja,Jb,Jc,Jd,Je,Jf,Jg,Jh,Ji,Jj,Jk,Jl,Jm,Jn,Jo,Jp,Jq,Jr,Js,Jt,Ju,Jv,Jw,Jx,Jy,Jz,JA,JB,JC,JD,JE,JF,JG,JH,JI,JJ,JK,JL,JM,JN,JO,JP,JQ,JR,JS,stillI,IOp.kind,JT,JU,JV,JW,JX,JY,JZ,Y0,Y1,Y2,Y3,Y4,Y5,Y6,Y7,Y8,Y9,Ya,Yb,Yc,Yd,Ye,Yf,Yg,Yh,Yi,Yj,Yk,Yl,Ym,Yn,Yo,Yp,Yq,ial,Yr,Ys,Yt,Yu,Yv,Yw,Yx,Yy,ires,iresL,ires1,Yz,YA,YB,YC,YD,YE,bin2,YF,YG,YH,YI,YJ,YK,YL,YM,YN,YO,YP,YQ,YR,YS,YT,YU,un1,shOk,eqL,eq1,fillL,putAt,IHeap.load1,IHeap.loadL,IHeap.storeL,YV,YW,YX,YY,YZ,B0,B1,B2,B3,B4,B5,B6,B7,B8,B9,Ba,Bb,Bc,Bd,Be,Bf,Bg,Bh,Bi,Bj,Bk,Bl,Bm,Bn,Bo,Bp, t0, t3, t6, hge]
              refine hK h1 h2 e hend _ _ (f1.trans (B := B) ((kH2.upd (S := []) (by omega)).fr (B := B) (by simp)) (fun b hb => .inl hb)) (hPF ▸ iF.keep kH2 (fun b hb => by have := h.lt b hb; omega)) ?_
              unfold Pro.fill
              rw [← hN, ← hje]
              exact gr2
        · obtain ⟨s, a, hk, hv, hbs⟩ := hes1 x hx
          obtain ⟨q1, q2, q3, _, _⟩ := o8 s a hbs
          have ws : IntKind.i64.wrap (s + 1) = s + 1 := wrap64 (by omega) (by omega)
          simp -implicitDefEqProofs [J0,J1,J2,J3,J4,J5,J6,J7,J8,J9,Ja,Jb,Jc,Jd,Je,Jf,Jg,Jh,Ji,Jj,Jk,Jl,Jm,Jn,Jo,Jp,Jq,Jr,Js,Jt,Ju,Jv,Jw,Jx,Jy,Jz,JA,JB,JC,JD,JE,JF,JG,JH,JI,JJ,JK,JL,JM,JN,JO,JP,JQ,JR,JS,stillI,IOp.kind,JT,JU,JV,JW,JX,JY,JZ,Y0,Y1,Y2,Y3,Y4,Y5,Y6,Y7,Y8,Y9,Ya,Yb,Yc,Yd,Ye,Yf,Yg,Yh,Yi,Yj,Yk,Yl,Ym,Yn,Yo,Yp,Yq,ial,Yr,Ys,Yt,Yu,Yv,Yw,Yx,Yy,ires,iresL,ires1,Yz,YA,YB,YC,YD,YE,bin2,YF,YG,YH,YI,YJ,YK,YL,YM,YN,YO,YP,YQ,YR,YS,YT,YU,un1,shOk,eqL,eq1,fillL,putAt,IHeap.load1,IHeap.loadL,IHeap.storeL,YV,YW,YX,YY,YZ,B0,B1,B2,B3,B4,B5,B6,B7,B8,B9,Ba,Bb,Bc,Bd,Be,Bf,Bg,Bh,Bi,Bj,Bk,Bl,Bm,Bn,Bo,Bp, t0, t27, t3, -J5]
          simp -implicitDefEqProofs only [J5]
          simp -implicitDefEqProofs [J0,J1,J2,J3,J4,J5,J6,J7,J8,J9,Ja,Jb,Jc,Jd,Je,Jf,Jg,Jh,Ji,Jj,Jk,Jl,Jm,Jn,Jo,Jp,Jq,Jr,Js,Jt,Ju,Jv,Jw,Jx,Jy,Jz,JA,JB,JC,JD,JE,JF,JG,JH,JI,JJ,JK,JL,JM,JN,JO,JP,JQ,JR,JS,stillI,IOp.kind,JT,JU,JV,JW,JX,JY,JZ,Y0,Y1,Y2,Y3,Y4,Y5,Y6,Y7,Y8,Y9,Ya,Yb,Yc,Yd,Ye,Yf,Yg,Yh,Yi,Yj,Yk,Yl,Ym,Yn,Yo,Yp,Yq,ial,Yr,Ys,Yt,Yu,Yv,Yw,Yx,Yy,ires,iresL,ires1,Yz,YA,YB,YC,YD,YE,bin2,YF,YG,YH,YI,YJ,YK,YL,YM,YN,YO,YP,YQ,YR,YS,YT,YU,un1,shOk,eqL,eq1,fillL,putAt,IHeap.load1,IHeap.loadL,IHeap.storeL,YV,YW,YX,YY,YZ,B0,B1,B2,B3,B4,B5,B6,B7,B8,B9,Ba,Bb,Bc,Bd,Be,Bf,Bg,Bh,Bi,Bj,Bk,Bl,Bm,Bn,Bo,Bp, t0, t27, t3, -J5]
          refine entry_of (since := clock) (seen := seen) (e := x) (by rw [YW, if_pos rfl]) (by rw [YW, if_neg (by omega)]; exact gr') hb hx ?_
          obtain ⟨e', he'⟩ : ∃ e', (if e < s + 1 then s + 1 else e) = e' := ⟨_, rfl⟩
          have hee : e ≤ e' ∧ s < e' ∧ (e' = e ∨ e' = s + 1) ∧ e' ≤ P.next := by rw [← he']; split <;> omega
          simp -implicitDefEqProofs [J0,J1,J2,J3,J4,J5,J6,J7,J8,J9,Ja,Jb,Jc,Jd,Je,Jf,Jg,Jh,Ji,Jj,Jk,Jl,Jm,Jn,Jo,Jp,Jq,Jr,Js,Jt,Ju,Jv,Jw,Jx,Jy,Jz,JA,JB,JC,JD,JE,JF,JG,JH,JI,JJ,JK,JL,JM,JN,JO,JP,JQ,JR,JS,stillI,IOp.kind,JT,JU,JV,JW,JX,JY,JZ,Y0,Y1,Y2,Y3,Y4,Y5,Y6,Y7,Y8,Y9,Ya,Yb,Yc,Yd,Ye,Yf,Yg,Yh,Yi,Yj,Yk,Yl,Ym,Yn,Yo,Yp,Yq,ial,Yr,Ys,Yt,Yu,Yv,Yw,Yx,Yy,ires,iresL,ires1,Yz,YA,YB,YC,YD,YE,bin2,YF,YG,YH,YI,YJ,YK,YL,YM,YN,YO,YP,YQ,YR,YS,YT,YU,un1,shOk,eqL,eq1,fillL,putAt,IHeap.load1,IHeap.loadL,IHeap.storeL,YV,YW,YX,YY,YZ,B0,B1,B2,B3,B4,B5,B6,B7,B8,B9,Ba,Bb,Bc,Bd,Be,Bf,Bg,Bh,Bi,Bj,Bk,Bl,Bm,Bn,Bo,Bp, t0, t27, t3, hk, kI, ws, he']
          refine ⟨_, leftM_lt hx hxs, seen ++ [x.born], rfl, n', fun b hb' => ?_, rfl, by omega, by omega, fun y hy hys s' hs' => ?_, ?_⟩
          · rw [if_neg (by omega)]; exact hold b hb'
          · rcases List.mem_append.1 hys with hys | hys
            · have := e3 y hy hys s' hs'; omega
            · simp only [List.mem_singleton] at hys
              have := born_inj hb.1 hy hx hys
              subst this
              rw [hk] at hs'
              simp only [kI, Value.int.injEq, true_and] at hs'
              omega
          · rcases hee.2.2.1 with q | q
            · rw [q]; exact e4
            · exact .inr ⟨a, by rw [q, show s + 1 - 1 = s by omega]; exact hbs⟩
  · simp -implicitDefEqProofs [J0,J1,J2,J3,J4,J5,J6,J7,J8,J9,Ja,Jb,Jc,Jd,Je,Jf,Jg,Jh,Ji,Jj,Jk,Jl,Jm,Jn,Jo,Jp,Jq,Jr,Js,Jt,Ju,Jv,Jw,Jx,Jy,Jz,JA,JB,JC,JD,JE,JF,JG,JH,JI,JJ,JK,JL,JM,JN,JO,JP,JQ,JR,JS,stillI,IOp.kind,JT,JU,JV,JW,JX,JY,JZ,Y0,Y1,Y2,Y3,Y4,Y5,Y6,Y7,Y8,Y9,Ya,Yb,Yc,Yd,Ye,Yf,Yg,Yh,Yi,Yj,Yk,Yl,Ym,Yn,Yo,Yp,Yq,ial,Yr,Ys,Yt,Yu,Yv,Yw,Yx,Yy,ires,iresL,ires1,Yz,YA,YB,YC,YD,YE,bin2,YF,YG,YH,YI,YJ,YK,YL,YM,YN,YO,YP,YQ,YR,YS,YT,YU,un1,shOk,eqL,eq1,fillL,putAt,IHeap.load1,IHeap.loadL,IHeap.storeL,YV,YW,YX,YY,YZ,B0,B1,B2,B3,B4,B5,B6,B7,B8,B9,Ba,Bb,Bc,Bd,Be,Bf,Bg,Bh,Bi,Bj,Bk,Bl,Bm,Bn,Bo,Bp, h1]
    exact h0 (.inl h1)
end
end Go.Proofs.YtafnkmiggmfbdaaI
