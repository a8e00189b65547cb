/- Segments: dead bytes, dropped, scores, which one is cleaned. -/
import Derived.Test.YtdfjicnjcibdaaaUseE
namespace Go.Proofs.YtdfjicnjcibdaaaI
set_option linter.unusedSimpArgs false
set_option linter.unusedVariables false
open Go

section
variable (c : Ctx) (hc : HasUse c) (hE : IsErr c) (hI : InsOkT c) {H : IHeap} {K : Value → IHeap → Prop}

include hc hE in
theorem TDead_ok {p q : Nat} {L : List UseD} {s n : Int} (h : IsT H p q L) (hl : L.length ≤ 1000000) (ho : ∀ e ∈ L, okT e)
    (hK : ∀ H', IHeap.upd [p, q] H H' → IsT H' p q (deadT L s n).1 → K (.int .i64 (deadT L s n).2) H') :
    c.C (c.F n_usage_Usage_Dead) [.pointer (some ⟨p, 0, none⟩), .int .i64 s, .int .i64 n] H K := by
  refine c.enter hc.usage_Usage_Dead rfl ?_
  simp -implicitDefEqProofs [J0,J1,J2,J3,J4,J5,J6,J7,J8,J9,Ja,Jb,Jc,Jd,Je,Jf,Jg,Jh,Ji,Jj,Jk,Jl,Jm,Jn,Jo,Jp,Jq,Jr,Js,Jt,Ju,Jv,Jw,Jx,Jy,Jz,JA,JB,JC,JD,JE,JF,JG,JH,JI,JJ,JK,JL,JM,JN,JO,JP,stillI,IOp.kind,JQ,JR,JS,JT,JU,JV,JW,JX,JY,JZ,Y0,Y1,Y2,Y3,Y4,Y5,Y6,Y7,Y8,Y9,Ya,Yb,Yc,Yd,Ye,Yf,Yg,Yh,Yi,Yj,Yk,Yl,Ym,Yn,ial,Yo,Yp,Yq,Yr,Ys,Yt,Yu,Yv,ires,iresL,ires1,Yw,Yx,Yy,Yz,YA,YB,bin2,YC,YD,YE,YF,YG,YH,YI,YJ,YK,YL,YM,YN,YO,YP,YQ,YR,un1,shOk,eqL,eq1,fillL,putAt,IHeap.load1,IHeap.loadL,IHeap.storeL,YS,YT,YU,YV,YW,YX,YY,YZ,B0,B1,B2,B3,B4,B5,B6,B7,B8,B9,Ba,Bb,Bc,Bd,Be,Bf,Bg,Bh,Bi,Bj,Bk,Bl,Bm, c_usage_Usage_Dead]
  refine call_of (Tdead_ok c hc (s := s) (n := n) h hl ho fun H1 u1 i1 => ?_)
  simp -implicitDefEqProofs [J0,J1,J2,J3,J4,J5,J6,J7,J8,J9,Ja,Jb,Jc,Jd,Je,Jf,Jg,Jh,Ji,Jj,Jk,Jl,Jm,Jn,Jo,Jp,Jq,Jr,Js,Jt,Ju,Jv,Jw,Jx,Jy,Jz,JA,JB,JC,JD,JE,JF,JG,JH,JI,JJ,JK,JL,JM,JN,JO,JP,stillI,IOp.kind,JQ,JR,JS,JT,JU,JV,JW,JX,JY,JZ,Y0,Y1,Y2,Y3,Y4,Y5,Y6,Y7,Y8,Y9,Ya,Yb,Yc,Yd,Ye,Yf,Yg,Yh,Yi,Yj,Yk,Yl,Ym,Yn,ial,Yo,Yp,Yq,Yr,Ys,Yt,Yu,Yv,ires,iresL,ires1,Yw,Yx,Yy,Yz,YA,YB,bin2,YC,YD,YE,YF,YG,YH,YI,YJ,YK,YL,YM,YN,YO,YP,YQ,YR,un1,shOk,eqL,eq1,fillL,putAt,IHeap.load1,IHeap.loadL,IHeap.storeL,YS,YT,YU,YV,YW,YX,YY,YZ,B0,B1,B2,B3,B4,B5,B6,B7,B8,B9,Ba,Bb,Bc,Bd,Be,Bf,Bg,Bh,Bi,Bj,Bk,Bl,Bm]
  refine call_of (errno_ok c hc hE (deadT_code L s n) fun H2 k2 => ?_)
  simp -implicitDefEqProofs [J0,J1,J2,J3,J4,J5,J6,J7,J8,J9,Ja,Jb,Jc,Jd,Je,Jf,Jg,Jh,Ji,Jj,Jk,Jl,Jm,Jn,Jo,Jp,Jq,Jr,Js,Jt,Ju,Jv,Jw,Jx,Jy,Jz,JA,JB,JC,JD,JE,JF,JG,JH,JI,JJ,JK,JL,JM,JN,JO,JP,stillI,IOp.kind,JQ,JR,JS,JT,JU,JV,JW,JX,JY,JZ,Y0,Y1,Y2,Y3,Y4,Y5,Y6,Y7,Y8,Y9,Ya,Yb,Yc,Yd,Ye,Yf,Yg,Yh,Yi,Yj,Yk,Yl,Ym,Yn,ial,Yo,Yp,Yq,Yr,Ys,Yt,Yu,Yv,ires,iresL,ires1,Yw,Yx,Yy,Yz,YA,YB,bin2,YC,YD,YE,YF,YG,YH,YI,YJ,YK,YL,YM,YN,YO,YP,YQ,YR,un1,shOk,eqL,eq1,fillL,putAt,IHeap.load1,IHeap.loadL,IHeap.storeL,YS,YT,YU,YV,YW,YX,YY,YZ,B0,B1,B2,B3,B4,B5,B6,B7,B8,B9,Ba,Bb,Bc,Bd,Be,Bf,Bg,Bh,Bi,Bj,Bk,Bl,Bm]
  exact hK _ (u1.keepTrans (k2.keep (Nat.le_refl _)) u1.next) (i1.le k2)

include hc in
theorem TDrop_ok {p q : Nat} {L : List UseD} {s : Int} (h : IsT H p q L) (hl : L.length ≤ 1000000)
    (hK : ∀ H', IHeap.upd [p, q] H H' → IsT H' p q (dropT L s).1 → K (.bool (dropT L s).2) H') :
    c.C (c.F n_usage_Usage_Drop) [.pointer (some ⟨p, 0, none⟩), .int .i64 s] H K := by
  refine c.enter hc.usage_Usage_Drop rfl ?_
  unfold dropT at hK
  simp -implicitDefEqProofs [J0,J1,J2,J3,J4,J5,J6,J7,J8,J9,Ja,Jb,Jc,Jd,Je,Jf,Jg,Jh,Ji,Jj,Jk,Jl,Jm,Jn,Jo,Jp,Jq,Jr,Js,Jt,Ju,Jv,Jw,Jx,Jy,Jz,JA,JB,JC,JD,JE,JF,JG,JH,JI,JJ,JK,JL,JM,JN,JO,JP,stillI,IOp.kind,JQ,JR,JS,JT,JU,JV,JW,JX,JY,JZ,Y0,Y1,Y2,Y3,Y4,Y5,Y6,Y7,Y8,Y9,Ya,Yb,Yc,Yd,Ye,Yf,Yg,Yh,Yi,Yj,Yk,Yl,Ym,Yn,ial,Yo,Yp,Yq,Yr,Ys,Yt,Yu,Yv,ires,iresL,ires1,Yw,Yx,Yy,Yz,YA,YB,bin2,YC,YD,YE,YF,YG,YH,YI,YJ,YK,YL,YM,YN,YO,YP,YQ,YR,un1,shOk,eqL,eq1,fillL,putAt,IHeap.load1,IHeap.loadL,IHeap.storeL,YS,YT,YU,YV,YW,YX,YY,YZ,B0,B1,B2,B3,B4,B5,B6,B7,B8,B9,Ba,Bb,Bc,Bd,Be,Bf,Bg,Bh,Bi,Bj,Bk,Bl,Bm, c_usage_Usage_Drop, nilOf]
  refine call_of (Tfind_ok c hc (s := s) h hl fun H1 k1 => ?_)
  have h1 := h.le k1
  cases ht : thereT L s with
  | false =>
    rw [if_neg (by rw [ht]; simp)] at hK
    simp -implicitDefEqProofs [J0,J1,J2,J3,J4,J5,J6,J7,J8,J9,Ja,Jb,Jc,Jd,Je,Jf,Jg,Jh,Ji,Jj,Jk,Jl,Jm,Jn,Jo,Jp,Jq,Jr,Js,Jt,Ju,Jv,Jw,Jx,Jy,Jz,JA,JB,JC,JD,JE,JF,JG,JH,JI,JJ,JK,JL,JM,JN,JO,JP,stillI,IOp.kind,JQ,JR,JS,JT,JU,JV,JW,JX,JY,JZ,Y0,Y1,Y2,Y3,Y4,Y5,Y6,Y7,Y8,Y9,Ya,Yb,Yc,Yd,Ye,Yf,Yg,Yh,Yi,Yj,Yk,Yl,Ym,Yn,ial,Yo,Yp,Yq,Yr,Ys,Yt,Yu,Yv,ires,iresL,ires1,Yw,Yx,Yy,Yz,YA,YB,bin2,YC,YD,YE,YF,YG,YH,YI,YJ,YK,YL,YM,YN,YO,YP,YQ,YR,un1,shOk,eqL,eq1,fillL,putAt,IHeap.load1,IHeap.loadL,IHeap.storeL,YS,YT,YU,YV,YW,YX,YY,YZ,B0,B1,B2,B3,B4,B5,B6,B7,B8,B9,Ba,Bb,Bc,Bd,Be,Bf,Bg,Bh,Bi,Bj,Bk,Bl,Bm]
    exact hK _ (k1.upd _) h1
  | true =>
    rw [if_pos ht] at hK
    obtain ⟨x, hat, hxs⟩ := thereT_at ht
    obtain ⟨hlt, _⟩ := List.getElem?_eq_some_iff.1 hat
    obtain ⟨u, g1, g2⟩ := h1.rep
    obtain ⟨i, hi⟩ : ∃ i, i = posT s L := ⟨_, rfl⟩
    rw [← hi] at hat hlt hK ⊢
    have hdel := fun {X : IHeap} (hv : VS X q u (L.map rowT)) K2 hk => Delete_ok c hc (K := K2) (i := i) hv (rowT_four _) (rowT_one _) (by rw [List.length_map]; exact hlt) (by rw [List.length_map]; exact hl) hk
    have hw : IntKind.i64.wrap ((i : Int) + 1) = (i : Int) + 1 := wrap64 (by omega) (by omega)
    simp -implicitDefEqProofs [J0,J1,J2,J3,J4,J5,J6,J7,J8,J9,Ja,Jb,Jc,Jd,Je,Jf,Jg,Jh,Ji,Jj,Jk,Jl,Jm,Jn,Jo,Jp,Jq,Jr,Js,Jt,Ju,Jv,Jw,Jx,Jy,Jz,JA,JB,JC,JD,JE,JF,JG,JH,JI,JJ,JK,JL,JM,JN,JO,JP,stillI,IOp.kind,JQ,JR,JS,JT,JU,JV,JW,JX,JY,JZ,Y0,Y1,Y2,Y3,Y4,Y5,Y6,Y7,Y8,Y9,Ya,Yb,Yc,Yd,Ye,Yf,Yg,Yh,Yi,Yj,Yk,Yl,Ym,Yn,ial,Yo,Yp,Yq,Yr,Ys,Yt,Yu,Yv,ires,iresL,ires1,Yw,Yx,Yy,Yz,YA,YB,bin2,YC,YD,YE,YF,YG,YH,YI,YJ,YK,YL,YM,YN,YO,YP,YQ,YR,un1,shOk,eqL,eq1,fillL,putAt,IHeap.load1,IHeap.loadL,IHeap.storeL,YS,YT,YU,YV,YW,YX,YY,YZ,B0,B1,B2,B3,B4,B5,B6,B7,B8,B9,Ba,Bb,Bc,Bd,Be,Bf,Bg,Bh,Bi,Bj,Bk,Bl,Bm, nilOf, g1, hw]
    refine call_of (hdel g2 _ fun v H2 u2 vs2 => ?_)
    have gp2 := (u2.get p h1.lt (by simpa using h.ne)).trans g1
    obtain ⟨av, cv, ev⟩ := vs2.lenv
    subst ev
    have hu1 : one1 u = true := by obtain ⟨_, _, e⟩ := g2.lenv; rw [e]; rfl
    simp -implicitDefEqProofs [J0,J1,J2,J3,J4,J5,J6,J7,J8,J9,Ja,Jb,Jc,Jd,Je,Jf,Jg,Jh,Ji,Jj,Jk,Jl,Jm,Jn,Jo,Jp,Jq,Jr,Js,Jt,Ju,Jv,Jw,Jx,Jy,Jz,JA,JB,JC,JD,JE,JF,JG,JH,JI,JJ,JK,JL,JM,JN,JO,JP,stillI,IOp.kind,JQ,JR,JS,JT,JU,JV,JW,JX,JY,JZ,Y0,Y1,Y2,Y3,Y4,Y5,Y6,Y7,Y8,Y9,Ya,Yb,Yc,Yd,Ye,Yf,Yg,Yh,Yi,Yj,Yk,Yl,Ym,Yn,ial,Yo,Yp,Yq,Yr,Ys,Yt,Yu,Yv,ires,iresL,ires1,Yw,Yx,Yy,Yz,YA,YB,bin2,YC,YD,YE,YF,YG,YH,YI,YJ,YK,YL,YM,YN,YO,YP,YQ,YR,un1,shOk,eqL,eq1,fillL,putAt,IHeap.load1,IHeap.loadL,IHeap.storeL,YS,YT,YU,YV,YW,YX,YY,YZ,B0,B1,B2,B3,B4,B5,B6,B7,B8,B9,Ba,Bb,Bc,Bd,Be,Bf,Bg,Bh,Bi,Bj,Bk,Bl,Bm, nilOf, gp2, hu1]
    have up2 : IHeap.upd [p, q] H H2 := k1.updTrans ⟨u2.next, fun b hb hn => u2.get b hb fun hm => hn (List.mem_cons_of_mem _ hm)⟩
    have e1 : (L.map rowT).eraseIdx i = (L.eraseIdx i).map rowT := by rw [List.eraseIdx_eq_take_drop_succ, List.eraseIdx_eq_take_drop_succ, List.map_append, List.map_take, List.map_drop]
    rw [e1] at vs2 ⊢
    exact hK _ (up2.set (.inr (by simp)) _) ⟨by simp only [YV]; have := h1.lt; have := u2.next; omega, h.ne, ⟨_, by rw [YT, if_pos rfl], vs2.upd ((IHeap.upd_refl [p] _).set (.inr (by simp)) _) (by simpa using Ne.symm h.ne)⟩, h.sorted.sublist (List.eraseIdx_sublist _ _)⟩

omit hE hI in
theorem prod_b {D A : Int} (h1 : 0 ≤ D) (h2 : D ≤ 65536) (h3 : 1 ≤ A) (h4 : A ≤ 1000001) : 0 ≤ D * A ∧ D * A ≤ 65536065536 := by
  refine ⟨Int.mul_nonneg h1 (by omega), ?_⟩
  have := Int.mul_le_mul h2 h4 (by omega) (by omega)
  omega

include hc in
theorem TScore_ok {x : UseD} {now : Int} (hnow : now < 9223372036854775808) (hK : ∀ H', H.le H' → K (.int .i64 (scoreT x now)) H') :
    c.C (c.F n_usage_Score) [uV x, .int .i64 now] H K := by
  refine c.enter hc.usage_Score rfl ?_
  obtain ⟨HA, hHA⟩ : ∃ X : IHeap, X = H.alloc (.cells [.int .i64 x.seg, .int .i64 x.size, .int .i64 x.live, .int .i64 x.born] false) := ⟨_, rfl⟩
  have kA : H.le HA := by rw [hHA]; exact H.le_alloc _
  have nA : HA.next = H.next + 1 := by rw [hHA]; rfl
  have gA : HA.get H.next = some (.cells [.int .i64 x.seg, .int .i64 x.size, .int .i64 x.live, .int .i64 x.born] false) := by rw [hHA, YS, if_pos rfl]
  simp -implicitDefEqProofs [J0,J1,J2,J3,J4,J5,J6,J7,J8,J9,Ja,Jb,Jc,Jd,Je,Jf,Jg,Jh,Ji,Jj,Jk,Jl,Jm,Jn,Jo,Jp,Jq,Jr,Js,Jt,Ju,Jv,Jw,Jx,Jy,Jz,JA,JB,JC,JD,JE,JF,JG,JH,JI,JJ,JK,JL,JM,JN,JO,JP,stillI,IOp.kind,JQ,JR,JS,JT,JU,JV,JW,JX,JY,JZ,Y0,Y1,Y2,Y3,Y4,Y5,Y6,Y7,Y8,Y9,Ya,Yb,Yc,Yd,Ye,Yf,Yg,Yh,Yi,Yj,Yk,Yl,Ym,Yn,ial,Yo,Yp,Yq,Yr,Ys,Yt,Yu,Yv,ires,iresL,ires1,Yw,Yx,Yy,Yz,YA,YB,bin2,YC,YD,YE,YF,YG,YH,YI,YJ,YK,YL,YM,YN,YO,YP,YQ,YR,un1,shOk,eqL,eq1,fillL,putAt,IHeap.load1,IHeap.loadL,IHeap.storeL,YS,YT,YU,YV,YW,YX,YY,YZ,B0,B1,B2,B3,B4,B5,B6,B7,B8,B9,Ba,Bb,Bc,Bd,Be,Bf,Bg,Bh,Bi,Bj,Bk,Bl,Bm, c_usage_Score, uV, ← hHA, gA]
  refine call_of (Tmay_ok c hc (x := x) fun H1 k1 => ?_)
  have g1 := (k1.get H.next (by omega)).trans gA
  have k01 := hK _ (kA.trans k1)
  unfold scoreT at k01
  cases hm : mayT x with
  | false =>
    rw [if_neg (by rw [hm]; simp)] at k01
    simp -implicitDefEqProofs [J0,J1,J2,J3,J4,J5,J6,J7,J8,J9,Ja,Jb,Jc,Jd,Je,Jf,Jg,Jh,Ji,Jj,Jk,Jl,Jm,Jn,Jo,Jp,Jq,Jr,Js,Jt,Ju,Jv,Jw,Jx,Jy,Jz,JA,JB,JC,JD,JE,JF,JG,JH,JI,JJ,JK,JL,JM,JN,JO,JP,stillI,IOp.kind,JQ,JR,JS,JT,JU,JV,JW,JX,JY,JZ,Y0,Y1,Y2,Y3,Y4,Y5,Y6,Y7,Y8,Y9,Ya,Yb,Yc,Yd,Ye,Yf,Yg,Yh,Yi,Yj,Yk,Yl,Ym,Yn,ial,Yo,Yp,Yq,Yr,Ys,Yt,Yu,Yv,ires,iresL,ires1,Yw,Yx,Yy,Yz,YA,YB,bin2,YC,YD,YE,YF,YG,YH,YI,YJ,YK,YL,YM,YN,YO,YP,YQ,YR,un1,shOk,eqL,eq1,fillL,putAt,IHeap.load1,IHeap.loadL,IHeap.storeL,YS,YT,YU,YV,YW,YX,YY,YZ,B0,B1,B2,B3,B4,B5,B6,B7,B8,B9,Ba,Bb,Bc,Bd,Be,Bf,Bg,Bh,Bi,Bj,Bk,Bl,Bm]
    exact k01
  | true =>
    rw [if_pos hm] at k01
    obtain ⟨b1, b2, b3, b4, b5, b6⟩ := okT_b hm
    obtain ⟨a1, a2⟩ := ageT_b x now
    have key : ∀ A : Int, A = ageT x now → K (.int .i64 ((x.size - x.live) * (A + 1) * 1000 / (x.size + x.live))) H1 := fun A hA => by rw [hA]; exact k01
    obtain ⟨D, hD⟩ : ∃ D, D = x.size - x.live := ⟨_, rfl⟩
    obtain ⟨S, hS⟩ : ∃ S, S = x.size + x.live := ⟨_, rfl⟩
    have wD : IntKind.i64.wrap (x.size - x.live) = D := by rw [wrap64 (by omega) (by omega), hD]
    have wS : IntKind.i64.wrap (x.size + x.live) = S := by rw [wrap64 (by omega) (by omega), hS]
    have hS0 : ¬ S = 0 := by omega
    rw [← hD, ← hS] at key
    have facts : ∀ A : Int, 0 ≤ A → A ≤ 1000000 → IntKind.i64.wrap (A + 1) = A + 1 ∧ IntKind.i64.wrap (D * (A + 1)) = D * (A + 1) ∧ IntKind.i64.wrap (D * (A + 1) * 1000) = D * (A + 1) * 1000 ∧ Int.tdiv (D * (A + 1) * 1000) S = D * (A + 1) * 1000 / S ∧ IntKind.i64.wrap (D * (A + 1) * 1000 / S) = D * (A + 1) * 1000 / S := by
      intro A h1 h2
      obtain ⟨p1, p2⟩ := prod_b (D := D) (A := A + 1) (by omega) (by omega) (by omega) (by omega)
      obtain ⟨M, hM⟩ : ∃ M, M = D * (A + 1) := ⟨_, rfl⟩
      rw [← hM] at p1 p2 ⊢
      have d1 : 0 ≤ M * 1000 / S := Int.ediv_nonneg (by omega) (by omega)
      have d2 : M * 1000 / S ≤ M * 1000 := Int.ediv_le_self _ (by omega)
      exact ⟨wrap64 (by omega) (by omega), wrap64 (by omega) (by omega), wrap64 (by omega) (by omega), Int.tdiv_eq_ediv_of_nonneg (by omega), wrap64 (by omega) (by omega)⟩
    by_cases hb : x.born < now
    · have wn : IntKind.i64.wrap (now - x.born) = now - x.born := wrap64 (by omega) (by omega)
      by_cases hm2 : 1000000 < now - x.born
      · have hage : ageT x now = 1000000 := by rw [ageT, if_pos hb, if_pos hm2]
        obtain ⟨f1, f2, f3, f4, f5⟩ := facts 1000000 (by omega) (by omega)
        have kk := key 1000000 hage.symm
        simp only [Int.reduceAdd] at f1 f2 f3 f4 f5 kk
        simp -implicitDefEqProofs [J0,J1,J2,J3,J4,J5,J6,J7,J8,J9,Ja,Jb,Jc,Jd,Je,Jf,Jg,Jh,Ji,Jj,Jk,Jl,Jm,Jn,Jo,Jp,Jq,Jr,Js,Jt,Ju,Jv,Jw,Jx,Jy,Jz,JA,JB,JC,JD,JE,JF,JG,JH,JI,JJ,JK,JL,JM,JN,JO,JP,stillI,IOp.kind,JQ,JR,JS,JT,JU,JV,JW,JX,JY,JZ,Y0,Y1,Y2,Y3,Y4,Y5,Y6,Y7,Y8,Y9,Ya,Yb,Yc,Yd,Ye,Yf,Yg,Yh,Yi,Yj,Yk,Yl,Ym,Yn,ial,Yo,Yp,Yq,Yr,Ys,Yt,Yu,Yv,ires,iresL,ires1,Yw,Yx,Yy,Yz,YA,YB,bin2,YC,YD,YE,YF,YG,YH,YI,YJ,YK,YL,YM,YN,YO,YP,YQ,YR,un1,shOk,eqL,eq1,fillL,putAt,IHeap.load1,IHeap.loadL,IHeap.storeL,YS,YT,YU,YV,YW,YX,YY,YZ,B0,B1,B2,B3,B4,B5,B6,B7,B8,B9,Ba,Bb,Bc,Bd,Be,Bf,Bg,Bh,Bi,Bj,Bk,Bl,Bm, g1, hb, wn, hm2, wD, wS, f1, f2, f3, hS0, f4, f5]
        exact kk
      · have hage : ageT x now = now - x.born := by rw [ageT, if_pos hb, if_neg hm2]
        obtain ⟨A, hA⟩ : ∃ A, A = now - x.born := ⟨_, rfl⟩
        rw [← hA] at hm2 hage
        have wn : IntKind.i64.wrap (now - x.born) = A := by rw [wn, hA]
        obtain ⟨f1, f2, f3, f4, f5⟩ := facts A (by omega) (by omega)
        have kk := key A hage.symm
        simp -implicitDefEqProofs [J0,J1,J2,J3,J4,J5,J6,J7,J8,J9,Ja,Jb,Jc,Jd,Je,Jf,Jg,Jh,Ji,Jj,Jk,Jl,Jm,Jn,Jo,Jp,Jq,Jr,Js,Jt,Ju,Jv,Jw,Jx,Jy,Jz,JA,JB,JC,JD,JE,JF,JG,JH,JI,JJ,JK,JL,JM,JN,JO,JP,stillI,IOp.kind,JQ,JR,JS,JT,JU,JV,JW,JX,JY,JZ,Y0,Y1,Y2,Y3,Y4,Y5,Y6,Y7,Y8,Y9,Ya,Yb,Yc,Yd,Ye,Yf,Yg,Yh,Yi,Yj,Yk,Yl,Ym,Yn,ial,Yo,Yp,Yq,Yr,Ys,Yt,Yu,Yv,ires,iresL,ires1,Yw,Yx,Yy,Yz,YA,YB,bin2,YC,YD,YE,YF,YG,YH,YI,YJ,YK,YL,YM,YN,YO,YP,YQ,YR,un1,shOk,eqL,eq1,fillL,putAt,IHeap.load1,IHeap.loadL,IHeap.storeL,YS,YT,YU,YV,YW,YX,YY,YZ,B0,B1,B2,B3,B4,B5,B6,B7,B8,B9,Ba,Bb,Bc,Bd,Be,Bf,Bg,Bh,Bi,Bj,Bk,Bl,Bm, g1, hb, wn, hm2, wD, wS, f1, f2, f3, hS0, f4, f5]
        exact kk
    · have hage : ageT x now = 0 := by rw [ageT, if_neg hb]
      obtain ⟨f1, f2, f3, f4, f5⟩ := facts 0 (by omega) (by omega)
      have kk := key 0 hage.symm
      simp only [Int.zero_add, Int.mul_one] at f1 f2 f3 f4 f5 kk
      simp -implicitDefEqProofs [J0,J1,J2,J3,J4,J5,J6,J7,J8,J9,Ja,Jb,Jc,Jd,Je,Jf,Jg,Jh,Ji,Jj,Jk,Jl,Jm,Jn,Jo,Jp,Jq,Jr,Js,Jt,Ju,Jv,Jw,Jx,Jy,Jz,JA,JB,JC,JD,JE,JF,JG,JH,JI,JJ,JK,JL,JM,JN,JO,JP,stillI,IOp.kind,JQ,JR,JS,JT,JU,JV,JW,JX,JY,JZ,Y0,Y1,Y2,Y3,Y4,Y5,Y6,Y7,Y8,Y9,Ya,Yb,Yc,Yd,Ye,Yf,Yg,Yh,Yi,Yj,Yk,Yl,Ym,Yn,ial,Yo,Yp,Yq,Yr,Ys,Yt,Yu,Yv,ires,iresL,ires1,Yw,Yx,Yy,Yz,YA,YB,bin2,YC,YD,YE,YF,YG,YH,YI,YJ,YK,YL,YM,YN,YO,YP,YQ,YR,un1,shOk,eqL,eq1,fillL,putAt,IHeap.load1,IHeap.loadL,IHeap.storeL,YS,YT,YU,YV,YW,YX,YY,YZ,B0,B1,B2,B3,B4,B5,B6,B7,B8,B9,Ba,Bb,Bc,Bd,Be,Bf,Bg,Bh,Bi,Bj,Bk,Bl,Bm, g1, hb, wD, wS, f1, f2, f3, hS0, f4, f5]
      exact kk

end
end Go.Proofs.YtdfjicnjcibdaaaI
