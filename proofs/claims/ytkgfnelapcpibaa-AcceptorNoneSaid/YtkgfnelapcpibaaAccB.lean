/- Who accepts: the small functions. -/
import Derived.Test.YtkgfnelapcpibaaAccA
namespace Go.Proofs.YtkgfnelapcpibaaI
set_option linter.unusedSimpArgs false
set_option linter.unusedVariables false
open Go

def Fresh (n : Nat) (v : Value) : Prop := ∀ b o m c, v = .slice (some ⟨b, o, none⟩) m c → n ≤ b
theorem Fresh.nil (n : Nat) : Fresh n (.slice none 0 0) := fun b o m c e => by simp at e
theorem Fresh.weak {n m : Nat} {v : Value} (h : Fresh m v) (hn : n ≤ m) : Fresh n v := fun b o x c e => Nat.le_trans hn (h b o x c e)

section
variable (c : Ctx) (hc : HasAcc c) (hB : HasBalA c) {H : IHeap} {K : Value → IHeap → Prop}

include hc in
theorem Clone4_ok {rows : List (List Value)} {u : Value} (hs : SlW H 4 u rows) (h4 : ∀ r ∈ rows, r.length = 4) (hone : rows.flatten.all one1 = true) (hl : rows.length ≤ 1000000)
    (hK : ∀ v' H', H.le H' → SlW H' 4 v' rows → Fresh H.next v' → K v' H') : c.C (c.F n_slices_Clone_api_Vote_api_Vote) [u] H K := by
  refine c.enter hc.slices_Clone_api_Vote_api_Vote rfl ?_
  have hs2 := hs
  obtain ⟨a, cap, rfl⟩ := hs.len
  have hf := hs2.first (by omega)
  cases a with
  | none =>
    have hl0 : rows = [] := by
      obtain ⟨⟨a', cap', e, h2⟩, _⟩ := hs2
      refine Classical.byContradiction fun hne => ?_
      obtain ⟨b, o, cs, ro, e2, _⟩ := h2 hne
      rw [e2] at e; simp at e
    subst hl0
    simp -implicitDefEqProofs [J0,J1,J2,J3,J4,J5,J6,J7,J8,J9,Ja,Jb,Jc,Jd,Je,Jf,Jg,Jh,Ji,Jj,Jk,Jl,Jm,Jn,Jo,Jp,Jq,Jr,Js,Jt,Ju,Jv,Jw,Jx,Jy,Jz,JA,JB,JC,JD,JE,JF,JG,JH,JI,JJ,JK,JL,JM,JN,JO,JP,stillI,IOp.kind,JQ,JR,JS,JT,JU,JV,JW,JX,JY,JZ,Y0,Y1,Y2,Y3,Y4,Y5,Y6,Y7,Y8,Y9,Ya,Yb,Yc,Yd,Ye,Yf,Yg,Yh,Yi,Yj,Yk,Yl,Ym,Yn,ial,Yo,Yp,Yq,Yr,Ys,Yt,Yu,Yv,ires,iresL,ires1,Yw,Yx,Yy,Yz,YA,YB,bin2,YC,YD,YE,YF,YG,YH,YI,YJ,YK,YL,YM,YN,YO,YP,YQ,YR,un1,shOk,eqL,eq1,fillL,putAt,IHeap.load1,IHeap.loadL,IHeap.storeL,YS,YT,YU,YV,YW,YX,YY,YZ,B0,B1,B2,B3,B4,B5,B6,B7,B8,B9,Ba,Bb,Bc,Bd,Be,Bf,Bg,Bh,Bi,Bj,Bk,Bl,Bm, c_slices_Clone_api_Vote_api_Vote, nilOf]
    exact hK _ _ (IHeap.le_refl _) (SlW.nil H 4) (Fresh.nil _)
  | some ad =>
    have hb : ad.spot = none := by
      obtain ⟨_, a'', cap'', e, ha, _⟩ := hs2
      simp only [Value.slice.injEq] at e
      obtain ⟨rfl, -, rfl⟩ := e
      rcases ha with h | ⟨b, o, h⟩
      · simp at h
      · simp only [Option.some.injEq] at h; rw [h]
    obtain ⟨b, o, sp⟩ := ad
    simp only at hb
    subst hb
    have kA := H.le_alloc (.cells [] false)
    have hf2 : firstI (H.alloc (.cells [] false)) 4 rows.length (.slice (some ⟨b, o, none⟩) rows.length cap) = some rows.flatten := (hs2.le kA).first (by omega)
    have tg : Tight (H.alloc (.cells [] false)) 4 (.slice (some ⟨H.next, 0, none⟩) 0 0) [] := ⟨by simp, H.next, 0, [], false, by simp [YU], by unfold UNK; simp, rfl, by rw [YS, if_pos rfl], by simp, by simp⟩
    have fr : Fresh H.next (.slice (some ⟨H.next, 0, none⟩) 0 0) := fun b o m c e => by
      simp only [Value.slice.injEq, Option.some.injEq, Addr.mk.injEq] at e
      omega
    by_cases hl0 : rows = []
    · subst hl0
      have e0 := appendI_zero (bytes := 40) (B := H.next) (.inr (.inl tg)) (by omega) (by omega) (by simp) (by simp)
      simp only [List.length_nil, List.flatten_nil] at hf2 e0
      simp -implicitDefEqProofs [J0,J1,J2,J3,J4,J5,J6,J7,J8,J9,Ja,Jb,Jc,Jd,Je,Jf,Jg,Jh,Ji,Jj,Jk,Jl,Jm,Jn,Jo,Jp,Jq,Jr,Js,Jt,Ju,Jv,Jw,Jx,Jy,Jz,JA,JB,JC,JD,JE,JF,JG,JH,JI,JJ,JK,JL,JM,JN,JO,JP,stillI,IOp.kind,JQ,JR,JS,JT,JU,JV,JW,JX,JY,JZ,Y0,Y1,Y2,Y3,Y4,Y5,Y6,Y7,Y8,Y9,Ya,Yb,Yc,Yd,Ye,Yf,Yg,Yh,Yi,Yj,Yk,Yl,Ym,Yn,ial,Yo,Yp,Yq,Yr,Ys,Yt,Yu,Yv,ires,iresL,ires1,Yw,Yx,Yy,Yz,YA,YB,bin2,YC,YD,YE,YF,YG,YH,YI,YJ,YK,YL,YM,YN,YO,YP,YQ,YR,un1,shOk,eqL,eq1,fillL,putAt,IHeap.load1,IHeap.loadL,IHeap.storeL,YS,YT,YU,YV,YW,YX,YY,YZ,B0,B1,B2,B3,B4,B5,B6,B7,B8,B9,Ba,Bb,Bc,Bd,Be,Bf,Bg,Bh,Bi,Bj,Bk,Bl,Bm, c_slices_Clone_api_Vote_api_Vote, nilOf, lenOfI, hf2, e0]
      exact hK _ _ kA tg.slw fr
    · obtain ⟨v', H', e1, e2, e3⟩ := Buf.append (bytes := 40) (B := H.next) (new := rows) (.inr (.inl tg)) (by simp [YU]) (by omega) (by omega) (by simp; omega) (by simp; omega) h4 hone hl0
      rw [List.nil_append] at e2
      have k3 : H.le H' := (kA.keep (Nat.le_refl _) |>.trans e3).le (Nat.le_refl _)
      obtain ⟨cs, hcs⟩ : ∃ cs, cs = rows.flatten := ⟨_, rfl⟩
      rw [← hcs] at hf2 e1
      simp -implicitDefEqProofs [J0,J1,J2,J3,J4,J5,J6,J7,J8,J9,Ja,Jb,Jc,Jd,Je,Jf,Jg,Jh,Ji,Jj,Jk,Jl,Jm,Jn,Jo,Jp,Jq,Jr,Js,Jt,Ju,Jv,Jw,Jx,Jy,Jz,JA,JB,JC,JD,JE,JF,JG,JH,JI,JJ,JK,JL,JM,JN,JO,JP,stillI,IOp.kind,JQ,JR,JS,JT,JU,JV,JW,JX,JY,JZ,Y0,Y1,Y2,Y3,Y4,Y5,Y6,Y7,Y8,Y9,Ya,Yb,Yc,Yd,Ye,Yf,Yg,Yh,Yi,Yj,Yk,Yl,Ym,Yn,ial,Yo,Yp,Yq,Yr,Ys,Yt,Yu,Yv,ires,iresL,ires1,Yw,Yx,Yy,Yz,YA,YB,bin2,YC,YD,YE,YF,YG,YH,YI,YJ,YK,YL,YM,YN,YO,YP,YQ,YR,un1,shOk,eqL,eq1,fillL,putAt,IHeap.load1,IHeap.loadL,IHeap.storeL,YS,YT,YU,YV,YW,YX,YY,YZ,B0,B1,B2,B3,B4,B5,B6,B7,B8,B9,Ba,Bb,Bc,Bd,Be,Bf,Bg,Bh,Bi,Bj,Bk,Bl,Bm, c_slices_Clone_api_Vote_api_Vote, nilOf, lenOfI, hf2, e1]
      refine hK _ _ k3 e2.slw fun b o m c e => ?_
      obtain ⟨_, blk, q1, q2, rfl, q4⟩ := e2
      simp only [Value.slice.injEq, Option.some.injEq, Addr.mk.injEq] at e
      omega

include hc in
theorem ANew_ok (hK : ∀ H', H.le H' → IsA H' H.next (H.next + 1) ⟨0, 0, 0, []⟩ → K (.pointer (some ⟨H.next, 0, none⟩)) H') : c.C (c.F n_acceptor_New) [] H K := by
  refine c.enter hc.acceptor_New rfl ?_
  simp -implicitDefEqProofs [J0,J1,J2,J3,J4,J5,J6,J7,J8,J9,Ja,Jb,Jc,Jd,Je,Jf,Jg,Jh,Ji,Jj,Jk,Jl,Jm,Jn,Jo,Jp,Jq,Jr,Js,Jt,Ju,Jv,Jw,Jx,Jy,Jz,JA,JB,JC,JD,JE,JF,JG,JH,JI,JJ,JK,JL,JM,JN,JO,JP,stillI,IOp.kind,JQ,JR,JS,JT,JU,JV,JW,JX,JY,JZ,Y0,Y1,Y2,Y3,Y4,Y5,Y6,Y7,Y8,Y9,Ya,Yb,Yc,Yd,Ye,Yf,Yg,Yh,Yi,Yj,Yk,Yl,Ym,Yn,ial,Yo,Yp,Yq,Yr,Ys,Yt,Yu,Yv,ires,iresL,ires1,Yw,Yx,Yy,Yz,YA,YB,bin2,YC,YD,YE,YF,YG,YH,YI,YJ,YK,YL,YM,YN,YO,YP,YQ,YR,un1,shOk,eqL,eq1,fillL,putAt,IHeap.load1,IHeap.loadL,IHeap.storeL,YS,YT,YU,YV,YW,YX,YY,YZ,B0,B1,B2,B3,B4,B5,B6,B7,B8,B9,Ba,Bb,Bc,Bd,Be,Bf,Bg,Bh,Bi,Bj,Bk,Bl,Bm, c_acceptor_New]
  exact hK _ (H.le_alloc _) ⟨by simp [YU], by omega, ⟨_, by rw [YS, if_pos rfl], .inl ⟨rfl, rfl⟩⟩, List.Pairwise.nil⟩

include hc in
theorem APromised_ok {p q : Nat} {A : Acc} (h : IsA H p q A) (hK : ∀ H', H.le H' → K (vB A.pa A.pn) H') : c.C (c.F n_acceptor_Acceptor_Promised) [.pointer (some ⟨p, 0, none⟩)] H K := by
  refine c.enter hc.acceptor_Acceptor_Promised rfl ?_
  obtain ⟨u, g1, g2⟩ := h.rep
  have hne : ¬ p = H.next := by have := h.lt; omega
  have k := (H.le_alloc (.cells [.int .i64 0, .int .i64 0] false)).set (i := H.next) (Nat.le_refl _) (.cells [.int .i64 A.pa, .int .i64 A.pn] false)
  simp -implicitDefEqProofs [J0,J1,J2,J3,J4,J5,J6,J7,J8,J9,Ja,Jb,Jc,Jd,Je,Jf,Jg,Jh,Ji,Jj,Jk,Jl,Jm,Jn,Jo,Jp,Jq,Jr,Js,Jt,Ju,Jv,Jw,Jx,Jy,Jz,JA,JB,JC,JD,JE,JF,JG,JH,JI,JJ,JK,JL,JM,JN,JO,JP,stillI,IOp.kind,JQ,JR,JS,JT,JU,JV,JW,JX,JY,JZ,Y0,Y1,Y2,Y3,Y4,Y5,Y6,Y7,Y8,Y9,Ya,Yb,Yc,Yd,Ye,Yf,Yg,Yh,Yi,Yj,Yk,Yl,Ym,Yn,ial,Yo,Yp,Yq,Yr,Ys,Yt,Yu,Yv,ires,iresL,ires1,Yw,Yx,Yy,Yz,YA,YB,bin2,YC,YD,YE,YF,YG,YH,YI,YJ,YK,YL,YM,YN,YO,YP,YQ,YR,un1,shOk,eqL,eq1,fillL,putAt,IHeap.load1,IHeap.loadL,IHeap.storeL,YS,YT,YU,YV,YW,YX,YY,YZ,B0,B1,B2,B3,B4,B5,B6,B7,B8,B9,Ba,Bb,Bc,Bd,Be,Bf,Bg,Bh,Bi,Bj,Bk,Bl,Bm, c_acceptor_Acceptor_Promised, nilOf, g1, hne]
  exact hK _ k

include hc in
theorem ABase_ok {p q : Nat} {A : Acc} (h : IsA H p q A) (hK : K (.int .i64 A.base) H) : c.C (c.F n_acceptor_Acceptor_Base) [.pointer (some ⟨p, 0, none⟩)] H K := by
  refine c.enter hc.acceptor_Acceptor_Base rfl ?_
  obtain ⟨u, g1, g2⟩ := h.rep
  simp -implicitDefEqProofs [J0,J1,J2,J3,J4,J5,J6,J7,J8,J9,Ja,Jb,Jc,Jd,Je,Jf,Jg,Jh,Ji,Jj,Jk,Jl,Jm,Jn,Jo,Jp,Jq,Jr,Js,Jt,Ju,Jv,Jw,Jx,Jy,Jz,JA,JB,JC,JD,JE,JF,JG,JH,JI,JJ,JK,JL,JM,JN,JO,JP,stillI,IOp.kind,JQ,JR,JS,JT,JU,JV,JW,JX,JY,JZ,Y0,Y1,Y2,Y3,Y4,Y5,Y6,Y7,Y8,Y9,Ya,Yb,Yc,Yd,Ye,Yf,Yg,Yh,Yi,Yj,Yk,Yl,Ym,Yn,ial,Yo,Yp,Yq,Yr,Ys,Yt,Yu,Yv,ires,iresL,ires1,Yw,Yx,Yy,Yz,YA,YB,bin2,YC,YD,YE,YF,YG,YH,YI,YJ,YK,YL,YM,YN,YO,YP,YQ,YR,un1,shOk,eqL,eq1,fillL,putAt,IHeap.load1,IHeap.loadL,IHeap.storeL,YS,YT,YU,YV,YW,YX,YY,YZ,B0,B1,B2,B3,B4,B5,B6,B7,B8,B9,Ba,Bb,Bc,Bd,Be,Bf,Bg,Bh,Bi,Bj,Bk,Bl,Bm, c_acceptor_Acceptor_Base, nilOf, g1]
  exact hK

include hc in
theorem AVotes_ok {p q : Nat} {A : Acc} {s : Int} (h : IsA H p q A) (hl : A.L.length ≤ 1000000) (hK : ∀ v' H', H.le H' → SlW H' 4 v' ((fromV A.L s).map rowV) → Fresh H.next v' → K v' H') :
    c.C (c.F n_acceptor_Acceptor_Votes) [.pointer (some ⟨p, 0, none⟩), .int .i64 s] H K := by
  refine c.enter hc.acceptor_Acceptor_Votes rfl ?_
  simp -implicitDefEqProofs [J0,J1,J2,J3,J4,J5,J6,J7,J8,J9,Ja,Jb,Jc,Jd,Je,Jf,Jg,Jh,Ji,Jj,Jk,Jl,Jm,Jn,Jo,Jp,Jq,Jr,Js,Jt,Ju,Jv,Jw,Jx,Jy,Jz,JA,JB,JC,JD,JE,JF,JG,JH,JI,JJ,JK,JL,JM,JN,JO,JP,stillI,IOp.kind,JQ,JR,JS,JT,JU,JV,JW,JX,JY,JZ,Y0,Y1,Y2,Y3,Y4,Y5,Y6,Y7,Y8,Y9,Ya,Yb,Yc,Yd,Ye,Yf,Yg,Yh,Yi,Yj,Yk,Yl,Ym,Yn,ial,Yo,Yp,Yq,Yr,Ys,Yt,Yu,Yv,ires,iresL,ires1,Yw,Yx,Yy,Yz,YA,YB,bin2,YC,YD,YE,YF,YG,YH,YI,YJ,YK,YL,YM,YN,YO,YP,YQ,YR,un1,shOk,eqL,eq1,fillL,putAt,IHeap.load1,IHeap.loadL,IHeap.storeL,YS,YT,YU,YV,YW,YX,YY,YZ,B0,B1,B2,B3,B4,B5,B6,B7,B8,B9,Ba,Bb,Bc,Bd,Be,Bf,Bg,Bh,Bi,Bj,Bk,Bl,Bm, c_acceptor_Acceptor_Votes, nilOf]
  refine call_of (find_ok c hc (s := s) h hl fun H1 k1 => ?_)
  have h1 := h.le k1
  obtain ⟨u, g1, g2⟩ := h1.rep
  have hw := g2.slw (rowV_four _)
  obtain ⟨a, cap, rfl⟩ := g2.lenv
  rw [List.length_map] at hw g1
  have hple := posV_le s A.L
  obtain ⟨v', hcut, hw2⟩ := hw.cut (i := posV s A.L) (j := A.L.length) (by omega) hple (by simp)
  have hrows : ((A.L.map rowV).drop (posV s A.L)).take (A.L.length - posV s A.L) = (fromV A.L s).map rowV := by
    rw [fromV_drop h.sorted, List.map_drop, List.take_of_length_le (by simp)]
  rw [hrows] at hw2
  simp -implicitDefEqProofs [J0,J1,J2,J3,J4,J5,J6,J7,J8,J9,Ja,Jb,Jc,Jd,Je,Jf,Jg,Jh,Ji,Jj,Jk,Jl,Jm,Jn,Jo,Jp,Jq,Jr,Js,Jt,Ju,Jv,Jw,Jx,Jy,Jz,JA,JB,JC,JD,JE,JF,JG,JH,JI,JJ,JK,JL,JM,JN,JO,JP,stillI,IOp.kind,JQ,JR,JS,JT,JU,JV,JW,JX,JY,JZ,Y0,Y1,Y2,Y3,Y4,Y5,Y6,Y7,Y8,Y9,Ya,Yb,Yc,Yd,Ye,Yf,Yg,Yh,Yi,Yj,Yk,Yl,Ym,Yn,ial,Yo,Yp,Yq,Yr,Ys,Yt,Yu,Yv,ires,iresL,ires1,Yw,Yx,Yy,Yz,YA,YB,bin2,YC,YD,YE,YF,YG,YH,YI,YJ,YK,YL,YM,YN,YO,YP,YQ,YR,un1,shOk,eqL,eq1,fillL,putAt,IHeap.load1,IHeap.loadL,IHeap.storeL,YS,YT,YU,YV,YW,YX,YY,YZ,B0,B1,B2,B3,B4,B5,B6,B7,B8,B9,Ba,Bb,Bc,Bd,Be,Bf,Bg,Bh,Bi,Bj,Bk,Bl,Bm, g1, boundsI, natI, hple, hcut]
  have hll : (fromV A.L s).length ≤ A.L.length := List.length_filter_le _ _
  refine call_of (Clone4_ok c hc hw2 (rowV_four _) (rowV_one _) (by rw [List.length_map]; omega) fun v2 H2 k2 s2 f2 => ?_)
  simp -implicitDefEqProofs [J0,J1,J2,J3,J4,J5,J6,J7,J8,J9,Ja,Jb,Jc,Jd,Je,Jf,Jg,Jh,Ji,Jj,Jk,Jl,Jm,Jn,Jo,Jp,Jq,Jr,Js,Jt,Ju,Jv,Jw,Jx,Jy,Jz,JA,JB,JC,JD,JE,JF,JG,JH,JI,JJ,JK,JL,JM,JN,JO,JP,stillI,IOp.kind,JQ,JR,JS,JT,JU,JV,JW,JX,JY,JZ,Y0,Y1,Y2,Y3,Y4,Y5,Y6,Y7,Y8,Y9,Ya,Yb,Yc,Yd,Ye,Yf,Yg,Yh,Yi,Yj,Yk,Yl,Ym,Yn,ial,Yo,Yp,Yq,Yr,Ys,Yt,Yu,Yv,ires,iresL,ires1,Yw,Yx,Yy,Yz,YA,YB,bin2,YC,YD,YE,YF,YG,YH,YI,YJ,YK,YL,YM,YN,YO,YP,YQ,YR,un1,shOk,eqL,eq1,fillL,putAt,IHeap.load1,IHeap.loadL,IHeap.storeL,YS,YT,YU,YV,YW,YX,YY,YZ,B0,B1,B2,B3,B4,B5,B6,B7,B8,B9,Ba,Bb,Bc,Bd,Be,Bf,Bg,Bh,Bi,Bj,Bk,Bl,Bm]
  exact hK _ _ (k1.trans k2) s2 (f2.weak k1.next)

include hc hB in
theorem Amay_ok {p q : Nat} {A : Acc} {a n : Int} (h : IsA H p q A) (hK : ∀ H', H.le H' → K (.bool (A.may a n)) H') : c.C (c.F n_acceptor_Acceptor_may) [.pointer (some ⟨p, 0, none⟩), vB a n] H K := by
  refine c.enter hc.acceptor_Acceptor_may rfl ?_
  have kA := H.le_alloc (.cells [.int .i64 a, .int .i64 n] false)
  have hne : ¬ p = H.next := by have := h.lt; omega
  obtain ⟨u, g1, g2⟩ := h.rep
  unfold Acc.may at hK
  simp -implicitDefEqProofs [J0,J1,J2,J3,J4,J5,J6,J7,J8,J9,Ja,Jb,Jc,Jd,Je,Jf,Jg,Jh,Ji,Jj,Jk,Jl,Jm,Jn,Jo,Jp,Jq,Jr,Js,Jt,Ju,Jv,Jw,Jx,Jy,Jz,JA,JB,JC,JD,JE,JF,JG,JH,JI,JJ,JK,JL,JM,JN,JO,JP,stillI,IOp.kind,JQ,JR,JS,JT,JU,JV,JW,JX,JY,JZ,Y0,Y1,Y2,Y3,Y4,Y5,Y6,Y7,Y8,Y9,Ya,Yb,Yc,Yd,Ye,Yf,Yg,Yh,Yi,Yj,Yk,Yl,Ym,Yn,ial,Yo,Yp,Yq,Yr,Ys,Yt,Yu,Yv,ires,iresL,ires1,Yw,Yx,Yy,Yz,YA,YB,bin2,YC,YD,YE,YF,YG,YH,YI,YJ,YK,YL,YM,YN,YO,YP,YQ,YR,un1,shOk,eqL,eq1,fillL,putAt,IHeap.load1,IHeap.loadL,IHeap.storeL,YS,YT,YU,YV,YW,YX,YY,YZ,B0,B1,B2,B3,B4,B5,B6,B7,B8,B9,Ba,Bb,Bc,Bd,Be,Bf,Bg,Bh,Bi,Bj,Bk,Bl,Bm, c_acceptor_Acceptor_may, vB, nilOf]
  refine dcall_of c.mono (Valid_ok c hB (a := a) (n := n) fun H1 k1 => ?_)
  have gx := (k1.get H.next (by simp [YU])).trans (by rw [YS, if_pos rfl])
  have gp := ((kA.trans k1).get p h.lt).trans g1
  cases hv : validB a n with
  | false =>
    rw [hv] at hK
    simp -implicitDefEqProofs [J0,J1,J2,J3,J4,J5,J6,J7,J8,J9,Ja,Jb,Jc,Jd,Je,Jf,Jg,Jh,Ji,Jj,Jk,Jl,Jm,Jn,Jo,Jp,Jq,Jr,Js,Jt,Ju,Jv,Jw,Jx,Jy,Jz,JA,JB,JC,JD,JE,JF,JG,JH,JI,JJ,JK,JL,JM,JN,JO,JP,stillI,IOp.kind,JQ,JR,JS,JT,JU,JV,JW,JX,JY,JZ,Y0,Y1,Y2,Y3,Y4,Y5,Y6,Y7,Y8,Y9,Ya,Yb,Yc,Yd,Ye,Yf,Yg,Yh,Yi,Yj,Yk,Yl,Ym,Yn,ial,Yo,Yp,Yq,Yr,Ys,Yt,Yu,Yv,ires,iresL,ires1,Yw,Yx,Yy,Yz,YA,YB,bin2,YC,YD,YE,YF,YG,YH,YI,YJ,YK,YL,YM,YN,YO,YP,YQ,YR,un1,shOk,eqL,eq1,fillL,putAt,IHeap.load1,IHeap.loadL,IHeap.storeL,YS,YT,YU,YV,YW,YX,YY,YZ,B0,B1,B2,B3,B4,B5,B6,B7,B8,B9,Ba,Bb,Bc,Bd,Be,Bf,Bg,Bh,Bi,Bj,Bk,Bl,Bm]
    exact hK _ (kA.trans k1)
  | true =>
    rw [hv] at hK
    simp -implicitDefEqProofs [J0,J1,J2,J3,J4,J5,J6,J7,J8,J9,Ja,Jb,Jc,Jd,Je,Jf,Jg,Jh,Ji,Jj,Jk,Jl,Jm,Jn,Jo,Jp,Jq,Jr,Js,Jt,Ju,Jv,Jw,Jx,Jy,Jz,JA,JB,JC,JD,JE,JF,JG,JH,JI,JJ,JK,JL,JM,JN,JO,JP,stillI,IOp.kind,JQ,JR,JS,JT,JU,JV,JW,JX,JY,JZ,Y0,Y1,Y2,Y3,Y4,Y5,Y6,Y7,Y8,Y9,Ya,Yb,Yc,Yd,Ye,Yf,Yg,Yh,Yi,Yj,Yk,Yl,Ym,Yn,ial,Yo,Yp,Yq,Yr,Ys,Yt,Yu,Yv,ires,iresL,ires1,Yw,Yx,Yy,Yz,YA,YB,bin2,YC,YD,YE,YF,YG,YH,YI,YJ,YK,YL,YM,YN,YO,YP,YQ,YR,un1,shOk,eqL,eq1,fillL,putAt,IHeap.load1,IHeap.loadL,IHeap.storeL,YS,YT,YU,YV,YW,YX,YY,YZ,B0,B1,B2,B3,B4,B5,B6,B7,B8,B9,Ba,Bb,Bc,Bd,Be,Bf,Bg,Bh,Bi,Bj,Bk,Bl,Bm, gx, gp]
    refine dcall_of c.mono (Cmp_ok c hB (a := a) (n := n) (b := A.pa) (m := A.pn) fun H2 k2 => ?_)
    simp -implicitDefEqProofs [J0,J1,J2,J3,J4,J5,J6,J7,J8,J9,Ja,Jb,Jc,Jd,Je,Jf,Jg,Jh,Ji,Jj,Jk,Jl,Jm,Jn,Jo,Jp,Jq,Jr,Js,Jt,Ju,Jv,Jw,Jx,Jy,Jz,JA,JB,JC,JD,JE,JF,JG,JH,JI,JJ,JK,JL,JM,JN,JO,JP,stillI,IOp.kind,JQ,JR,JS,JT,JU,JV,JW,JX,JY,JZ,Y0,Y1,Y2,Y3,Y4,Y5,Y6,Y7,Y8,Y9,Ya,Yb,Yc,Yd,Ye,Yf,Yg,Yh,Yi,Yj,Yk,Yl,Ym,Yn,ial,Yo,Yp,Yq,Yr,Ys,Yt,Yu,Yv,ires,iresL,ires1,Yw,Yx,Yy,Yz,YA,YB,bin2,YC,YD,YE,YF,YG,YH,YI,YJ,YK,YL,YM,YN,YO,YP,YQ,YR,un1,shOk,eqL,eq1,fillL,putAt,IHeap.load1,IHeap.loadL,IHeap.storeL,YS,YT,YU,YV,YW,YX,YY,YZ,B0,B1,B2,B3,B4,B5,B6,B7,B8,B9,Ba,Bb,Bc,Bd,Be,Bf,Bg,Bh,Bi,Bj,Bk,Bl,Bm]
    exact hK _ ((kA.trans k1).trans k2)

include hc hB in
theorem APromise_ok {p q : Nat} {A : Acc} {a n s : Int} (h : IsA H p q A) (hl : A.L.length ≤ 1000000)
    (hK : ∀ v' H', IHeap.upd [p] H H' → (∀ q, IsA H p q A → IsA H' p q (A.promise a n s).1) → SlW H' 4 v' ((A.promise a n s).2.1.map rowV) → Fresh H.next v' → K (.tuple #[v', .bool (A.promise a n s).2.2]) H') :
    c.C (c.F n_acceptor_Acceptor_Promise) [.pointer (some ⟨p, 0, none⟩), vB a n, .int .i64 s] H K := by
  refine c.enter hc.acceptor_Acceptor_Promise rfl ?_
  have kA := H.le_alloc (.cells [.int .i64 a, .int .i64 n] false)
  have hpl := h.lt
  unfold Acc.promise at hK
  simp -implicitDefEqProofs [J0,J1,J2,J3,J4,J5,J6,J7,J8,J9,Ja,Jb,Jc,Jd,Je,Jf,Jg,Jh,Ji,Jj,Jk,Jl,Jm,Jn,Jo,Jp,Jq,Jr,Js,Jt,Ju,Jv,Jw,Jx,Jy,Jz,JA,JB,JC,JD,JE,JF,JG,JH,JI,JJ,JK,JL,JM,JN,JO,JP,stillI,IOp.kind,JQ,JR,JS,JT,JU,JV,JW,JX,JY,JZ,Y0,Y1,Y2,Y3,Y4,Y5,Y6,Y7,Y8,Y9,Ya,Yb,Yc,Yd,Ye,Yf,Yg,Yh,Yi,Yj,Yk,Yl,Ym,Yn,ial,Yo,Yp,Yq,Yr,Ys,Yt,Yu,Yv,ires,iresL,ires1,Yw,Yx,Yy,Yz,YA,YB,bin2,YC,YD,YE,YF,YG,YH,YI,YJ,YK,YL,YM,YN,YO,YP,YQ,YR,un1,shOk,eqL,eq1,fillL,putAt,IHeap.load1,IHeap.loadL,IHeap.storeL,YS,YT,YU,YV,YW,YX,YY,YZ,B0,B1,B2,B3,B4,B5,B6,B7,B8,B9,Ba,Bb,Bc,Bd,Be,Bf,Bg,Bh,Bi,Bj,Bk,Bl,Bm, c_acceptor_Acceptor_Promise, vB]
  refine call_of (Amay_ok c hc hB (a := a) (n := n) (h.le kA) fun H1 k1 => ?_)
  have k01 := kA.trans k1
  have h1 := h.le k01
  have n1 := k1.next
  simp only [YU] at n1
  have gx := (k1.get H.next (by simp [YU])).trans (by rw [YS, if_pos rfl])
  obtain ⟨u, g1, g2⟩ := h1.rep
  cases hm : A.may a n with
  | false =>
    rw [if_pos (.inl hm)] at hK
    simp -implicitDefEqProofs [J0,J1,J2,J3,J4,J5,J6,J7,J8,J9,Ja,Jb,Jc,Jd,Je,Jf,Jg,Jh,Ji,Jj,Jk,Jl,Jm,Jn,Jo,Jp,Jq,Jr,Js,Jt,Ju,Jv,Jw,Jx,Jy,Jz,JA,JB,JC,JD,JE,JF,JG,JH,JI,JJ,JK,JL,JM,JN,JO,JP,stillI,IOp.kind,JQ,JR,JS,JT,JU,JV,JW,JX,JY,JZ,Y0,Y1,Y2,Y3,Y4,Y5,Y6,Y7,Y8,Y9,Ya,Yb,Yc,Yd,Ye,Yf,Yg,Yh,Yi,Yj,Yk,Yl,Ym,Yn,ial,Yo,Yp,Yq,Yr,Ys,Yt,Yu,Yv,ires,iresL,ires1,Yw,Yx,Yy,Yz,YA,YB,bin2,YC,YD,YE,YF,YG,YH,YI,YJ,YK,YL,YM,YN,YO,YP,YQ,YR,un1,shOk,eqL,eq1,fillL,putAt,IHeap.load1,IHeap.loadL,IHeap.storeL,YS,YT,YU,YV,YW,YX,YY,YZ,B0,B1,B2,B3,B4,B5,B6,B7,B8,B9,Ba,Bb,Bc,Bd,Be,Bf,Bg,Bh,Bi,Bj,Bk,Bl,Bm]
    exact hK _ _ (k01.upd _) (fun q h => h.le k01) (SlW.nil _ 4) (Fresh.nil _)
  | true =>
    by_cases hs : s < A.base
    · rw [if_pos (.inr hs)] at hK
      simp -implicitDefEqProofs [J0,J1,J2,J3,J4,J5,J6,J7,J8,J9,Ja,Jb,Jc,Jd,Je,Jf,Jg,Jh,Ji,Jj,Jk,Jl,Jm,Jn,Jo,Jp,Jq,Jr,Js,Jt,Ju,Jv,Jw,Jx,Jy,Jz,JA,JB,JC,JD,JE,JF,JG,JH,JI,JJ,JK,JL,JM,JN,JO,JP,stillI,IOp.kind,JQ,JR,JS,JT,JU,JV,JW,JX,JY,JZ,Y0,Y1,Y2,Y3,Y4,Y5,Y6,Y7,Y8,Y9,Ya,Yb,Yc,Yd,Ye,Yf,Yg,Yh,Yi,Yj,Yk,Yl,Ym,Yn,ial,Yo,Yp,Yq,Yr,Ys,Yt,Yu,Yv,ires,iresL,ires1,Yw,Yx,Yy,Yz,YA,YB,bin2,YC,YD,YE,YF,YG,YH,YI,YJ,YK,YL,YM,YN,YO,YP,YQ,YR,un1,shOk,eqL,eq1,fillL,putAt,IHeap.load1,IHeap.loadL,IHeap.storeL,YS,YT,YU,YV,YW,YX,YY,YZ,B0,B1,B2,B3,B4,B5,B6,B7,B8,B9,Ba,Bb,Bc,Bd,Be,Bf,Bg,Bh,Bi,Bj,Bk,Bl,Bm, nilOf, g1, hs]
      exact hK _ _ (k01.upd _) (fun q h => h.le k01) (SlW.nil _ 4) (Fresh.nil _)
    · rw [if_neg (by rw [hm]; simp [hs])] at hK
      simp -implicitDefEqProofs [J0,J1,J2,J3,J4,J5,J6,J7,J8,J9,Ja,Jb,Jc,Jd,Je,Jf,Jg,Jh,Ji,Jj,Jk,Jl,Jm,Jn,Jo,Jp,Jq,Jr,Js,Jt,Ju,Jv,Jw,Jx,Jy,Jz,JA,JB,JC,JD,JE,JF,JG,JH,JI,JJ,JK,JL,JM,JN,JO,JP,stillI,IOp.kind,JQ,JR,JS,JT,JU,JV,JW,JX,JY,JZ,Y0,Y1,Y2,Y3,Y4,Y5,Y6,Y7,Y8,Y9,Ya,Yb,Yc,Yd,Ye,Yf,Yg,Yh,Yi,Yj,Yk,Yl,Ym,Yn,ial,Yo,Yp,Yq,Yr,Ys,Yt,Yu,Yv,ires,iresL,ires1,Yw,Yx,Yy,Yz,YA,YB,bin2,YC,YD,YE,YF,YG,YH,YI,YJ,YK,YL,YM,YN,YO,YP,YQ,YR,un1,shOk,eqL,eq1,fillL,putAt,IHeap.load1,IHeap.loadL,IHeap.storeL,YS,YT,YU,YV,YW,YX,YY,YZ,B0,B1,B2,B3,B4,B5,B6,B7,B8,B9,Ba,Bb,Bc,Bd,Be,Bf,Bg,Bh,Bi,Bj,Bk,Bl,Bm, nilOf, g1, hs, gx]
      obtain ⟨H2, hH2⟩ : ∃ X : IHeap, X = H1.set p (.cells [.int .i64 a, .int .i64 n, .int .i64 A.base, u] false) := ⟨_, rfl⟩
      rw [← hH2]
      have u2 : IHeap.upd [p] H1 H2 := by rw [hH2]; exact (IHeap.upd_refl _ _).set (.inr (by simp)) _
      have n2 : H2.next = H1.next := by rw [hH2]; rfl
      have h2 : IsA H2 p q { A with pa := a, pn := n } := ⟨by rw [n2]; exact h1.lt, h.ne, ⟨u, by rw [hH2, YT, if_pos rfl], g2.upd u2 (by simpa using Ne.symm h.ne)⟩, h.sorted⟩
      refine call_of (AVotes_ok c hc (s := s) h2 hl fun v3 H3 k3 s3 f3 => ?_)
      simp -implicitDefEqProofs [J0,J1,J2,J3,J4,J5,J6,J7,J8,J9,Ja,Jb,Jc,Jd,Je,Jf,Jg,Jh,Ji,Jj,Jk,Jl,Jm,Jn,Jo,Jp,Jq,Jr,Js,Jt,Ju,Jv,Jw,Jx,Jy,Jz,JA,JB,JC,JD,JE,JF,JG,JH,JI,JJ,JK,JL,JM,JN,JO,JP,stillI,IOp.kind,JQ,JR,JS,JT,JU,JV,JW,JX,JY,JZ,Y0,Y1,Y2,Y3,Y4,Y5,Y6,Y7,Y8,Y9,Ya,Yb,Yc,Yd,Ye,Yf,Yg,Yh,Yi,Yj,Yk,Yl,Ym,Yn,ial,Yo,Yp,Yq,Yr,Ys,Yt,Yu,Yv,ires,iresL,ires1,Yw,Yx,Yy,Yz,YA,YB,bin2,YC,YD,YE,YF,YG,YH,YI,YJ,YK,YL,YM,YN,YO,YP,YQ,YR,un1,shOk,eqL,eq1,fillL,putAt,IHeap.load1,IHeap.loadL,IHeap.storeL,YS,YT,YU,YV,YW,YX,YY,YZ,B0,B1,B2,B3,B4,B5,B6,B7,B8,B9,Ba,Bb,Bc,Bd,Be,Bf,Bg,Bh,Bi,Bj,Bk,Bl,Bm]
      refine hK _ _ ((k01.updTrans u2).trans (k3.upd _)) (fun q h => ?_) s3 (f3.weak (by omega))
      have h1 := h.le k01
      obtain ⟨u', g1', g2'⟩ := h1.rep
      rw [g1] at g1'
      obtain rfl : u = u' := by simpa using g1'
      exact IsA.le ⟨by rw [n2]; exact h1.lt, h.ne, ⟨u, by rw [hH2, YT, if_pos rfl], g2'.upd u2 (by simpa using Ne.symm h.ne)⟩, h.sorted⟩ k3

include hc in
theorem ATrim_ok {p q : Nat} {A : Acc} {s : Int} (h : IsA H p q A) (hl : A.L.length ≤ 1000000) (hK : ∀ H', IHeap.upd [p, q] H H' → IsA H' p q (A.trim s).1 → K (.int .i64 (A.trim s).2) H') :
    c.C (c.F n_acceptor_Acceptor_Trim) [.pointer (some ⟨p, 0, none⟩), .int .i64 s] H K := by
  refine c.enter hc.acceptor_Acceptor_Trim rfl ?_
  simp -implicitDefEqProofs [J0,J1,J2,J3,J4,J5,J6,J7,J8,J9,Ja,Jb,Jc,Jd,Je,Jf,Jg,Jh,Ji,Jj,Jk,Jl,Jm,Jn,Jo,Jp,Jq,Jr,Js,Jt,Ju,Jv,Jw,Jx,Jy,Jz,JA,JB,JC,JD,JE,JF,JG,JH,JI,JJ,JK,JL,JM,JN,JO,JP,stillI,IOp.kind,JQ,JR,JS,JT,JU,JV,JW,JX,JY,JZ,Y0,Y1,Y2,Y3,Y4,Y5,Y6,Y7,Y8,Y9,Ya,Yb,Yc,Yd,Ye,Yf,Yg,Yh,Yi,Yj,Yk,Yl,Ym,Yn,ial,Yo,Yp,Yq,Yr,Ys,Yt,Yu,Yv,ires,iresL,ires1,Yw,Yx,Yy,Yz,YA,YB,bin2,YC,YD,YE,YF,YG,YH,YI,YJ,YK,YL,YM,YN,YO,YP,YQ,YR,un1,shOk,eqL,eq1,fillL,putAt,IHeap.load1,IHeap.loadL,IHeap.storeL,YS,YT,YU,YV,YW,YX,YY,YZ,B0,B1,B2,B3,B4,B5,B6,B7,B8,B9,Ba,Bb,Bc,Bd,Be,Bf,Bg,Bh,Bi,Bj,Bk,Bl,Bm, c_acceptor_Acceptor_Trim, nilOf]
  have e1 : (if (1024 : Int) < s then (1024 : Int) else s) = minI s 1024 := rfl
  rw [e1]
  refine call_of (find_ok c hc (s := minI s 1024) h hl fun H1 k1 => ?_)
  have h1 := h.le k1
  obtain ⟨u, g1, g2⟩ := h1.rep
  have hple := posV_le (minI s 1024) A.L
  have hw := g2.slw (rowV_four _)
  unfold Acc.trim at hK
  obtain ⟨n, hn⟩ : ∃ n, n = posV (minI s 1024) A.L := ⟨_, rfl⟩
  have hfd := fromV_drop (s := minI s 1024) h.sorted
  rw [← hn] at hple hK hfd ⊢
  have hdl : (A.L.drop n).length = A.L.length - n := List.length_drop
  rcases g2 with ⟨hr0, rfl⟩ | ⟨cs, hq, rfl, gq, hcs, hcl⟩
  · have hL0 : A.L = [] := by simpa using hr0
    have hn0 : n = 0 := by rw [hL0] at hple; simpa using hple
    subst hn0
    have s0 : ∀ X : IHeap, sliceI X 4 none 0 0 0 0 none = some (.slice none 0 0) := fun X => by simp [sliceI, UNK]
    simp -implicitDefEqProofs [J0,J1,J2,J3,J4,J5,J6,J7,J8,J9,Ja,Jb,Jc,Jd,Je,Jf,Jg,Jh,Ji,Jj,Jk,Jl,Jm,Jn,Jo,Jp,Jq,Jr,Js,Jt,Ju,Jv,Jw,Jx,Jy,Jz,JA,JB,JC,JD,JE,JF,JG,JH,JI,JJ,JK,JL,JM,JN,JO,JP,stillI,IOp.kind,JQ,JR,JS,JT,JU,JV,JW,JX,JY,JZ,Y0,Y1,Y2,Y3,Y4,Y5,Y6,Y7,Y8,Y9,Ya,Yb,Yc,Yd,Ye,Yf,Yg,Yh,Yi,Yj,Yk,Yl,Ym,Yn,ial,Yo,Yp,Yq,Yr,Ys,Yt,Yu,Yv,ires,iresL,ires1,Yw,Yx,Yy,Yz,YA,YB,bin2,YC,YD,YE,YF,YG,YH,YI,YJ,YK,YL,YM,YN,YO,YP,YQ,YR,un1,shOk,eqL,eq1,fillL,putAt,IHeap.load1,IHeap.loadL,IHeap.storeL,YS,YT,YU,YV,YW,YX,YY,YZ,B0,B1,B2,B3,B4,B5,B6,B7,B8,B9,Ba,Bb,Bc,Bd,Be,Bf,Bg,Bh,Bi,Bj,Bk,Bl,Bm, g1, boundsI, natI, s0, lenOfI, firstI]
    refine hK _ (((k1.upd _).set (.inr (by simp)) _).set (.inr (by simp)) _) ⟨by simp only [YV]; exact h1.lt, h.ne, ⟨.slice none 0 0, ?_, .inl ⟨by rw [hfd, hL0]; rfl, rfl⟩⟩, h.sorted.filter _⟩
    rw [YT, if_pos rfl]
    rfl
  · rw [List.length_map] at hcs hcl g1 hw
    obtain ⟨N, hN⟩ : ∃ N, N = A.L.length := ⟨_, rfl⟩
    rw [← hN] at hcs hcl g1 hw hple hdl hl
    obtain ⟨m, hm⟩ : ∃ m, m = N - n := ⟨_, rfl⟩
    obtain ⟨D, hD⟩ : ∃ D, D = ((A.L.drop n).map rowV).flatten := ⟨_, rfl⟩
    have hDl : D.length = m * 4 := by rw [hD, flat_len _ 4 (rowV_four _), List.length_map, hdl, hm]
    have hDone : D.all one1 = true := by rw [hD]; exact rowV_one _
    have hFD : (cs.drop (n * 4)).take (m * 4) = D := by
      have := congrArg (List.drop (n * 4)) hcs
      rw [List.drop_take] at this
      have hsp := flat_split (A.L.map rowV) n
      have hpre : ((A.L.map rowV).take n).flatten.length = n * 4 := by rw [flat_len _ 4 fun r hr => rowV_four _ r (List.mem_of_mem_take hr), List.length_take, List.length_map, ← hN]; omega
      rw [hsp, ← hpre, List.drop_left, hpre] at this
      rw [hD, List.map_drop, ← this]
      congr 1; omega
    have sQ : ∀ (X : IHeap) (k l : Nat), l ≤ N → sliceI X 4 (some ⟨q, 0, none⟩) N (UNK + 4) k l none = some (.slice (some ⟨q, k * 4, none⟩) (l - k) (UNK + 4)) := by
      intro X k l hk
      unfold sliceI
      rw [if_neg (by omega)]
      simp [hk]
    have hmn : m ≤ N := by omega
    have s27 := sQ H1 n N (Nat.le_refl _)
    rw [← hm] at s27
    have fD : firstI H1 4 m (.slice (some ⟨q, n * 4, none⟩) m (UNK + 4)) = some D := by
      simp only [firstI, IHeap.loadL, gq]
      by_cases hz : m * 4 = 0
      · have : D = [] := List.length_eq_zero_iff.1 (by rw [hDl]; exact hz)
        rw [if_pos hz, this]
      · rw [if_neg hz, if_pos (by omega), hFD]
    have m1 : Nat.min m N = m := Nat.min_eq_left hmn
    have m1' : min m N = m := Nat.min_eq_left hmn
    have hNm : N - m = n := by omega
    have hpq := h1.ne
    have fin : ∀ (Hb : IHeap) (cs2 : List Value), IHeap.upd [q] H1 Hb → Hb.get q = some (.cells cs2 false) → cs2.take (m * 4) = D → m * 4 ≤ cs2.length → ∀ x,
        K (.int .i64 n) ((Hb.set p x).set p (.cells [.int .i64 A.pa, .int .i64 A.pn, .int .i64 (maxI A.base (minI s 1024)), .slice (some ⟨q, 0, none⟩) m (UNK + 4)] false)) := by
      intro Hb cs2 ub gb hb1 hb2 x
      have ub' : IHeap.upd [p, q] H1 Hb := ⟨ub.next, fun b h1 h2 => ub.get b h1 fun hh => h2 (by simp at hh; simp [hh])⟩
      refine hK _ ((k1.updTrans ub').set (.inr (by simp)) _ |>.set (.inr (by simp)) _) ⟨by simp only [YV]; exact Nat.lt_of_lt_of_le h1.lt ub.next, h.ne, ⟨_, by rw [YT, if_pos rfl], .inr ⟨cs2, ?_, ?_, ?_, ?_, ?_⟩⟩, h.sorted.filter _⟩
      · simp only [YV]; exact Nat.lt_of_lt_of_le hq ub.next
      · rw [List.length_map, hfd, hdl, hm]
      · rw [YT, if_neg (Ne.symm hpq), YT, if_neg (Ne.symm hpq)]; exact gb
      · rw [List.length_map, hfd, hdl, ← hm, hb1, hD]
      · rw [List.length_map, hfd, hdl, ← hm]; exact hb2
    obtain ⟨Z, hZ⟩ : ∃ Z, Z = (Builtin.zeroCells #[Value.int .i64 0, .int .i64 0, .int .i64 0, .string ⟨#[]⟩] n).toList := ⟨_, rfl⟩
    have hZl : Z.length = n * 4 := by rw [hZ, Array.length_toList, zeroCells_size]; rfl
    have hZone : Z.all one1 = true := by
      rw [hZ, List.all_eq_true]
      intro x hx
      simp only [Builtin.zeroCells, Array.toList_map, List.mem_map] at hx
      obtain ⟨k, _, rfl⟩ := hx
      have : k % 4 = 0 ∨ k % 4 = 1 ∨ k % 4 = 2 ∨ k % 4 = 3 := by omega
      rcases this with h | h | h | h <;> simp [h, one1]
    have qp : ¬ q = p := Ne.symm hpq
    by_cases hm0 : m = 0
    · have hD0 : D = [] := List.length_eq_zero_iff.1 (by rw [hDl, hm0])
      have hnN : n = N := by omega
      subst hm0
      rw [hD0] at fD
      have s34 := sQ H1 0 N (Nat.le_refl _)
      have s41 : ∀ X, sliceI X 4 (some ⟨q, 0, none⟩) N (UNK + 4) 0 0 none = _ := fun X => sQ X 0 0 (by omega)
      rw [Nat.sub_zero] at s34
      by_cases hn0 : n = 0
      · have hN0 : N = 0 := by omega
        subst hN0
        subst hn0
        simp -implicitDefEqProofs [J0,J1,J2,J3,J4,J5,J6,J7,J8,J9,Ja,Jb,Jc,Jd,Je,Jf,Jg,Jh,Ji,Jj,Jk,Jl,Jm,Jn,Jo,Jp,Jq,Jr,Js,Jt,Ju,Jv,Jw,Jx,Jy,Jz,JA,JB,JC,JD,JE,JF,JG,JH,JI,JJ,JK,JL,JM,JN,JO,JP,stillI,IOp.kind,JQ,JR,JS,JT,JU,JV,JW,JX,JY,JZ,Y0,Y1,Y2,Y3,Y4,Y5,Y6,Y7,Y8,Y9,Ya,Yb,Yc,Yd,Ye,Yf,Yg,Yh,Yi,Yj,Yk,Yl,Ym,Yn,ial,Yo,Yp,Yq,Yr,Ys,Yt,Yu,Yv,ires,iresL,ires1,Yw,Yx,Yy,Yz,YA,YB,bin2,YC,YD,YE,YF,YG,YH,YI,YJ,YK,YL,YM,YN,YO,YP,YQ,YR,un1,shOk,eqL,eq1,fillL,putAt,IHeap.load1,IHeap.loadL,IHeap.storeL,YS,YT,YU,YV,YW,YX,YY,YZ,B0,B1,B2,B3,B4,B5,B6,B7,B8,B9,Ba,Bb,Bc,Bd,Be,Bf,Bg,Bh,Bi,Bj,Bk,Bl,Bm, g1, boundsI, natI, s27, lenOfI, fD, s34, s41]
        exact fin H1 cs (IHeap.upd_refl _ _) gq (by rw [hD0]; simp) (by omega) _
      · subst hnN
        have k2 : Z.length ≤ cs.length := by omega
        have s27' := sQ H1 n n (Nat.le_refl _)
        rw [Nat.sub_self] at s27'
        have fD' : firstI H1 4 0 (.slice (some ⟨q, n * 4, none⟩) 0 (UNK + 4)) = some [] := fD
        obtain ⟨cs2, hcs2⟩ : ∃ c, c = Z ++ List.drop Z.length cs := ⟨_, rfl⟩
        have fo := hcs2.symm
        rw [Nat.zero_mul] at s34
        simp -implicitDefEqProofs [J0,J1,J2,J3,J4,J5,J6,J7,J8,J9,Ja,Jb,Jc,Jd,Je,Jf,Jg,Jh,Ji,Jj,Jk,Jl,Jm,Jn,Jo,Jp,Jq,Jr,Js,Jt,Ju,Jv,Jw,Jx,Jy,Jz,JA,JB,JC,JD,JE,JF,JG,JH,JI,JJ,JK,JL,JM,JN,JO,JP,stillI,IOp.kind,JQ,JR,JS,JT,JU,JV,JW,JX,JY,JZ,Y0,Y1,Y2,Y3,Y4,Y5,Y6,Y7,Y8,Y9,Ya,Yb,Yc,Yd,Ye,Yf,Yg,Yh,Yi,Yj,Yk,Yl,Ym,Yn,ial,Yo,Yp,Yq,Yr,Ys,Yt,Yu,Yv,ires,iresL,ires1,Yw,Yx,Yy,Yz,YA,YB,bin2,YC,YD,YE,YF,YG,YH,YI,YJ,YK,YL,YM,YN,YO,YP,YQ,YR,un1,shOk,eqL,eq1,fillL,putAt,IHeap.load1,IHeap.loadL,IHeap.storeL,YS,YT,YU,YV,YW,YX,YY,YZ,B0,B1,B2,B3,B4,B5,B6,B7,B8,B9,Ba,Bb,Bc,Bd,Be,Bf,Bg,Bh,Bi,Bj,Bk,Bl,Bm, g1, boundsI, natI, s27', lenOfI, fD', s34, s41, hn0, ← hZ, gq, k2, hZone, fo, hpq, qp, -List.all_eq_true]
        exact fin _ cs2 ((IHeap.upd_refl _ _).set (.inr (by simp)) _) (by rw [YT, if_pos rfl]) (by rw [hD0]; simp) (by omega) _
    · have hDnn : ¬ D = [] := by intro e; rw [e] at hDl; simp at hDl; omega
      have k1 : D.length ≤ cs.length := by omega
      obtain ⟨cs1, hcs1⟩ : ∃ c, c = D ++ List.drop D.length cs := ⟨_, rfl⟩
      have fo1 := hcs1.symm
      have l1 : cs1.length = cs.length := by rw [hcs1, List.length_append, List.length_drop]; omega
      have t1 : cs1.take (m * 4) = D := by rw [hcs1, ← hDl, List.take_left]
      obtain ⟨Ha, hHa⟩ : ∃ X : IHeap, X = H1.set q (.cells cs1 false) := ⟨_, rfl⟩
      have ga : Ha.get q = some (.cells cs1 false) := by rw [hHa, YT, if_pos rfl]
      have gpa : Ha.get p = some (.cells [.int .i64 A.pa, .int .i64 A.pn, .int .i64 A.base, .slice (some ⟨q, 0, none⟩) N (UNK + 4)] false) := by rw [hHa, YT, if_neg hpq]; exact g1
      have ua : IHeap.upd [q] H1 Ha := by rw [hHa]; exact (IHeap.upd_refl _ _).set (.inr (by simp)) _
      have s34 := sQ Ha m N (Nat.le_refl _)
      rw [hNm] at s34
      have s41 : ∀ X, sliceI X 4 (some ⟨q, 0, none⟩) N (UNK + 4) 0 m none = some (.slice (some ⟨q, 0, none⟩) m (UNK + 4)) := fun X => by
        have := sQ X 0 m hmn
        rwa [Nat.zero_mul, Nat.sub_zero] at this
      by_cases hn0 : n = 0
      · subst hn0
        simp -implicitDefEqProofs [J0,J1,J2,J3,J4,J5,J6,J7,J8,J9,Ja,Jb,Jc,Jd,Je,Jf,Jg,Jh,Ji,Jj,Jk,Jl,Jm,Jn,Jo,Jp,Jq,Jr,Js,Jt,Ju,Jv,Jw,Jx,Jy,Jz,JA,JB,JC,JD,JE,JF,JG,JH,JI,JJ,JK,JL,JM,JN,JO,JP,stillI,IOp.kind,JQ,JR,JS,JT,JU,JV,JW,JX,JY,JZ,Y0,Y1,Y2,Y3,Y4,Y5,Y6,Y7,Y8,Y9,Ya,Yb,Yc,Yd,Ye,Yf,Yg,Yh,Yi,Yj,Yk,Yl,Ym,Yn,ial,Yo,Yp,Yq,Yr,Ys,Yt,Yu,Yv,ires,iresL,ires1,Yw,Yx,Yy,Yz,YA,YB,bin2,YC,YD,YE,YF,YG,YH,YI,YJ,YK,YL,YM,YN,YO,YP,YQ,YR,un1,shOk,eqL,eq1,fillL,putAt,IHeap.load1,IHeap.loadL,IHeap.storeL,YS,YT,YU,YV,YW,YX,YY,YZ,B0,B1,B2,B3,B4,B5,B6,B7,B8,B9,Ba,Bb,Bc,Bd,Be,Bf,Bg,Bh,Bi,Bj,Bk,Bl,Bm, g1, boundsI, natI, s27, lenOfI, m1, m1', fD, hDnn, gq, k1, hDone, fo1, ← hHa, gpa, hmn, s34, s41, -List.all_eq_true]
        exact fin Ha cs1 ua ga t1 (by omega) _
      · have k2 : m * 4 + Z.length ≤ cs1.length := by omega
        obtain ⟨cs2, hcs2⟩ : ∃ c, c = List.take (m * 4) cs1 ++ (Z ++ List.drop (m * 4 + Z.length) cs1) := ⟨_, rfl⟩
        have fo2 := hcs2.symm
        have l2 : cs2.length = cs1.length := by rw [hcs2]; simp only [List.length_append, List.length_take, List.length_drop]; omega
        have t2 : cs2.take (m * 4) = D := by rw [hcs2, List.take_append_of_le_length (by rw [List.length_take]; omega), List.take_take, Nat.min_self, t1]
        simp -implicitDefEqProofs [J0,J1,J2,J3,J4,J5,J6,J7,J8,J9,Ja,Jb,Jc,Jd,Je,Jf,Jg,Jh,Ji,Jj,Jk,Jl,Jm,Jn,Jo,Jp,Jq,Jr,Js,Jt,Ju,Jv,Jw,Jx,Jy,Jz,JA,JB,JC,JD,JE,JF,JG,JH,JI,JJ,JK,JL,JM,JN,JO,JP,stillI,IOp.kind,JQ,JR,JS,JT,JU,JV,JW,JX,JY,JZ,Y0,Y1,Y2,Y3,Y4,Y5,Y6,Y7,Y8,Y9,Ya,Yb,Yc,Yd,Ye,Yf,Yg,Yh,Yi,Yj,Yk,Yl,Ym,Yn,ial,Yo,Yp,Yq,Yr,Ys,Yt,Yu,Yv,ires,iresL,ires1,Yw,Yx,Yy,Yz,YA,YB,bin2,YC,YD,YE,YF,YG,YH,YI,YJ,YK,YL,YM,YN,YO,YP,YQ,YR,un1,shOk,eqL,eq1,fillL,putAt,IHeap.load1,IHeap.loadL,IHeap.storeL,YS,YT,YU,YV,YW,YX,YY,YZ,B0,B1,B2,B3,B4,B5,B6,B7,B8,B9,Ba,Bb,Bc,Bd,Be,Bf,Bg,Bh,Bi,Bj,Bk,Bl,Bm, g1, boundsI, natI, hple, s27, lenOfI, m1, m1', fD, hDnn, gq, k1, hDone, fo1, ← hHa, gpa, hmn, s34, hn0, ← hZ, ga, k2, hZone, fo2, s41, hpq, qp, -List.all_eq_true]
        exact fin _ cs2 (ua.set (.inr (by simp)) _) (by rw [YT, if_pos rfl]) t2 (by omega) _

end
end Go.Proofs.YtkgfnelapcpibaaI
