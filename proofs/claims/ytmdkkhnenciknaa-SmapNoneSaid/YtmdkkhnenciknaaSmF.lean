/- Stripes that are known: a fragment moves, a stripe begins. -/
import Derived.Test.YtmdkkhnenciknaaSmE
namespace Go.Proofs.YtmdkkhnenciknaaI
set_option linter.unusedSimpArgs false
set_option linter.unusedVariables false
open Go

theorem rowsB_same {bs : Nat → Nat} {L : List St} {i : Nat} {x : St} (hx : L[i]? = some x) {sv : List Int} (hl : sv.length = x.sv.length) : rowsB bs (L.set i { x with sv := sv }) = rowsB bs L := by
  apply List.ext_getElem?
  intro k
  simp only [rowsB, List.getElem?_mapIdx, List.getElem?_set]
  by_cases hk : i = k
  · subst hk
    rw [if_pos rfl, if_pos (List.getElem?_eq_some_iff.1 hx).1, hx]
    simp [rowSt, hl]
  · rw [if_neg hk]
theorem IsS.mv {H : IHeap} {p q : Nat} {bs : Nat → Nat} {L : List St} {i : Nat} {x : St} {sv : List Int} (h : IsS H p q bs L) (hx : L[i]? = some x) (hl : sv.length = x.sv.length) (hy : St.ok { x with sv := sv }) :
    IsS (H.set (bs i) (.cells (sv.map iV) false)) p q bs (L.set i { x with sv := sv }) := by
  obtain ⟨b1, b2, b3, b4⟩ := h.bl i x hx
  obtain ⟨g1, g2, _, _, q1, q2⟩ := h.at hx
  have hi := (List.getElem?_eq_some_iff.1 hx).1
  have ho := opn_set (y := { x with sv := sv }) hx
  have ho2 : opn (L.set i { x with sv := sv }) = opn L := by
    have : isOpen { x with sv := sv } = isOpen x := rfl
    rw [this] at ho; omega
  refine ⟨h.lt, h.ltq, ⟨_, by rw [YT, if_neg (Ne.symm b3), ho2]; exact g1, .inr ⟨fun e => by have := congrArg List.length e; rw [List.length_set] at this; simp only [List.length_nil] at this; omega, q2, by rw [List.length_set], by rw [YT, if_neg (Ne.symm b4), rowsB_same hx hl]; exact g2⟩⟩, fun z hz => ?_, by rw [List.length_set]; exact h.len, fun k z hz => ?_, fun a b ha hb => h.inj a b (by simpa using ha) (by simpa using hb)⟩
  · rcases List.mem_or_eq_of_mem_set hz with h1 | rfl
    · exact h.ok z h1
    · exact hy
  · by_cases hk : k = i
    · subst hk
      have : z = { x with sv := sv } := by
        rw [List.getElem?_set, if_pos rfl, if_pos hi] at hz
        injection hz with hz; exact hz.symm
      subst this
      exact ⟨b1, by rw [YT, if_pos rfl], b3, b4⟩
    · rw [List.getElem?_set, if_neg (Ne.symm hk)] at hz
      obtain ⟨c1, c2, c3, c4⟩ := h.bl k z hz
      have hne : ¬ bs k = bs i := fun e => hk (h.inj k i (List.getElem?_eq_some_iff.1 hz).1 hi e)
      exact ⟨c1, by rw [YT, if_neg hne]; exact c2, c3, c4⟩
theorem nodup_get {l : List Int} : l.Nodup ↔ ∀ i j : Nat, i < j → j < l.length → l[i]? ≠ l[j]? := by
  unfold List.Nodup
  rw [List.pairwise_iff_getElem]
  constructor
  · intro h i j hij hj e
    rw [List.getElem?_eq_getElem hj, List.getElem?_eq_getElem (by omega)] at e
    exact h i j (by omega) hj hij (by simpa using e)
  · intro h i j hi hj hij e
    exact h i j hij hj (by rw [List.getElem?_eq_getElem hj, List.getElem?_eq_getElem hi, e])
theorem apart_set {l : List Int} {n : Nat} {s : Int} (h : Apart l) (h0 : 0 ≤ s) (h1 : s ≤ 63) (hs : ∀ j, j < l.length → l[j]? = some s → j = n) : Apart (l.set n s) := by
  refine ⟨fun x hx => ?_, ?_⟩
  · rcases List.mem_or_eq_of_mem_set hx with h2 | rfl
    · exact h.1 x h2
    · omega
  · rw [nodup_get]
    intro i j hij hj
    simp only [List.length_set] at hj
    have hnd := nodup_get.1 h.2 i j hij hj
    rw [List.getElem?_set, List.getElem?_set]
    by_cases hi : n = i
    · subst hi
      rw [if_pos rfl, if_pos (by omega), if_neg (by omega)]
      intro e
      have := hs j hj e.symm
      omega
    · rw [if_neg hi]
      by_cases hjn : n = j
      · subst hjn
        rw [if_pos rfl, if_pos hj]
        intro e
        have := hs i (by omega) e
        omega
      · rw [if_neg hjn]; exact hnd
theorem atI_uniq {l : List Int} {s : Int} (hnd : l.Nodup) {j : Nat} (hj : l[j]? = some s) : atI l s = j := by
  obtain ⟨hjl, e⟩ := List.getElem?_eq_some_iff.1 hj
  have hm : s ∈ l := by rw [← e]; exact List.getElem_mem _
  obtain ⟨i, hi, e1, e2⟩ := atI_mem hm
  rw [e1]
  have : i = j := by
    refine Classical.byContradiction fun hne => ?_
    have hq := nodup_get.1 hnd
    rcases Nat.lt_or_gt_of_ne hne with h | h
    · exact hq i j h hjl (by rw [List.getElem?_eq_getElem hi, hj, e2])
    · exact hq j i h hi (by rw [List.getElem?_eq_getElem hi, hj, e2])
  omega

section
variable (c : Ctx) (hc : HasSmap c) {H : IHeap} {K : Value → IHeap → Prop}
include hc

theorem SMove_ok {p q : Nat} {bs : Nat → Nat} {L : List St} {id ix sr : Int} (h : IsS H p q bs L) (hK : ∀ H', IHeap.upd (foot p q bs L) H H' → H'.next = H.next → IsS H' p q bs (SMove L id ix sr).1 → foot p q bs (SMove L id ix sr).1 = foot p q bs L → K (.int .i64 (SMove L id ix sr).2) H') :
    c.C (c.F n_smap_Map_Move) [.pointer (some ⟨p, 0, none⟩), .int .i64 id, .int .i64 ix, .int .i64 sr] H K := by
  refine c.enter hc.smap_Map_Move rfl ?_
  simp -implicitDefEqProofs [J0,J1,J2,J3,J4,J5,J6,J7,J8,J9,Ja,Jb,Jc,Jd,Je,Jf,Jg,Jh,Ji,Jj,Jk,Jl,Jm,Jn,Jo,Jp,Jq,Jr,Js,Jt,Ju,Jv,Jw,Jx,Jy,Jz,JA,JB,JC,JD,JE,JF,JG,JH,JI,JJ,JK,JL,JM,JN,JO,JP,stillI,IOp.kind,JQ,JR,JS,JT,JU,JV,JW,JX,JY,JZ,Y0,Y1,Y2,Y3,Y4,Y5,Y6,Y7,Y8,Y9,Ya,Yb,Yc,Yd,Ye,Yf,Yg,Yh,Yi,Yj,Yk,Yl,Ym,Yn,ial,Yo,Yp,Yq,Yr,Ys,Yt,Yu,Yv,ires,iresL,ires1,Yw,Yx,Yy,Yz,YA,YB,bin2,YC,YD,YE,YF,YG,YH,YI,YJ,YK,YL,YM,YN,YO,YP,YQ,YR,un1,shOk,eqL,eq1,fillL,putAt,IHeap.load1,IHeap.loadL,IHeap.storeL,YS,YT,YU,YV,YW,YX,YY,YZ,B0,B1,B2,B3,B4,B5,B6,B7,B8,B9,Ba,Bb,Bc,Bd,Be,Bf,Bg,Bh,Bi,Bj,Bk,Bl,Bm, c_smap_Map_Move]
  unfold SMove at hK
  refine call_of (at_okS c hc h (fun hg => ?_) fun x hg => ?_)
  · rw [hg] at hK
    simp only at hK
    by_cases h1 : ix < 0
    · rw [if_pos (.inl h1)] at hK
      simp -implicitDefEqProofs [J0,J1,J2,J3,J4,J5,J6,J7,J8,J9,Ja,Jb,Jc,Jd,Je,Jf,Jg,Jh,Ji,Jj,Jk,Jl,Jm,Jn,Jo,Jp,Jq,Jr,Js,Jt,Ju,Jv,Jw,Jx,Jy,Jz,JA,JB,JC,JD,JE,JF,JG,JH,JI,JJ,JK,JL,JM,JN,JO,JP,stillI,IOp.kind,JQ,JR,JS,JT,JU,JV,JW,JX,JY,JZ,Y0,Y1,Y2,Y3,Y4,Y5,Y6,Y7,Y8,Y9,Ya,Yb,Yc,Yd,Ye,Yf,Yg,Yh,Yi,Yj,Yk,Yl,Ym,Yn,ial,Yo,Yp,Yq,Yr,Ys,Yt,Yu,Yv,ires,iresL,ires1,Yw,Yx,Yy,Yz,YA,YB,bin2,YC,YD,YE,YF,YG,YH,YI,YJ,YK,YL,YM,YN,YO,YP,YQ,YR,un1,shOk,eqL,eq1,fillL,putAt,IHeap.load1,IHeap.loadL,IHeap.storeL,YS,YT,YU,YV,YW,YX,YY,YZ,B0,B1,B2,B3,B4,B5,B6,B7,B8,B9,Ba,Bb,Bc,Bd,Be,Bf,Bg,Bh,Bi,Bj,Bk,Bl,Bm, nilOf, h1]
      exact hK _ (IHeap.upd_refl _ _) rfl h rfl
    · by_cases h2 : 8 ≤ ix
      · rw [if_pos (.inr (.inl h2))] at hK
        simp -implicitDefEqProofs [J0,J1,J2,J3,J4,J5,J6,J7,J8,J9,Ja,Jb,Jc,Jd,Je,Jf,Jg,Jh,Ji,Jj,Jk,Jl,Jm,Jn,Jo,Jp,Jq,Jr,Js,Jt,Ju,Jv,Jw,Jx,Jy,Jz,JA,JB,JC,JD,JE,JF,JG,JH,JI,JJ,JK,JL,JM,JN,JO,JP,stillI,IOp.kind,JQ,JR,JS,JT,JU,JV,JW,JX,JY,JZ,Y0,Y1,Y2,Y3,Y4,Y5,Y6,Y7,Y8,Y9,Ya,Yb,Yc,Yd,Ye,Yf,Yg,Yh,Yi,Yj,Yk,Yl,Ym,Yn,ial,Yo,Yp,Yq,Yr,Ys,Yt,Yu,Yv,ires,iresL,ires1,Yw,Yx,Yy,Yz,YA,YB,bin2,YC,YD,YE,YF,YG,YH,YI,YJ,YK,YL,YM,YN,YO,YP,YQ,YR,un1,shOk,eqL,eq1,fillL,putAt,IHeap.load1,IHeap.loadL,IHeap.storeL,YS,YT,YU,YV,YW,YX,YY,YZ,B0,B1,B2,B3,B4,B5,B6,B7,B8,B9,Ba,Bb,Bc,Bd,Be,Bf,Bg,Bh,Bi,Bj,Bk,Bl,Bm, nilOf, h1, h2]
        exact hK _ (IHeap.upd_refl _ _) rfl h rfl
      · by_cases h3 : sr < 0
        · rw [if_pos (.inr (.inr (.inl h3)))] at hK
          simp -implicitDefEqProofs [J0,J1,J2,J3,J4,J5,J6,J7,J8,J9,Ja,Jb,Jc,Jd,Je,Jf,Jg,Jh,Ji,Jj,Jk,Jl,Jm,Jn,Jo,Jp,Jq,Jr,Js,Jt,Ju,Jv,Jw,Jx,Jy,Jz,JA,JB,JC,JD,JE,JF,JG,JH,JI,JJ,JK,JL,JM,JN,JO,JP,stillI,IOp.kind,JQ,JR,JS,JT,JU,JV,JW,JX,JY,JZ,Y0,Y1,Y2,Y3,Y4,Y5,Y6,Y7,Y8,Y9,Ya,Yb,Yc,Yd,Ye,Yf,Yg,Yh,Yi,Yj,Yk,Yl,Ym,Yn,ial,Yo,Yp,Yq,Yr,Ys,Yt,Yu,Yv,ires,iresL,ires1,Yw,Yx,Yy,Yz,YA,YB,bin2,YC,YD,YE,YF,YG,YH,YI,YJ,YK,YL,YM,YN,YO,YP,YQ,YR,un1,shOk,eqL,eq1,fillL,putAt,IHeap.load1,IHeap.loadL,IHeap.storeL,YS,YT,YU,YV,YW,YX,YY,YZ,B0,B1,B2,B3,B4,B5,B6,B7,B8,B9,Ba,Bb,Bc,Bd,Be,Bf,Bg,Bh,Bi,Bj,Bk,Bl,Bm, nilOf, h1, h2, h3]
          exact hK _ (IHeap.upd_refl _ _) rfl h rfl
        · by_cases h4 : 63 < sr
          · have h4' : 64 ≤ sr := by omega
            rw [if_pos (.inr (.inr (.inr h4)))] at hK
            simp -implicitDefEqProofs [J0,J1,J2,J3,J4,J5,J6,J7,J8,J9,Ja,Jb,Jc,Jd,Je,Jf,Jg,Jh,Ji,Jj,Jk,Jl,Jm,Jn,Jo,Jp,Jq,Jr,Js,Jt,Ju,Jv,Jw,Jx,Jy,Jz,JA,JB,JC,JD,JE,JF,JG,JH,JI,JJ,JK,JL,JM,JN,JO,JP,stillI,IOp.kind,JQ,JR,JS,JT,JU,JV,JW,JX,JY,JZ,Y0,Y1,Y2,Y3,Y4,Y5,Y6,Y7,Y8,Y9,Ya,Yb,Yc,Yd,Ye,Yf,Yg,Yh,Yi,Yj,Yk,Yl,Ym,Yn,ial,Yo,Yp,Yq,Yr,Ys,Yt,Yu,Yv,ires,iresL,ires1,Yw,Yx,Yy,Yz,YA,YB,bin2,YC,YD,YE,YF,YG,YH,YI,YJ,YK,YL,YM,YN,YO,YP,YQ,YR,un1,shOk,eqL,eq1,fillL,putAt,IHeap.load1,IHeap.loadL,IHeap.storeL,YS,YT,YU,YV,YW,YX,YY,YZ,B0,B1,B2,B3,B4,B5,B6,B7,B8,B9,Ba,Bb,Bc,Bd,Be,Bf,Bg,Bh,Bi,Bj,Bk,Bl,Bm, nilOf, h1, h2, h3, h4']
            exact hK _ (IHeap.upd_refl _ _) rfl h rfl
          · have h4' : ¬ 64 ≤ sr := by omega
            rw [if_neg (by omega)] at hK
            simp -implicitDefEqProofs [J0,J1,J2,J3,J4,J5,J6,J7,J8,J9,Ja,Jb,Jc,Jd,Je,Jf,Jg,Jh,Ji,Jj,Jk,Jl,Jm,Jn,Jo,Jp,Jq,Jr,Js,Jt,Ju,Jv,Jw,Jx,Jy,Jz,JA,JB,JC,JD,JE,JF,JG,JH,JI,JJ,JK,JL,JM,JN,JO,JP,stillI,IOp.kind,JQ,JR,JS,JT,JU,JV,JW,JX,JY,JZ,Y0,Y1,Y2,Y3,Y4,Y5,Y6,Y7,Y8,Y9,Ya,Yb,Yc,Yd,Ye,Yf,Yg,Yh,Yi,Yj,Yk,Yl,Ym,Yn,ial,Yo,Yp,Yq,Yr,Ys,Yt,Yu,Yv,ires,iresL,ires1,Yw,Yx,Yy,Yz,YA,YB,bin2,YC,YD,YE,YF,YG,YH,YI,YJ,YK,YL,YM,YN,YO,YP,YQ,YR,un1,shOk,eqL,eq1,fillL,putAt,IHeap.load1,IHeap.loadL,IHeap.storeL,YS,YT,YU,YV,YW,YX,YY,YZ,B0,B1,B2,B3,B4,B5,B6,B7,B8,B9,Ba,Bb,Bc,Bd,Be,Bf,Bg,Bh,Bi,Bj,Bk,Bl,Bm, nilOf, h1, h2, h3, h4']
            exact hK _ (IHeap.upd_refl _ _) rfl h rfl
  · rw [hg] at hK
    simp only at hK
    obtain ⟨i0, i1, hx⟩ := getS_some hg
    obtain ⟨g1, g2, hrow, hbd, hq, hpq⟩ := h.at hx
    obtain ⟨cs, hcs⟩ : ∃ cs, cs = (rowsB bs L).flatten := ⟨_, rfl⟩
    rw [← hcs] at g2 hrow hbd
    have r1 := row_get hrow 1 (by omega)
    have r5 := row_get hrow 5 (by omega)
    simp only [rowSt, List.getElem?_cons_succ, List.getElem?_cons_zero, slS] at r1 r5
    have hsl := h.sl hx
    simp only [slS] at hsl
    have hxo := h.ok x (List.mem_of_getElem? hx)
    have hxm := St.may_iff.1 hxo.may
    by_cases h1 : ix < 0
    · rw [if_pos (.inl h1)] at hK
      simp -implicitDefEqProofs [J0,J1,J2,J3,J4,J5,J6,J7,J8,J9,Ja,Jb,Jc,Jd,Je,Jf,Jg,Jh,Ji,Jj,Jk,Jl,Jm,Jn,Jo,Jp,Jq,Jr,Js,Jt,Ju,Jv,Jw,Jx,Jy,Jz,JA,JB,JC,JD,JE,JF,JG,JH,JI,JJ,JK,JL,JM,JN,JO,JP,stillI,IOp.kind,JQ,JR,JS,JT,JU,JV,JW,JX,JY,JZ,Y0,Y1,Y2,Y3,Y4,Y5,Y6,Y7,Y8,Y9,Ya,Yb,Yc,Yd,Ye,Yf,Yg,Yh,Yi,Yj,Yk,Yl,Ym,Yn,ial,Yo,Yp,Yq,Yr,Ys,Yt,Yu,Yv,ires,iresL,ires1,Yw,Yx,Yy,Yz,YA,YB,bin2,YC,YD,YE,YF,YG,YH,YI,YJ,YK,YL,YM,YN,YO,YP,YQ,YR,un1,shOk,eqL,eq1,fillL,putAt,IHeap.load1,IHeap.loadL,IHeap.storeL,YS,YT,YU,YV,YW,YX,YY,YZ,B0,B1,B2,B3,B4,B5,B6,B7,B8,B9,Ba,Bb,Bc,Bd,Be,Bf,Bg,Bh,Bi,Bj,Bk,Bl,Bm, nilOf, g2, r5, h1]
      exact hK _ (IHeap.upd_refl _ _) rfl h rfl
    · by_cases h2 : (x.sv.length : Int) ≤ ix
      · rw [if_pos (.inr (.inl h2))] at hK
        simp -implicitDefEqProofs [J0,J1,J2,J3,J4,J5,J6,J7,J8,J9,Ja,Jb,Jc,Jd,Je,Jf,Jg,Jh,Ji,Jj,Jk,Jl,Jm,Jn,Jo,Jp,Jq,Jr,Js,Jt,Ju,Jv,Jw,Jx,Jy,Jz,JA,JB,JC,JD,JE,JF,JG,JH,JI,JJ,JK,JL,JM,JN,JO,JP,stillI,IOp.kind,JQ,JR,JS,JT,JU,JV,JW,JX,JY,JZ,Y0,Y1,Y2,Y3,Y4,Y5,Y6,Y7,Y8,Y9,Ya,Yb,Yc,Yd,Ye,Yf,Yg,Yh,Yi,Yj,Yk,Yl,Ym,Yn,ial,Yo,Yp,Yq,Yr,Ys,Yt,Yu,Yv,ires,iresL,ires1,Yw,Yx,Yy,Yz,YA,YB,bin2,YC,YD,YE,YF,YG,YH,YI,YJ,YK,YL,YM,YN,YO,YP,YQ,YR,un1,shOk,eqL,eq1,fillL,putAt,IHeap.load1,IHeap.loadL,IHeap.storeL,YS,YT,YU,YV,YW,YX,YY,YZ,B0,B1,B2,B3,B4,B5,B6,B7,B8,B9,Ba,Bb,Bc,Bd,Be,Bf,Bg,Bh,Bi,Bj,Bk,Bl,Bm, nilOf, g2, r5, h1, h2]
        exact hK _ (IHeap.upd_refl _ _) rfl h rfl
      · by_cases h3 : sr < 0
        · rw [if_pos (.inr (.inr (.inl h3)))] at hK
          simp -implicitDefEqProofs [J0,J1,J2,J3,J4,J5,J6,J7,J8,J9,Ja,Jb,Jc,Jd,Je,Jf,Jg,Jh,Ji,Jj,Jk,Jl,Jm,Jn,Jo,Jp,Jq,Jr,Js,Jt,Ju,Jv,Jw,Jx,Jy,Jz,JA,JB,JC,JD,JE,JF,JG,JH,JI,JJ,JK,JL,JM,JN,JO,JP,stillI,IOp.kind,JQ,JR,JS,JT,JU,JV,JW,JX,JY,JZ,Y0,Y1,Y2,Y3,Y4,Y5,Y6,Y7,Y8,Y9,Ya,Yb,Yc,Yd,Ye,Yf,Yg,Yh,Yi,Yj,Yk,Yl,Ym,Yn,ial,Yo,Yp,Yq,Yr,Ys,Yt,Yu,Yv,ires,iresL,ires1,Yw,Yx,Yy,Yz,YA,YB,bin2,YC,YD,YE,YF,YG,YH,YI,YJ,YK,YL,YM,YN,YO,YP,YQ,YR,un1,shOk,eqL,eq1,fillL,putAt,IHeap.load1,IHeap.loadL,IHeap.storeL,YS,YT,YU,YV,YW,YX,YY,YZ,B0,B1,B2,B3,B4,B5,B6,B7,B8,B9,Ba,Bb,Bc,Bd,Be,Bf,Bg,Bh,Bi,Bj,Bk,Bl,Bm, nilOf, g2, r5, h1, h2, h3]
          exact hK _ (IHeap.upd_refl _ _) rfl h rfl
        · by_cases h4 : 63 < sr
          · have h4' : 64 ≤ sr := by omega
            rw [if_pos (.inr (.inr (.inr h4)))] at hK
            simp -implicitDefEqProofs [J0,J1,J2,J3,J4,J5,J6,J7,J8,J9,Ja,Jb,Jc,Jd,Je,Jf,Jg,Jh,Ji,Jj,Jk,Jl,Jm,Jn,Jo,Jp,Jq,Jr,Js,Jt,Ju,Jv,Jw,Jx,Jy,Jz,JA,JB,JC,JD,JE,JF,JG,JH,JI,JJ,JK,JL,JM,JN,JO,JP,stillI,IOp.kind,JQ,JR,JS,JT,JU,JV,JW,JX,JY,JZ,Y0,Y1,Y2,Y3,Y4,Y5,Y6,Y7,Y8,Y9,Ya,Yb,Yc,Yd,Ye,Yf,Yg,Yh,Yi,Yj,Yk,Yl,Ym,Yn,ial,Yo,Yp,Yq,Yr,Ys,Yt,Yu,Yv,ires,iresL,ires1,Yw,Yx,Yy,Yz,YA,YB,bin2,YC,YD,YE,YF,YG,YH,YI,YJ,YK,YL,YM,YN,YO,YP,YQ,YR,un1,shOk,eqL,eq1,fillL,putAt,IHeap.load1,IHeap.loadL,IHeap.storeL,YS,YT,YU,YV,YW,YX,YY,YZ,B0,B1,B2,B3,B4,B5,B6,B7,B8,B9,Ba,Bb,Bc,Bd,Be,Bf,Bg,Bh,Bi,Bj,Bk,Bl,Bm, nilOf, g2, r5, h1, h2, h3, h4']
            exact hK _ (IHeap.upd_refl _ _) rfl h rfl
          · have h4' : ¬ 64 ≤ sr := by omega
            rw [if_neg (by omega)] at hK
            simp -implicitDefEqProofs [J0,J1,J2,J3,J4,J5,J6,J7,J8,J9,Ja,Jb,Jc,Jd,Je,Jf,Jg,Jh,Ji,Jj,Jk,Jl,Jm,Jn,Jo,Jp,Jq,Jr,Js,Jt,Ju,Jv,Jw,Jx,Jy,Jz,JA,JB,JC,JD,JE,JF,JG,JH,JI,JJ,JK,JL,JM,JN,JO,JP,stillI,IOp.kind,JQ,JR,JS,JT,JU,JV,JW,JX,JY,JZ,Y0,Y1,Y2,Y3,Y4,Y5,Y6,Y7,Y8,Y9,Ya,Yb,Yc,Yd,Ye,Yf,Yg,Yh,Yi,Yj,Yk,Yl,Ym,Yn,ial,Yo,Yp,Yq,Yr,Ys,Yt,Yu,Yv,ires,iresL,ires1,Yw,Yx,Yy,Yz,YA,YB,bin2,YC,YD,YE,YF,YG,YH,YI,YJ,YK,YL,YM,YN,YO,YP,YQ,YR,un1,shOk,eqL,eq1,fillL,putAt,IHeap.load1,IHeap.loadL,IHeap.storeL,YS,YT,YU,YV,YW,YX,YY,YZ,B0,B1,B2,B3,B4,B5,B6,B7,B8,B9,Ba,Bb,Bc,Bd,Be,Bf,Bg,Bh,Bi,Bj,Bk,Bl,Bm, nilOf, g2, r5, h1, h2, h3, h4']
            refine call_of (Index_ok c hc hsl (by omega) ?_)
            by_cases h5 : 0 ≤ atI x.sv sr
            · by_cases h6 : atI x.sv sr = ix
              · rw [if_neg (by simp [h6])] at hK
                have h1p : 0 ≤ ix := by omega
                by_cases h7 : x.st = 3
                · rw [if_pos h7] at hK
                  simp -implicitDefEqProofs [J0,J1,J2,J3,J4,J5,J6,J7,J8,J9,Ja,Jb,Jc,Jd,Je,Jf,Jg,Jh,Ji,Jj,Jk,Jl,Jm,Jn,Jo,Jp,Jq,Jr,Js,Jt,Ju,Jv,Jw,Jx,Jy,Jz,JA,JB,JC,JD,JE,JF,JG,JH,JI,JJ,JK,JL,JM,JN,JO,JP,stillI,IOp.kind,JQ,JR,JS,JT,JU,JV,JW,JX,JY,JZ,Y0,Y1,Y2,Y3,Y4,Y5,Y6,Y7,Y8,Y9,Ya,Yb,Yc,Yd,Ye,Yf,Yg,Yh,Yi,Yj,Yk,Yl,Ym,Yn,ial,Yo,Yp,Yq,Yr,Ys,Yt,Yu,Yv,ires,iresL,ires1,Yw,Yx,Yy,Yz,YA,YB,bin2,YC,YD,YE,YF,YG,YH,YI,YJ,YK,YL,YM,YN,YO,YP,YQ,YR,un1,shOk,eqL,eq1,fillL,putAt,IHeap.load1,IHeap.loadL,IHeap.storeL,YS,YT,YU,YV,YW,YX,YY,YZ,B0,B1,B2,B3,B4,B5,B6,B7,B8,B9,Ba,Bb,Bc,Bd,Be,Bf,Bg,Bh,Bi,Bj,Bk,Bl,Bm, h5, h6, g2, r1, h7, h1p]
                  exact hK _ (IHeap.upd_refl _ _) rfl h rfl
                · rw [if_neg h7] at hK
                  obtain ⟨b1, b2, b3, b4⟩ := h.bl _ x hx
                  have hix : ix.toNat < x.sv.length := by omega
                  have hst : ix.toNat + 1 ≤ x.sv.length := by omega
                  have h2' : ix < (x.sv.length : Int) := by omega
                  have h1' : 0 ≤ ix := by omega
                  have hput' : List.take ix.toNat (List.map iV x.sv) ++ Value.int .i64 sr :: List.drop (ix.toNat + 1) (List.map iV x.sv) = (x.sv.map iV).set ix.toNat (iV sr) := by
                    have : putAt (List.map iV x.sv) ix.toNat [.int .i64 sr] = List.take ix.toNat (List.map iV x.sv) ++ Value.int .i64 sr :: List.drop (ix.toNat + 1) (List.map iV x.sv) := by simp [putAt]
                    rw [← this, putAt_iV hix sr, List.map_set]
                  simp -implicitDefEqProofs [J0,J1,J2,J3,J4,J5,J6,J7,J8,J9,Ja,Jb,Jc,Jd,Je,Jf,Jg,Jh,Ji,Jj,Jk,Jl,Jm,Jn,Jo,Jp,Jq,Jr,Js,Jt,Ju,Jv,Jw,Jx,Jy,Jz,JA,JB,JC,JD,JE,JF,JG,JH,JI,JJ,JK,JL,JM,JN,JO,JP,stillI,IOp.kind,JQ,JR,JS,JT,JU,JV,JW,JX,JY,JZ,Y0,Y1,Y2,Y3,Y4,Y5,Y6,Y7,Y8,Y9,Ya,Yb,Yc,Yd,Ye,Yf,Yg,Yh,Yi,Yj,Yk,Yl,Ym,Yn,ial,Yo,Yp,Yq,Yr,Ys,Yt,Yu,Yv,ires,iresL,ires1,Yw,Yx,Yy,Yz,YA,YB,bin2,YC,YD,YE,YF,YG,YH,YI,YJ,YK,YL,YM,YN,YO,YP,YQ,YR,un1,shOk,eqL,eq1,fillL,putAt,IHeap.load1,IHeap.loadL,IHeap.storeL,YS,YT,YU,YV,YW,YX,YY,YZ,B0,B1,B2,B3,B4,B5,B6,B7,B8,B9,Ba,Bb,Bc,Bd,Be,Bf,Bg,Bh,Bi,Bj,Bk,Bl,Bm, h5, h6, g2, r1, r5, h7, b2, hst, h2', h1', hput', boundsI, natI]
                  rw [← List.map_set]
                  refine hK _ ((IHeap.upd_refl _ _).set (.inr (b_foot i1)) _) rfl (h.mv hx (by simp) ⟨?_, hxo.s1, hxo.s3, hxo.ep⟩) (foot_set ..)
                  rw [St.may_iff]
                  refine ⟨hxm.1, hxm.2.1, hxm.2.2.1, hxm.2.2.2.1, hxm.2.2.2.2.1, by simp only [List.length_set]; exact hxm.2.2.2.2.2.1, by simp only [List.length_set]; exact hxm.2.2.2.2.2.2.1, apart_set hxm.2.2.2.2.2.2.2 (by omega) (by omega) fun j hj e => ?_⟩
                  have := atI_uniq hxm.2.2.2.2.2.2.2.2 e
                  omega
              · rw [if_pos ⟨h5, h6⟩] at hK
                simp -implicitDefEqProofs [J0,J1,J2,J3,J4,J5,J6,J7,J8,J9,Ja,Jb,Jc,Jd,Je,Jf,Jg,Jh,Ji,Jj,Jk,Jl,Jm,Jn,Jo,Jp,Jq,Jr,Js,Jt,Ju,Jv,Jw,Jx,Jy,Jz,JA,JB,JC,JD,JE,JF,JG,JH,JI,JJ,JK,JL,JM,JN,JO,JP,stillI,IOp.kind,JQ,JR,JS,JT,JU,JV,JW,JX,JY,JZ,Y0,Y1,Y2,Y3,Y4,Y5,Y6,Y7,Y8,Y9,Ya,Yb,Yc,Yd,Ye,Yf,Yg,Yh,Yi,Yj,Yk,Yl,Ym,Yn,ial,Yo,Yp,Yq,Yr,Ys,Yt,Yu,Yv,ires,iresL,ires1,Yw,Yx,Yy,Yz,YA,YB,bin2,YC,YD,YE,YF,YG,YH,YI,YJ,YK,YL,YM,YN,YO,YP,YQ,YR,un1,shOk,eqL,eq1,fillL,putAt,IHeap.load1,IHeap.loadL,IHeap.storeL,YS,YT,YU,YV,YW,YX,YY,YZ,B0,B1,B2,B3,B4,B5,B6,B7,B8,B9,Ba,Bb,Bc,Bd,Be,Bf,Bg,Bh,Bi,Bj,Bk,Bl,Bm, h5, h6]
                exact hK _ (IHeap.upd_refl _ _) rfl h rfl
            · rw [if_neg (fun hh => h5 hh.1)] at hK
              by_cases h7 : x.st = 3
              · rw [if_pos h7] at hK
                simp -implicitDefEqProofs [J0,J1,J2,J3,J4,J5,J6,J7,J8,J9,Ja,Jb,Jc,Jd,Je,Jf,Jg,Jh,Ji,Jj,Jk,Jl,Jm,Jn,Jo,Jp,Jq,Jr,Js,Jt,Ju,Jv,Jw,Jx,Jy,Jz,JA,JB,JC,JD,JE,JF,JG,JH,JI,JJ,JK,JL,JM,JN,JO,JP,stillI,IOp.kind,JQ,JR,JS,JT,JU,JV,JW,JX,JY,JZ,Y0,Y1,Y2,Y3,Y4,Y5,Y6,Y7,Y8,Y9,Ya,Yb,Yc,Yd,Ye,Yf,Yg,Yh,Yi,Yj,Yk,Yl,Ym,Yn,ial,Yo,Yp,Yq,Yr,Ys,Yt,Yu,Yv,ires,iresL,ires1,Yw,Yx,Yy,Yz,YA,YB,bin2,YC,YD,YE,YF,YG,YH,YI,YJ,YK,YL,YM,YN,YO,YP,YQ,YR,un1,shOk,eqL,eq1,fillL,putAt,IHeap.load1,IHeap.loadL,IHeap.storeL,YS,YT,YU,YV,YW,YX,YY,YZ,B0,B1,B2,B3,B4,B5,B6,B7,B8,B9,Ba,Bb,Bc,Bd,Be,Bf,Bg,Bh,Bi,Bj,Bk,Bl,Bm, h5, g2, r1, h7]
                exact hK _ (IHeap.upd_refl _ _) rfl h rfl
              · rw [if_neg h7] at hK
                obtain ⟨b1, b2, b3, b4⟩ := h.bl _ x hx
                have hix : ix.toNat < x.sv.length := by omega
                have hst : ix.toNat + 1 ≤ x.sv.length := by omega
                have h2' : ix < (x.sv.length : Int) := by omega
                have h1' : 0 ≤ ix := by omega
                have hput' : List.take ix.toNat (List.map iV x.sv) ++ Value.int .i64 sr :: List.drop (ix.toNat + 1) (List.map iV x.sv) = (x.sv.map iV).set ix.toNat (iV sr) := by
                  have : putAt (List.map iV x.sv) ix.toNat [.int .i64 sr] = List.take ix.toNat (List.map iV x.sv) ++ Value.int .i64 sr :: List.drop (ix.toNat + 1) (List.map iV x.sv) := by simp [putAt]
                  rw [← this, putAt_iV hix sr, List.map_set]
                simp -implicitDefEqProofs [J0,J1,J2,J3,J4,J5,J6,J7,J8,J9,Ja,Jb,Jc,Jd,Je,Jf,Jg,Jh,Ji,Jj,Jk,Jl,Jm,Jn,Jo,Jp,Jq,Jr,Js,Jt,Ju,Jv,Jw,Jx,Jy,Jz,JA,JB,JC,JD,JE,JF,JG,JH,JI,JJ,JK,JL,JM,JN,JO,JP,stillI,IOp.kind,JQ,JR,JS,JT,JU,JV,JW,JX,JY,JZ,Y0,Y1,Y2,Y3,Y4,Y5,Y6,Y7,Y8,Y9,Ya,Yb,Yc,Yd,Ye,Yf,Yg,Yh,Yi,Yj,Yk,Yl,Ym,Yn,ial,Yo,Yp,Yq,Yr,Ys,Yt,Yu,Yv,ires,iresL,ires1,Yw,Yx,Yy,Yz,YA,YB,bin2,YC,YD,YE,YF,YG,YH,YI,YJ,YK,YL,YM,YN,YO,YP,YQ,YR,un1,shOk,eqL,eq1,fillL,putAt,IHeap.load1,IHeap.loadL,IHeap.storeL,YS,YT,YU,YV,YW,YX,YY,YZ,B0,B1,B2,B3,B4,B5,B6,B7,B8,B9,Ba,Bb,Bc,Bd,Be,Bf,Bg,Bh,Bi,Bj,Bk,Bl,Bm, h5, g2, r1, r5, h7, b2, hst, h2', h1', hput', boundsI, natI]
                rw [← List.map_set]
                refine hK _ ((IHeap.upd_refl _ _).set (.inr (b_foot i1)) _) rfl (h.mv hx (by simp) ⟨?_, hxo.s1, hxo.s3, hxo.ep⟩) (foot_set ..)
                rw [St.may_iff]
                refine ⟨hxm.1, hxm.2.1, hxm.2.2.1, hxm.2.2.2.1, hxm.2.2.2.2.1, by simp only [List.length_set]; exact hxm.2.2.2.2.2.1, by simp only [List.length_set]; exact hxm.2.2.2.2.2.2.1, apart_set hxm.2.2.2.2.2.2.2 (by omega) (by omega) fun j hj e => ?_⟩
                have hm : sr ∈ x.sv := List.mem_of_getElem? e
                exfalso
                have h9 : ¬ atI x.sv sr < 0 := fun hlt => atI_neg.1 hlt hm
                omega

end
end Go.Proofs.YtmdkkhnenciknaaI
