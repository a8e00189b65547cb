/- Stripes that are known: what an owner began is freed with it; stripes that are none. -/
import Derived.Test.YtmdkkhnenciknaaSmS
namespace Go.Proofs.YtmdkkhnenciknaaI
set_option linter.unusedSimpArgs false
set_option linter.unusedVariables false
open Go

theorem wh_app (f : St → Bool) : ∀ (A B : List St) (n : Nat), wh f n (A ++ B) = wh f n A ++ wh f (n + A.length) B
  | [], B, n => by simp [wh]
  | x :: A, B, n => by
    simp only [List.cons_append, wh, List.length_cons]
    rw [wh_app f A B (n + 1)]
    have e : n + 1 + A.length = n + (A.length + 1) := by omega
    rw [e]
    split <;> simp
theorem wh_at {f : St → Bool} {L : List St} {i : Nat} {x : St} (hx : L[i]? = some x) (hf : f x = true) : (wh f 0 L)[(wh f 0 (L.take i)).length]? = some (i : Int) := by
  have hi := (List.getElem?_eq_some_iff.1 hx).1
  have e : L = L.take i ++ (x :: L.drop (i + 1)) := by
    have := List.drop_eq_getElem_cons hi
    rw [(List.getElem?_eq_some_iff.1 hx).2] at this
    rw [← this, List.take_append_drop]
  have hl : 0 + (L.take i).length = i := by rw [List.length_take]; omega
  have h2 : wh f 0 L = wh f 0 (L.take i) ++ (i : Int) :: wh f (i + 1) (L.drop (i + 1)) := by
    conv => lhs; rw [e]
    rw [wh_app, hl, wh, if_pos hf]
  rw [h2, List.getElem?_append_right (Nat.le_refl _), Nat.sub_self]
  rfl
theorem wh_take_succ {f : St → Bool} {L : List St} {i : Nat} {x : St} (hx : L[i]? = some x) : (wh f 0 (L.take (i + 1))).length = (wh f 0 (L.take i)).length + (if f x then 1 else 0) := by
  have hi := (List.getElem?_eq_some_iff.1 hx).1
  have htk : L.take (i + 1) = L.take i ++ [x] := by rw [List.take_add_one, hx]; rfl
  rw [htk, wh_snoc]
  split <;> simp
theorem drop_get {L : List St} {ow : Int} {i : Nat} {x : St} (hx : L[i]? = some x) : gst (SDrop L ow).1 (i : Int) = (true, i, freeS ow x) := by
  have h1 : ¬ (i : Int) < 0 := by omega
  simp [gst, getS, SDrop, freeS, List.getElem?_map, hx, h1]

section
variable (c : Ctx) (hc : HasSmap c) (hC : HasCodec c) (hR : HasRef24 c) (h23 : HasRef23 c) (h3 : HasRef03 c) (h01 : HasRef01 c) (hT : HasLaw24 c) (hA : ∀ H K, K (.bool true) H → c.C (c.F n_hurdlelaw24_awake) [] H K) {H : IHeap} {K : Value → IHeap → Prop}

include hc hR h23 h01 hT hA in
theorem drop_ok24 {l : List DS} {u : Value} {ow : Int} (hu : Deeds H u l) (hK : ∀ H', K (.bool true) H') :
    c.C (c.F n_hurdlelaw24_SmapDrop) [u, .int .i64 ow] H K := by
  refine c.enter hT.hurdlelaw24_SmapDrop rfl ?_
  obtain ⟨a, cap, eu⟩ := hu.len
  simp -implicitDefEqProofs [J0,J1,J2,J3,J4,J5,J6,J7,J8,J9,Ja,Jb,Jc,Jd,Je,Jf,Jg,Jh,Ji,Jj,Jk,Jl,Jm,Jn,Jo,Jp,Jq,Jr,Js,Jt,Ju,Jv,Jw,Jx,Jy,Jz,JA,JB,JC,JD,JE,JF,JG,JH,JI,JJ,JK,JL,JM,JN,JO,JP,stillI,IOp.kind,JQ,JR,JS,JT,JU,JV,JW,JX,JY,JZ,Y0,Y1,Y2,Y3,Y4,Y5,Y6,Y7,Y8,Y9,Ya,Yb,Yc,Yd,Ye,Yf,Yg,Yh,Yi,Yj,Yk,Yl,Ym,Yn,ial,Yo,Yp,Yq,Yr,Ys,Yt,Yu,Yv,ires,iresL,ires1,Yw,Yx,Yy,Yz,YA,YB,bin2,YC,YD,YE,YF,YG,YH,YI,YJ,YK,YL,YM,YN,YO,YP,YQ,YR,un1,shOk,eqL,eq1,fillL,putAt,IHeap.load1,IHeap.loadL,IHeap.storeL,YS,YT,YU,YV,YW,YX,YY,YZ,B0,B1,B2,B3,B4,B5,B6,B7,B8,B9,Ba,Bb,Bc,Bd,Be,Bf,Bg,Bh,Bi,Bj,Bk,Bl,Bm, c_hurdlelaw24_SmapDrop]
  refine call_of (Few_ok24 c hT hu (fun _ => ?_) fun hl80 hl20 => ?_)
  · simp -implicitDefEqProofs [J0,J1,J2,J3,J4,J5,J6,J7,J8,J9,Ja,Jb,Jc,Jd,Je,Jf,Jg,Jh,Ji,Jj,Jk,Jl,Jm,Jn,Jo,Jp,Jq,Jr,Js,Jt,Ju,Jv,Jw,Jx,Jy,Jz,JA,JB,JC,JD,JE,JF,JG,JH,JI,JJ,JK,JL,JM,JN,JO,JP,stillI,IOp.kind,JQ,JR,JS,JT,JU,JV,JW,JX,JY,JZ,Y0,Y1,Y2,Y3,Y4,Y5,Y6,Y7,Y8,Y9,Ya,Yb,Yc,Yd,Ye,Yf,Yg,Yh,Yi,Yj,Yk,Yl,Ym,Yn,ial,Yo,Yp,Yq,Yr,Ys,Yt,Yu,Yv,ires,iresL,ires1,Yw,Yx,Yy,Yz,YA,YB,bin2,YC,YD,YE,YF,YG,YH,YI,YJ,YK,YL,YM,YN,YO,YP,YQ,YR,un1,shOk,eqL,eq1,fillL,putAt,IHeap.load1,IHeap.loadL,IHeap.storeL,YS,YT,YU,YV,YW,YX,YY,YZ,B0,B1,B2,B3,B4,B5,B6,B7,B8,B9,Ba,Bb,Bc,Bd,Be,Bf,Bg,Bh,Bi,Bj,Bk,Bl,Bm]
    refine call_of (hA _ _ ?_)
    simp -implicitDefEqProofs [J0,J1,J2,J3,J4,J5,J6,J7,J8,J9,Ja,Jb,Jc,Jd,Je,Jf,Jg,Jh,Ji,Jj,Jk,Jl,Jm,Jn,Jo,Jp,Jq,Jr,Js,Jt,Ju,Jv,Jw,Jx,Jy,Jz,JA,JB,JC,JD,JE,JF,JG,JH,JI,JJ,JK,JL,JM,JN,JO,JP,stillI,IOp.kind,JQ,JR,JS,JT,JU,JV,JW,JX,JY,JZ,Y0,Y1,Y2,Y3,Y4,Y5,Y6,Y7,Y8,Y9,Ya,Yb,Yc,Yd,Ye,Yf,Yg,Yh,Yi,Yj,Yk,Yl,Ym,Yn,ial,Yo,Yp,Yq,Yr,Ys,Yt,Yu,Yv,ires,iresL,ires1,Yw,Yx,Yy,Yz,YA,YB,bin2,YC,YD,YE,YF,YG,YH,YI,YJ,YK,YL,YM,YN,YO,YP,YQ,YR,un1,shOk,eqL,eq1,fillL,putAt,IHeap.load1,IHeap.loadL,IHeap.storeL,YS,YT,YU,YV,YW,YX,YY,YZ,B0,B1,B2,B3,B4,B5,B6,B7,B8,B9,Ba,Bb,Bc,Bd,Be,Bf,Bg,Bh,Bi,Bj,Bk,Bl,Bm]
    exact hK _
  · simp -implicitDefEqProofs [J0,J1,J2,J3,J4,J5,J6,J7,J8,J9,Ja,Jb,Jc,Jd,Je,Jf,Jg,Jh,Ji,Jj,Jk,Jl,Jm,Jn,Jo,Jp,Jq,Jr,Js,Jt,Ju,Jv,Jw,Jx,Jy,Jz,JA,JB,JC,JD,JE,JF,JG,JH,JI,JJ,JK,JL,JM,JN,JO,JP,stillI,IOp.kind,JQ,JR,JS,JT,JU,JV,JW,JX,JY,JZ,Y0,Y1,Y2,Y3,Y4,Y5,Y6,Y7,Y8,Y9,Ya,Yb,Yc,Yd,Ye,Yf,Yg,Yh,Yi,Yj,Yk,Yl,Ym,Yn,ial,Yo,Yp,Yq,Yr,Ys,Yt,Yu,Yv,ires,iresL,ires1,Yw,Yx,Yy,Yz,YA,YB,bin2,YC,YD,YE,YF,YG,YH,YI,YJ,YK,YL,YM,YN,YO,YP,YQ,YR,un1,shOk,eqL,eq1,fillL,putAt,IHeap.load1,IHeap.loadL,IHeap.storeL,YS,YT,YU,YV,YW,YX,YY,YZ,B0,B1,B2,B3,B4,B5,B6,B7,B8,B9,Ba,Bb,Bc,Bd,Be,Bf,Bg,Bh,Bi,Bj,Bk,Bl,Bm]
    refine call_of (SNew_ok c hc fun H1 k1 m1 => ?_)
    simp -implicitDefEqProofs [J0,J1,J2,J3,J4,J5,J6,J7,J8,J9,Ja,Jb,Jc,Jd,Je,Jf,Jg,Jh,Ji,Jj,Jk,Jl,Jm,Jn,Jo,Jp,Jq,Jr,Js,Jt,Ju,Jv,Jw,Jx,Jy,Jz,JA,JB,JC,JD,JE,JF,JG,JH,JI,JJ,JK,JL,JM,JN,JO,JP,stillI,IOp.kind,JQ,JR,JS,JT,JU,JV,JW,JX,JY,JZ,Y0,Y1,Y2,Y3,Y4,Y5,Y6,Y7,Y8,Y9,Ya,Yb,Yc,Yd,Ye,Yf,Yg,Yh,Yi,Yj,Yk,Yl,Ym,Yn,ial,Yo,Yp,Yq,Yr,Ys,Yt,Yu,Yv,ires,iresL,ires1,Yw,Yx,Yy,Yz,YA,YB,bin2,YC,YD,YE,YF,YG,YH,YI,YJ,YK,YL,YM,YN,YO,YP,YQ,YR,un1,shOk,eqL,eq1,fillL,putAt,IHeap.load1,IHeap.loadL,IHeap.storeL,YS,YT,YU,YV,YW,YX,YY,YZ,B0,B1,B2,B3,B4,B5,B6,B7,B8,B9,Ba,Bb,Bc,Bd,Be,Bf,Bg,Bh,Bi,Bj,Bk,Bl,Bm]
    have n1 := k1.next
    refine loop_nat c.mono (fun k T H' => ∃ i : Nat, i ≤ l.length ∧ k = l.length - i ∧ T 0 = u ∧ T 1 = .int .i64 ow ∧ T 5 = .pointer (some ⟨H.next, 0, none⟩) ∧ T 7 = .int .i64 i ∧ H.le H' ∧ ∃ L, PlI H.next H' [] H.next (T 6) L) l.length ?_ ?_
    · refine ⟨0, by omega, rfl, ?_⟩
      simp -implicitDefEqProofs [J0,J1,J2,J3,J4,J5,J6,J7,J8,J9,Ja,Jb,Jc,Jd,Je,Jf,Jg,Jh,Ji,Jj,Jk,Jl,Jm,Jn,Jo,Jp,Jq,Jr,Js,Jt,Ju,Jv,Jw,Jx,Jy,Jz,JA,JB,JC,JD,JE,JF,JG,JH,JI,JJ,JK,JL,JM,JN,JO,JP,stillI,IOp.kind,JQ,JR,JS,JT,JU,JV,JW,JX,JY,JZ,Y0,Y1,Y2,Y3,Y4,Y5,Y6,Y7,Y8,Y9,Ya,Yb,Yc,Yd,Ye,Yf,Yg,Yh,Yi,Yj,Yk,Yl,Ym,Yn,ial,Yo,Yp,Yq,Yr,Ys,Yt,Yu,Yv,ires,iresL,ires1,Yw,Yx,Yy,Yz,YA,YB,bin2,YC,YD,YE,YF,YG,YH,YI,YJ,YK,YL,YM,YN,YO,YP,YQ,YR,un1,shOk,eqL,eq1,fillL,putAt,IHeap.load1,IHeap.loadL,IHeap.storeL,YS,YT,YU,YV,YW,YX,YY,YZ,B0,B1,B2,B3,B4,B5,B6,B7,B8,B9,Ba,Bb,Bc,Bd,Be,Bf,Bg,Bh,Bi,Bj,Bk,Bl,Bm]
      exact ⟨k1, [], _, _, m1, RS.nil _ _, by simp [foot]⟩
    · rintro k T H' ⟨i, hi, rfl, t0, t1, t5, t7, hle, L, hP⟩
      have nH := hle.next
      by_cases hil : i < l.length
      · have hil' : (i : Int) < (l.length : Int) := by omega
        have hd : l[i]? = some l[i] := List.getElem?_eq_getElem hil
        obtain ⟨d, hde⟩ : ∃ d, d = l[i] := ⟨_, rfl⟩
        rw [← hde] at hd
        have hd20 := hl20 d (List.mem_of_getElem? hd)
        obtain ⟨b, o, cp, cs, ro, aw, cw, ea, hb, hget, hrow, hbd, hw2, hep⟩ := hu.at hd
        rw [ea] at t0 eu
        simp only [Value.slice.injEq] at eu
        obtain ⟨rfl, -, rfl⟩ := eu
        have hw : IntKind.i64.wrap ((i : Int) + 1) = (i : Int) + 1 := wrap64 (by omega) (by omega)
        simp only [rowDS] at hrow
        have hget' := (hle.get b hb).trans hget
        simp -implicitDefEqProofs [J0,J1,J2,J3,J4,J5,J6,J7,J8,J9,Ja,Jb,Jc,Jd,Je,Jf,Jg,Jh,Ji,Jj,Jk,Jl,Jm,Jn,Jo,Jp,Jq,Jr,Js,Jt,Ju,Jv,Jw,Jx,Jy,Jz,JA,JB,JC,JD,JE,JF,JG,JH,JI,JJ,JK,JL,JM,JN,JO,JP,stillI,IOp.kind,JQ,JR,JS,JT,JU,JV,JW,JX,JY,JZ,Y0,Y1,Y2,Y3,Y4,Y5,Y6,Y7,Y8,Y9,Ya,Yb,Yc,Yd,Ye,Yf,Yg,Yh,Yi,Yj,Yk,Yl,Ym,Yn,ial,Yo,Yp,Yq,Yr,Ys,Yt,Yu,Yv,ires,iresL,ires1,Yw,Yx,Yy,Yz,YA,YB,bin2,YC,YD,YE,YF,YG,YH,YI,YJ,YK,YL,YM,YN,YO,YP,YQ,YR,un1,shOk,eqL,eq1,fillL,putAt,IHeap.load1,IHeap.loadL,IHeap.storeL,YS,YT,YU,YV,YW,YX,YY,YZ,B0,B1,B2,B3,B4,B5,B6,B7,B8,B9,Ba,Bb,Bc,Bd,Be,Bf,Bg,Bh,Bi,Bj,Bk,Bl,Bm, t0, t1, t5, t7, hil, hil', hget', hrow, hbd]
        refine call_of (do_ok24' c hc hR h23 h01 hT (d := d) hP nH (by simp) (hw2.le hle) (by omega) hep fun v' H2 kk n2 _ hP2 => ?_)
        simp -implicitDefEqProofs [J0,J1,J2,J3,J4,J5,J6,J7,J8,J9,Ja,Jb,Jc,Jd,Je,Jf,Jg,Jh,Ji,Jj,Jk,Jl,Jm,Jn,Jo,Jp,Jq,Jr,Js,Jt,Ju,Jv,Jw,Jx,Jy,Jz,JA,JB,JC,JD,JE,JF,JG,JH,JI,JJ,JK,JL,JM,JN,JO,JP,stillI,IOp.kind,JQ,JR,JS,JT,JU,JV,JW,JX,JY,JZ,Y0,Y1,Y2,Y3,Y4,Y5,Y6,Y7,Y8,Y9,Ya,Yb,Yc,Yd,Ye,Yf,Yg,Yh,Yi,Yj,Yk,Yl,Ym,Yn,ial,Yo,Yp,Yq,Yr,Ys,Yt,Yu,Yv,ires,iresL,ires1,Yw,Yx,Yy,Yz,YA,YB,bin2,YC,YD,YE,YF,YG,YH,YI,YJ,YK,YL,YM,YN,YO,YP,YQ,YR,un1,shOk,eqL,eq1,fillL,putAt,IHeap.load1,IHeap.loadL,IHeap.storeL,YS,YT,YU,YV,YW,YX,YY,YZ,B0,B1,B2,B3,B4,B5,B6,B7,B8,B9,Ba,Bb,Bc,Bd,Be,Bf,Bg,Bh,Bi,Bj,Bk,Bl,Bm, t0, t1, t5, t7, hw]
        exact ⟨l.length - (i + 1), by omega, i + 1, by omega, rfl, ea.symm, by simp, kk H (Nat.le_refl _) hle, _, hP2⟩
      · have hil' : ¬ (i : Int) < (l.length : Int) := by omega
        obtain ⟨q, bs, i2, rr2, f2⟩ := hP
        rw [eu] at t0
        simp -implicitDefEqProofs [J0,J1,J2,J3,J4,J5,J6,J7,J8,J9,Ja,Jb,Jc,Jd,Je,Jf,Jg,Jh,Ji,Jj,Jk,Jl,Jm,Jn,Jo,Jp,Jq,Jr,Js,Jt,Ju,Jv,Jw,Jx,Jy,Jz,JA,JB,JC,JD,JE,JF,JG,JH,JI,JJ,JK,JL,JM,JN,JO,JP,stillI,IOp.kind,JQ,JR,JS,JT,JU,JV,JW,JX,JY,JZ,Y0,Y1,Y2,Y3,Y4,Y5,Y6,Y7,Y8,Y9,Ya,Yb,Yc,Yd,Ye,Yf,Yg,Yh,Yi,Yj,Yk,Yl,Ym,Yn,ial,Yo,Yp,Yq,Yr,Ys,Yt,Yu,Yv,ires,iresL,ires1,Yw,Yx,Yy,Yz,YA,YB,bin2,YC,YD,YE,YF,YG,YH,YI,YJ,YK,YL,YM,YN,YO,YP,YQ,YR,un1,shOk,eqL,eq1,fillL,putAt,IHeap.load1,IHeap.loadL,IHeap.storeL,YS,YT,YU,YV,YW,YX,YY,YZ,B0,B1,B2,B3,B4,B5,B6,B7,B8,B9,Ba,Bb,Bc,Bd,Be,Bf,Bg,Bh,Bi,Bj,Bk,Bl,Bm, t0, t1, t5, t7, hil, hil']
        refine call_of (SDrop_ok c hc (ow := ow) i2 fun vd Z1 u1 i3 f3 s3 => ?_)
        have rr3 := rr2.upd (upd_more u1 fun b hb => List.mem_append_left _ hb)
        obtain ⟨ad, cd, rfl⟩ := s3.len
        rw [List.length_map] at s3 ⊢
        obtain ⟨av, cv, ev⟩ := rr3.lenv
        have hwl := wh_le (isOf ow) L 0
        have hd2 : (SDrop L ow).2 = wh (isOf ow) 0 L := rfl
        rw [hd2] at s3 ⊢
        have hlen := i2.len
        obtain ⟨out, hout⟩ : ∃ out, out = wh (isOf ow) 0 L := ⟨_, rfl⟩
        rw [← hout] at s3 hwl ⊢
        simp -implicitDefEqProofs [J0,J1,J2,J3,J4,J5,J6,J7,J8,J9,Ja,Jb,Jc,Jd,Je,Jf,Jg,Jh,Ji,Jj,Jk,Jl,Jm,Jn,Jo,Jp,Jq,Jr,Js,Jt,Ju,Jv,Jw,Jx,Jy,Jz,JA,JB,JC,JD,JE,JF,JG,JH,JI,JJ,JK,JL,JM,JN,JO,JP,stillI,IOp.kind,JQ,JR,JS,JT,JU,JV,JW,JX,JY,JZ,Y0,Y1,Y2,Y3,Y4,Y5,Y6,Y7,Y8,Y9,Ya,Yb,Yc,Yd,Ye,Yf,Yg,Yh,Yi,Yj,Yk,Yl,Ym,Yn,ial,Yo,Yp,Yq,Yr,Ys,Yt,Yu,Yv,ires,iresL,ires1,Yw,Yx,Yy,Yz,YA,YB,bin2,YC,YD,YE,YF,YG,YH,YI,YJ,YK,YL,YM,YN,YO,YP,YQ,YR,un1,shOk,eqL,eq1,fillL,putAt,IHeap.load1,IHeap.loadL,IHeap.storeL,YS,YT,YU,YV,YW,YX,YY,YZ,B0,B1,B2,B3,B4,B5,B6,B7,B8,B9,Ba,Bb,Bc,Bd,Be,Bf,Bg,Bh,Bi,Bj,Bk,Bl,Bm, t1, t5, ← hout]
        refine loop_nat c.mono (fun k T2 H2 => ∃ j : Nat, j ≤ L.length ∧ k = L.length - j ∧ T2 1 = .int .i64 ow ∧ T2 5 = .pointer (some ⟨H.next, 0, none⟩) ∧ T2 6 = .slice av L.length cv ∧ T2 10 = .slice ad out.length cd ∧ T2 11 = .int .i64 (wh (isOf ow) 0 (L.take j)).length ∧ T2 12 = .int .i64 j ∧ Z1.le H2) L.length ?_ ?_
        · refine ⟨0, by omega, rfl, ?_⟩
          simp -implicitDefEqProofs [J0,J1,J2,J3,J4,J5,J6,J7,J8,J9,Ja,Jb,Jc,Jd,Je,Jf,Jg,Jh,Ji,Jj,Jk,Jl,Jm,Jn,Jo,Jp,Jq,Jr,Js,Jt,Ju,Jv,Jw,Jx,Jy,Jz,JA,JB,JC,JD,JE,JF,JG,JH,JI,JJ,JK,JL,JM,JN,JO,JP,stillI,IOp.kind,JQ,JR,JS,JT,JU,JV,JW,JX,JY,JZ,Y0,Y1,Y2,Y3,Y4,Y5,Y6,Y7,Y8,Y9,Ya,Yb,Yc,Yd,Ye,Yf,Yg,Yh,Yi,Yj,Yk,Yl,Ym,Yn,ial,Yo,Yp,Yq,Yr,Ys,Yt,Yu,Yv,ires,iresL,ires1,Yw,Yx,Yy,Yz,YA,YB,bin2,YC,YD,YE,YF,YG,YH,YI,YJ,YK,YL,YM,YN,YO,YP,YQ,YR,un1,shOk,eqL,eq1,fillL,putAt,IHeap.load1,IHeap.loadL,IHeap.storeL,YS,YT,YU,YV,YW,YX,YY,YZ,B0,B1,B2,B3,B4,B5,B6,B7,B8,B9,Ba,Bb,Bc,Bd,Be,Bf,Bg,Bh,Bi,Bj,Bk,Bl,Bm]
          exact ⟨t1, t5, ev, by simp [wh], IHeap.le_refl _⟩
        · rintro k T2 H2 ⟨j, hj, rfl, e1, e5, e6, e10, e11, e12, hle2⟩
          by_cases hjl : j < L.length
          · have hjl' : (j : Int) < (L.length : Int) := by omega
            have hx : L[j]? = some L[j] := List.getElem?_eq_getElem hjl
            obtain ⟨x, hxe⟩ : ∃ x, x = L[j] := ⟨_, rfl⟩
            rw [← hxe] at hx
            have hxo := i2.ok x (List.mem_of_getElem? hx)
            have hx8 := (St.may_iff.1 hxo.may).2.2.2.2.2.2.1
            have hgs := drop_get (ow := ow) hx
            have hsucc := wh_take_succ (f := isOf ow) hx
            have hwl2 := wh_le (isOf ow) (L.take j) 0
            rw [List.length_take] at hwl2
            obtain ⟨b, o, cp, cs, ro, v, e, hb, hget, hrow, hbd, s5, o5, a5, c5, e5v⟩ := rr3.at hx
            rw [ev] at e
            simp only [Value.slice.injEq] at e
            obtain ⟨rfl, -, rfl⟩ := e
            subst e5v
            have r1 := row_get hrow 1 (by omega)
            have r2 := row_get hrow 2 (by omega)
            simp only [rowSt, List.getElem?_cons_succ, List.getElem?_cons_zero] at r1 r2
            simp only [rowSt] at hrow
            have hw : IntKind.i64.wrap ((j : Int) + 1) = (j : Int) + 1 := wrap64 (by omega) (by omega)
            simp -implicitDefEqProofs [J0,J1,J2,J3,J4,J5,J6,J7,J8,J9,Ja,Jb,Jc,Jd,Je,Jf,Jg,Jh,Ji,Jj,Jk,Jl,Jm,Jn,Jo,Jp,Jq,Jr,Js,Jt,Ju,Jv,Jw,Jx,Jy,Jz,JA,JB,JC,JD,JE,JF,JG,JH,JI,JJ,JK,JL,JM,JN,JO,JP,stillI,IOp.kind,JQ,JR,JS,JT,JU,JV,JW,JX,JY,JZ,Y0,Y1,Y2,Y3,Y4,Y5,Y6,Y7,Y8,Y9,Ya,Yb,Yc,Yd,Ye,Yf,Yg,Yh,Yi,Yj,Yk,Yl,Ym,Yn,ial,Yo,Yp,Yq,Yr,Ys,Yt,Yu,Yv,ires,iresL,ires1,Yw,Yx,Yy,Yz,YA,YB,bin2,YC,YD,YE,YF,YG,YH,YI,YJ,YK,YL,YM,YN,YO,YP,YQ,YR,un1,shOk,eqL,eq1,fillL,putAt,IHeap.load1,IHeap.loadL,IHeap.storeL,YS,YT,YU,YV,YW,YX,YY,YZ,B0,B1,B2,B3,B4,B5,B6,B7,B8,B9,Ba,Bb,Bc,Bd,Be,Bf,Bg,Bh,Bi,Bj,Bk,Bl,Bm, e1, e5, e6, e10, e11, e12, hjl, hjl']
            refine call_of (SGet_ok' c hc (id := (j : Int)) (i3.le hle2) fun w4 H4 k4 s4 _ => ?_)
            rw [hgs] at s4 ⊢
            simp only at s4 ⊢
            have n4 := k4.next
            have hl24 := hle2.trans k4
            have nb := hl24.next
            have hget4 := (hl24.get b hb).trans hget
            have s4' := s4
            obtain ⟨a4, c4, rfl⟩ := s4.len
            rw [List.length_map] at s4'
            obtain ⟨HX, hHX⟩ : ∃ X : IHeap, X = (H4.alloc (.cells [.int .i64 0, .int .i64 0, .int .i64 0, .int .i64 0, .int .i64 0, .slice none 0 0] false)).set H4.next (.cells [.int .i64 j, .int .i64 (freeS ow x).st, .int .i64 (freeS ow x).ow, .int .i64 (freeS ow x).ep, .int .i64 (freeS ow x).le, .slice a4 (freeS ow x).sv.length c4] false) := ⟨_, rfl⟩
            have kX : H4.le HX := by rw [hHX]; exact (H4.le_alloc _).set (Nat.le_refl _) _
            have nX : HX.next = H4.next + 1 := by rw [hHX]; rfl
            have gX : HX.get H4.next = some (.cells [.int .i64 j, .int .i64 (freeS ow x).st, .int .i64 (freeS ow x).ow, .int .i64 (freeS ow x).ep, .int .i64 (freeS ow x).le, .slice a4 (freeS ow x).sv.length c4] false) := by rw [hHX, YT, if_pos rfl]
            have hgetX := (kX.get b (by omega)).trans hget4
            by_cases hs : x.st = 1
            · by_cases ho : x.ow = ow
              · have hf : isOf ow x = true := by simp [isOf, hs, ho]
                have hfx : (freeS ow x).st = 3 := by simp [freeS, hf]
                have hat := wh_at (f := isOf ow) hx hf
                rw [if_pos hf] at hsucc
                rw [← hout] at hat
                obtain ⟨n, hn⟩ : ∃ n, n = (wh (isOf ow) 0 (L.take j)).length := ⟨_, rfl⟩
                rw [← hn] at hat hsucc hwl2 e11
                have hnl : n < out.length := (List.getElem?_eq_some_iff.1 hat).1
                have hnl' : ¬ (out.length : Int) ≤ (n : Int) := by omega
                have hnl2 : (n : Int) < (out.length : Int) := by omega
                obtain ⟨b6, o6, cp6, cs6, ro6, e6', hb6, hget6, hat6⟩ := s3.1.at1 (i := n) (x := .int .i64 j) (by simp [rowI, hat])
                rw [List.length_map] at e6'
                simp only [Value.slice.injEq] at e6'
                obtain ⟨rfl, -, rfl⟩ := e6'
                have hget6X := ((hl24.trans kX).get b6 hb6).trans hget6
                have hwn : IntKind.i64.wrap ((n : Int) + 1) = (n : Int) + 1 := wrap64 (by omega) (by omega)
                rw [hfx] at gX hHX
                simp -implicitDefEqProofs [J0,J1,J2,J3,J4,J5,J6,J7,J8,J9,Ja,Jb,Jc,Jd,Je,Jf,Jg,Jh,Ji,Jj,Jk,Jl,Jm,Jn,Jo,Jp,Jq,Jr,Js,Jt,Ju,Jv,Jw,Jx,Jy,Jz,JA,JB,JC,JD,JE,JF,JG,JH,JI,JJ,JK,JL,JM,JN,JO,JP,stillI,IOp.kind,JQ,JR,JS,JT,JU,JV,JW,JX,JY,JZ,Y0,Y1,Y2,Y3,Y4,Y5,Y6,Y7,Y8,Y9,Ya,Yb,Yc,Yd,Ye,Yf,Yg,Yh,Yi,Yj,Yk,Yl,Ym,Yn,ial,Yo,Yp,Yq,Yr,Ys,Yt,Yu,Yv,ires,iresL,ires1,Yw,Yx,Yy,Yz,YA,YB,bin2,YC,YD,YE,YF,YG,YH,YI,YJ,YK,YL,YM,YN,YO,YP,YQ,YR,un1,shOk,eqL,eq1,fillL,putAt,IHeap.load1,IHeap.loadL,IHeap.storeL,YS,YT,YU,YV,YW,YX,YY,YZ,B0,B1,B2,B3,B4,B5,B6,B7,B8,B9,Ba,Bb,Bc,Bd,Be,Bf,Bg,Bh,Bi,Bj,Bk,Bl,Bm, stV, hfx, e1, e5, e6, e10, e11, e12, List.length_map, ← hHX, hjl, hjl', hgetX, r1, r2, hs, ho, gX, hnl, hnl', hnl2, hget6X, hat6, hw, hwn]
                exact ⟨L.length - (j + 1), by omega, j + 1, by omega, rfl, by rw [hsucc]; simp, by simp, (hle2.trans k4).trans kX⟩
              · have hf : ¬ isOf ow x = true := by simp [isOf, ho]
                have hfx : freeS ow x = x := by simp [freeS, hf]
                rw [if_neg hf] at hsucc
                rw [hfx] at gX hHX s4'
                rw [hs] at r1
                simp -implicitDefEqProofs [J0,J1,J2,J3,J4,J5,J6,J7,J8,J9,Ja,Jb,Jc,Jd,Je,Jf,Jg,Jh,Ji,Jj,Jk,Jl,Jm,Jn,Jo,Jp,Jq,Jr,Js,Jt,Ju,Jv,Jw,Jx,Jy,Jz,JA,JB,JC,JD,JE,JF,JG,JH,JI,JJ,JK,JL,JM,JN,JO,JP,stillI,IOp.kind,JQ,JR,JS,JT,JU,JV,JW,JX,JY,JZ,Y0,Y1,Y2,Y3,Y4,Y5,Y6,Y7,Y8,Y9,Ya,Yb,Yc,Yd,Ye,Yf,Yg,Yh,Yi,Yj,Yk,Yl,Ym,Yn,ial,Yo,Yp,Yq,Yr,Ys,Yt,Yu,Yv,ires,iresL,ires1,Yw,Yx,Yy,Yz,YA,YB,bin2,YC,YD,YE,YF,YG,YH,YI,YJ,YK,YL,YM,YN,YO,YP,YQ,YR,un1,shOk,eqL,eq1,fillL,putAt,IHeap.load1,IHeap.loadL,IHeap.storeL,YS,YT,YU,YV,YW,YX,YY,YZ,B0,B1,B2,B3,B4,B5,B6,B7,B8,B9,Ba,Bb,Bc,Bd,Be,Bf,Bg,Bh,Bi,Bj,Bk,Bl,Bm, stV, hfx, e1, e5, e6, e10, e11, e12, List.length_map, ← hHX, hjl, hjl', hgetX, r1, r2, ho, gX, hrow, hbd]
                refine dcall_of c.mono (RSame_ok c hR h01 (x := x) (y := x) (s4'.le kX) (s5.le (hl24.trans kX)) (by omega) fun H5 k5 => ?_)
                simp -implicitDefEqProofs [J0,J1,J2,J3,J4,J5,J6,J7,J8,J9,Ja,Jb,Jc,Jd,Je,Jf,Jg,Jh,Ji,Jj,Jk,Jl,Jm,Jn,Jo,Jp,Jq,Jr,Js,Jt,Ju,Jv,Jw,Jx,Jy,Jz,JA,JB,JC,JD,JE,JF,JG,JH,JI,JJ,JK,JL,JM,JN,JO,JP,stillI,IOp.kind,JQ,JR,JS,JT,JU,JV,JW,JX,JY,JZ,Y0,Y1,Y2,Y3,Y4,Y5,Y6,Y7,Y8,Y9,Ya,Yb,Yc,Yd,Ye,Yf,Yg,Yh,Yi,Yj,Yk,Yl,Ym,Yn,ial,Yo,Yp,Yq,Yr,Ys,Yt,Yu,Yv,ires,iresL,ires1,Yw,Yx,Yy,Yz,YA,YB,bin2,YC,YD,YE,YF,YG,YH,YI,YJ,YK,YL,YM,YN,YO,YP,YQ,YR,un1,shOk,eqL,eq1,fillL,putAt,IHeap.load1,IHeap.loadL,IHeap.storeL,YS,YT,YU,YV,YW,YX,YY,YZ,B0,B1,B2,B3,B4,B5,B6,B7,B8,B9,Ba,Bb,Bc,Bd,Be,Bf,Bg,Bh,Bi,Bj,Bk,Bl,Bm, same_refl, e1, e5, e6, e10, e11, e12, hw]
                exact ⟨L.length - (j + 1), by omega, j + 1, by omega, rfl, by rw [hsucc]; rfl, by simp, ((hle2.trans k4).trans kX).trans k5⟩
            · have hf : ¬ isOf ow x = true := by simp [isOf, hs]
              have hfx : freeS ow x = x := by simp [freeS, hf]
              rw [if_neg hf] at hsucc
              rw [hfx] at gX hHX s4'
              simp -implicitDefEqProofs [J0,J1,J2,J3,J4,J5,J6,J7,J8,J9,Ja,Jb,Jc,Jd,Je,Jf,Jg,Jh,Ji,Jj,Jk,Jl,Jm,Jn,Jo,Jp,Jq,Jr,Js,Jt,Ju,Jv,Jw,Jx,Jy,Jz,JA,JB,JC,JD,JE,JF,JG,JH,JI,JJ,JK,JL,JM,JN,JO,JP,stillI,IOp.kind,JQ,JR,JS,JT,JU,JV,JW,JX,JY,JZ,Y0,Y1,Y2,Y3,Y4,Y5,Y6,Y7,Y8,Y9,Ya,Yb,Yc,Yd,Ye,Yf,Yg,Yh,Yi,Yj,Yk,Yl,Ym,Yn,ial,Yo,Yp,Yq,Yr,Ys,Yt,Yu,Yv,ires,iresL,ires1,Yw,Yx,Yy,Yz,YA,YB,bin2,YC,YD,YE,YF,YG,YH,YI,YJ,YK,YL,YM,YN,YO,YP,YQ,YR,un1,shOk,eqL,eq1,fillL,putAt,IHeap.load1,IHeap.loadL,IHeap.storeL,YS,YT,YU,YV,YW,YX,YY,YZ,B0,B1,B2,B3,B4,B5,B6,B7,B8,B9,Ba,Bb,Bc,Bd,Be,Bf,Bg,Bh,Bi,Bj,Bk,Bl,Bm, stV, hfx, e1, e5, e6, e10, e11, e12, List.length_map, ← hHX, hjl, hjl', hgetX, r1, r2, hs, gX, hrow, hbd]
              refine dcall_of c.mono (RSame_ok c hR h01 (x := x) (y := x) (s4'.le kX) (s5.le (hl24.trans kX)) (by omega) fun H5 k5 => ?_)
              simp -implicitDefEqProofs [J0,J1,J2,J3,J4,J5,J6,J7,J8,J9,Ja,Jb,Jc,Jd,Je,Jf,Jg,Jh,Ji,Jj,Jk,Jl,Jm,Jn,Jo,Jp,Jq,Jr,Js,Jt,Ju,Jv,Jw,Jx,Jy,Jz,JA,JB,JC,JD,JE,JF,JG,JH,JI,JJ,JK,JL,JM,JN,JO,JP,stillI,IOp.kind,JQ,JR,JS,JT,JU,JV,JW,JX,JY,JZ,Y0,Y1,Y2,Y3,Y4,Y5,Y6,Y7,Y8,Y9,Ya,Yb,Yc,Yd,Ye,Yf,Yg,Yh,Yi,Yj,Yk,Yl,Ym,Yn,ial,Yo,Yp,Yq,Yr,Ys,Yt,Yu,Yv,ires,iresL,ires1,Yw,Yx,Yy,Yz,YA,YB,bin2,YC,YD,YE,YF,YG,YH,YI,YJ,YK,YL,YM,YN,YO,YP,YQ,YR,un1,shOk,eqL,eq1,fillL,putAt,IHeap.load1,IHeap.loadL,IHeap.storeL,YS,YT,YU,YV,YW,YX,YY,YZ,B0,B1,B2,B3,B4,B5,B6,B7,B8,B9,Ba,Bb,Bc,Bd,Be,Bf,Bg,Bh,Bi,Bj,Bk,Bl,Bm, same_refl, e1, e5, e6, e10, e11, e12, hw]
              exact ⟨L.length - (j + 1), by omega, j + 1, by omega, rfl, by rw [hsucc]; rfl, by simp, ((hle2.trans k4).trans kX).trans k5⟩
          · have hjl' : ¬ (j : Int) < (L.length : Int) := by omega
            rw [List.take_of_length_le (by omega), ← hout] at e11
            simp -implicitDefEqProofs [J0,J1,J2,J3,J4,J5,J6,J7,J8,J9,Ja,Jb,Jc,Jd,Je,Jf,Jg,Jh,Ji,Jj,Jk,Jl,Jm,Jn,Jo,Jp,Jq,Jr,Js,Jt,Ju,Jv,Jw,Jx,Jy,Jz,JA,JB,JC,JD,JE,JF,JG,JH,JI,JJ,JK,JL,JM,JN,JO,JP,stillI,IOp.kind,JQ,JR,JS,JT,JU,JV,JW,JX,JY,JZ,Y0,Y1,Y2,Y3,Y4,Y5,Y6,Y7,Y8,Y9,Ya,Yb,Yc,Yd,Ye,Yf,Yg,Yh,Yi,Yj,Yk,Yl,Ym,Yn,ial,Yo,Yp,Yq,Yr,Ys,Yt,Yu,Yv,ires,iresL,ires1,Yw,Yx,Yy,Yz,YA,YB,bin2,YC,YD,YE,YF,YG,YH,YI,YJ,YK,YL,YM,YN,YO,YP,YQ,YR,un1,shOk,eqL,eq1,fillL,putAt,IHeap.load1,IHeap.loadL,IHeap.storeL,YS,YT,YU,YV,YW,YX,YY,YZ,B0,B1,B2,B3,B4,B5,B6,B7,B8,B9,Ba,Bb,Bc,Bd,Be,Bf,Bg,Bh,Bi,Bj,Bk,Bl,Bm, e1, e5, e6, e10, e11, e12, hjl, hjl']
            refine call_of (hA _ _ ?_)
            simp -implicitDefEqProofs [J0,J1,J2,J3,J4,J5,J6,J7,J8,J9,Ja,Jb,Jc,Jd,Je,Jf,Jg,Jh,Ji,Jj,Jk,Jl,Jm,Jn,Jo,Jp,Jq,Jr,Js,Jt,Ju,Jv,Jw,Jx,Jy,Jz,JA,JB,JC,JD,JE,JF,JG,JH,JI,JJ,JK,JL,JM,JN,JO,JP,stillI,IOp.kind,JQ,JR,JS,JT,JU,JV,JW,JX,JY,JZ,Y0,Y1,Y2,Y3,Y4,Y5,Y6,Y7,Y8,Y9,Ya,Yb,Yc,Yd,Ye,Yf,Yg,Yh,Yi,Yj,Yk,Yl,Ym,Yn,ial,Yo,Yp,Yq,Yr,Ys,Yt,Yu,Yv,ires,iresL,ires1,Yw,Yx,Yy,Yz,YA,YB,bin2,YC,YD,YE,YF,YG,YH,YI,YJ,YK,YL,YM,YN,YO,YP,YQ,YR,un1,shOk,eqL,eq1,fillL,putAt,IHeap.load1,IHeap.loadL,IHeap.storeL,YS,YT,YU,YV,YW,YX,YY,YZ,B0,B1,B2,B3,B4,B5,B6,B7,B8,B9,Ba,Bb,Bc,Bd,Be,Bf,Bg,Bh,Bi,Bj,Bk,Bl,Bm]
            exact hK _

end
end Go.Proofs.YtmdkkhnenciknaaI
