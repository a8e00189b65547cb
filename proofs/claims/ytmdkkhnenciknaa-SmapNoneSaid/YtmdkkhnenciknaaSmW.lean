/- Stripes that are known: their states rise. -/
import Derived.Test.YtmdkkhnenciknaaSmU
namespace Go.Proofs.YtmdkkhnenciknaaI
set_option linter.unusedSimpArgs false
set_option linter.unusedVariables false
open Go

/-- Both, and what was told. -/
def OrI (N : Nat) (H : IHeap) (p : Nat) (v w : Value) (L : List St) : Prop := ∃ (q : Nat) (bs : Nat → Nat), IsS H p q bs L ∧ RS H (foot p q bs L) v L ∧ RS H (foot p q bs L) w L ∧ ∀ b ∈ foot p q bs L, N ≤ b
/-- In the midst of telling. -/
def OrJ (N M : Nat) (H : IHeap) (F : List Nat) (v w : Value) (L L' : List St) (now : Value) (j : Nat) : Prop := ∃ Q, (∀ b ∈ Q, M ≤ b) ∧ RS H (Q ++ F) v L' ∧ RS H (Q ++ F) w L ∧ Lst H F Q now (L'.take j)
theorem gst_get {L : List St} {i : Nat} {x : St} (hx : L[i]? = some x) : gst L (i : Int) = (true, i, x) := by
  have h1 : ¬ (i : Int) < 0 := by omega
  simp [gst, getS, hx, h1]

section
variable (c : Ctx) (hc : HasSmap c) (hC : HasCodec c) (hR : HasRef24 c) (h23 : HasRef23 c) (h3 : HasRef03 c) (h01 : HasRef01 c) (hT : HasLaw24 c) (hA : ∀ H K, K (.bool true) H → c.C (c.F n_hurdlelaw24_awake) [] H K) {H : IHeap} {K : Value → IHeap → Prop}

include hc hR h23 h01 hT hA in
theorem order_ok24 {l : List DS} {u : Value} (hu : Deeds H u l) (hK : ∀ H', K (.bool true) H') :
    c.C (c.F n_hurdlelaw24_SmapOrder) [u] H K := by
  refine c.enter hT.hurdlelaw24_SmapOrder rfl ?_
  obtain ⟨a, cap, eu⟩ := hu.len
  simp -implicitDefEqProofs [J0,J1,J2,J3,J4,J5,J6,J7,J8,J9,Ja,Jb,Jc,Jd,Je,Jf,Jg,Jh,Ji,Jj,Jk,Jl,Jm,Jn,Jo,Jp,Jq,Jr,Js,Jt,Ju,Jv,Jw,Jx,Jy,Jz,JA,JB,JC,JD,JE,JF,JG,JH,JI,JJ,JK,JL,JM,JN,JO,JP,stillI,IOp.kind,JQ,JR,JS,JT,JU,JV,JW,JX,JY,JZ,Y0,Y1,Y2,Y3,Y4,Y5,Y6,Y7,Y8,Y9,Ya,Yb,Yc,Yd,Ye,Yf,Yg,Yh,Yi,Yj,Yk,Yl,Ym,Yn,ial,Yo,Yp,Yq,Yr,Ys,Yt,Yu,Yv,ires,iresL,ires1,Yw,Yx,Yy,Yz,YA,YB,bin2,YC,YD,YE,YF,YG,YH,YI,YJ,YK,YL,YM,YN,YO,YP,YQ,YR,un1,shOk,eqL,eq1,fillL,putAt,IHeap.load1,IHeap.loadL,IHeap.storeL,YS,YT,YU,YV,YW,YX,YY,YZ,B0,B1,B2,B3,B4,B5,B6,B7,B8,B9,Ba,Bb,Bc,Bd,Be,Bf,Bg,Bh,Bi,Bj,Bk,Bl,Bm, c_hurdlelaw24_SmapOrder]
  refine call_of (Few_ok24 c hT hu (fun _ => ?_) fun hl80 hl20 => ?_)
  · simp -implicitDefEqProofs [J0,J1,J2,J3,J4,J5,J6,J7,J8,J9,Ja,Jb,Jc,Jd,Je,Jf,Jg,Jh,Ji,Jj,Jk,Jl,Jm,Jn,Jo,Jp,Jq,Jr,Js,Jt,Ju,Jv,Jw,Jx,Jy,Jz,JA,JB,JC,JD,JE,JF,JG,JH,JI,JJ,JK,JL,JM,JN,JO,JP,stillI,IOp.kind,JQ,JR,JS,JT,JU,JV,JW,JX,JY,JZ,Y0,Y1,Y2,Y3,Y4,Y5,Y6,Y7,Y8,Y9,Ya,Yb,Yc,Yd,Ye,Yf,Yg,Yh,Yi,Yj,Yk,Yl,Ym,Yn,ial,Yo,Yp,Yq,Yr,Ys,Yt,Yu,Yv,ires,iresL,ires1,Yw,Yx,Yy,Yz,YA,YB,bin2,YC,YD,YE,YF,YG,YH,YI,YJ,YK,YL,YM,YN,YO,YP,YQ,YR,un1,shOk,eqL,eq1,fillL,putAt,IHeap.load1,IHeap.loadL,IHeap.storeL,YS,YT,YU,YV,YW,YX,YY,YZ,B0,B1,B2,B3,B4,B5,B6,B7,B8,B9,Ba,Bb,Bc,Bd,Be,Bf,Bg,Bh,Bi,Bj,Bk,Bl,Bm]
    refine call_of (hA _ _ ?_)
    simp -implicitDefEqProofs [J0,J1,J2,J3,J4,J5,J6,J7,J8,J9,Ja,Jb,Jc,Jd,Je,Jf,Jg,Jh,Ji,Jj,Jk,Jl,Jm,Jn,Jo,Jp,Jq,Jr,Js,Jt,Ju,Jv,Jw,Jx,Jy,Jz,JA,JB,JC,JD,JE,JF,JG,JH,JI,JJ,JK,JL,JM,JN,JO,JP,stillI,IOp.kind,JQ,JR,JS,JT,JU,JV,JW,JX,JY,JZ,Y0,Y1,Y2,Y3,Y4,Y5,Y6,Y7,Y8,Y9,Ya,Yb,Yc,Yd,Ye,Yf,Yg,Yh,Yi,Yj,Yk,Yl,Ym,Yn,ial,Yo,Yp,Yq,Yr,Ys,Yt,Yu,Yv,ires,iresL,ires1,Yw,Yx,Yy,Yz,YA,YB,bin2,YC,YD,YE,YF,YG,YH,YI,YJ,YK,YL,YM,YN,YO,YP,YQ,YR,un1,shOk,eqL,eq1,fillL,putAt,IHeap.load1,IHeap.loadL,IHeap.storeL,YS,YT,YU,YV,YW,YX,YY,YZ,B0,B1,B2,B3,B4,B5,B6,B7,B8,B9,Ba,Bb,Bc,Bd,Be,Bf,Bg,Bh,Bi,Bj,Bk,Bl,Bm]
    exact hK _
  · simp -implicitDefEqProofs [J0,J1,J2,J3,J4,J5,J6,J7,J8,J9,Ja,Jb,Jc,Jd,Je,Jf,Jg,Jh,Ji,Jj,Jk,Jl,Jm,Jn,Jo,Jp,Jq,Jr,Js,Jt,Ju,Jv,Jw,Jx,Jy,Jz,JA,JB,JC,JD,JE,JF,JG,JH,JI,JJ,JK,JL,JM,JN,JO,JP,stillI,IOp.kind,JQ,JR,JS,JT,JU,JV,JW,JX,JY,JZ,Y0,Y1,Y2,Y3,Y4,Y5,Y6,Y7,Y8,Y9,Ya,Yb,Yc,Yd,Ye,Yf,Yg,Yh,Yi,Yj,Yk,Yl,Ym,Yn,ial,Yo,Yp,Yq,Yr,Ys,Yt,Yu,Yv,ires,iresL,ires1,Yw,Yx,Yy,Yz,YA,YB,bin2,YC,YD,YE,YF,YG,YH,YI,YJ,YK,YL,YM,YN,YO,YP,YQ,YR,un1,shOk,eqL,eq1,fillL,putAt,IHeap.load1,IHeap.loadL,IHeap.storeL,YS,YT,YU,YV,YW,YX,YY,YZ,B0,B1,B2,B3,B4,B5,B6,B7,B8,B9,Ba,Bb,Bc,Bd,Be,Bf,Bg,Bh,Bi,Bj,Bk,Bl,Bm]
    refine call_of (SNew_ok c hc fun H1 k1 m1 => ?_)
    simp -implicitDefEqProofs [J0,J1,J2,J3,J4,J5,J6,J7,J8,J9,Ja,Jb,Jc,Jd,Je,Jf,Jg,Jh,Ji,Jj,Jk,Jl,Jm,Jn,Jo,Jp,Jq,Jr,Js,Jt,Ju,Jv,Jw,Jx,Jy,Jz,JA,JB,JC,JD,JE,JF,JG,JH,JI,JJ,JK,JL,JM,JN,JO,JP,stillI,IOp.kind,JQ,JR,JS,JT,JU,JV,JW,JX,JY,JZ,Y0,Y1,Y2,Y3,Y4,Y5,Y6,Y7,Y8,Y9,Ya,Yb,Yc,Yd,Ye,Yf,Yg,Yh,Yi,Yj,Yk,Yl,Ym,Yn,ial,Yo,Yp,Yq,Yr,Ys,Yt,Yu,Yv,ires,iresL,ires1,Yw,Yx,Yy,Yz,YA,YB,bin2,YC,YD,YE,YF,YG,YH,YI,YJ,YK,YL,YM,YN,YO,YP,YQ,YR,un1,shOk,eqL,eq1,fillL,putAt,IHeap.load1,IHeap.loadL,IHeap.storeL,YS,YT,YU,YV,YW,YX,YY,YZ,B0,B1,B2,B3,B4,B5,B6,B7,B8,B9,Ba,Bb,Bc,Bd,Be,Bf,Bg,Bh,Bi,Bj,Bk,Bl,Bm]
    have n1 := k1.next
    refine loop_nat c.mono (fun k T H' => ∃ i : Nat, i ≤ l.length ∧ k = l.length - i ∧ T 0 = u ∧ T 3 = .pointer (some ⟨H.next, 0, none⟩) ∧ T 6 = .int .i64 i ∧ H.le H' ∧ ∃ L, OrI H.next H' H.next (T 4) (T 5) L) l.length ?_ ?_
    · refine ⟨0, by omega, rfl, ?_⟩
      simp -implicitDefEqProofs [J0,J1,J2,J3,J4,J5,J6,J7,J8,J9,Ja,Jb,Jc,Jd,Je,Jf,Jg,Jh,Ji,Jj,Jk,Jl,Jm,Jn,Jo,Jp,Jq,Jr,Js,Jt,Ju,Jv,Jw,Jx,Jy,Jz,JA,JB,JC,JD,JE,JF,JG,JH,JI,JJ,JK,JL,JM,JN,JO,JP,stillI,IOp.kind,JQ,JR,JS,JT,JU,JV,JW,JX,JY,JZ,Y0,Y1,Y2,Y3,Y4,Y5,Y6,Y7,Y8,Y9,Ya,Yb,Yc,Yd,Ye,Yf,Yg,Yh,Yi,Yj,Yk,Yl,Ym,Yn,ial,Yo,Yp,Yq,Yr,Ys,Yt,Yu,Yv,ires,iresL,ires1,Yw,Yx,Yy,Yz,YA,YB,bin2,YC,YD,YE,YF,YG,YH,YI,YJ,YK,YL,YM,YN,YO,YP,YQ,YR,un1,shOk,eqL,eq1,fillL,putAt,IHeap.load1,IHeap.loadL,IHeap.storeL,YS,YT,YU,YV,YW,YX,YY,YZ,B0,B1,B2,B3,B4,B5,B6,B7,B8,B9,Ba,Bb,Bc,Bd,Be,Bf,Bg,Bh,Bi,Bj,Bk,Bl,Bm]
      exact ⟨k1, [], _, _, m1, RS.nil _ _, RS.nil _ _, by simp [foot]⟩
    · rintro k T H' ⟨i, hi, rfl, t0, t3, t6, hle, L, q, bs, i1, rr1, ww1, f1⟩
      have nH := hle.next
      by_cases hil : i < l.length
      · have hil' : (i : Int) < (l.length : Int) := by omega
        have hd : l[i]? = some l[i] := List.getElem?_eq_getElem hil
        obtain ⟨d, hde⟩ : ∃ d, d = l[i] := ⟨_, rfl⟩
        rw [← hde] at hd
        have hd20 := hl20 d (List.mem_of_getElem? hd)
        obtain ⟨b, o, cp, cs, ro, aw, cw, ea, hb, hget, hrow, hbd, hw2, hep⟩ := hu.at hd
        rw [ea] at t0 eu
        simp only [Value.slice.injEq] at eu
        obtain ⟨rfl, -, rfl⟩ := eu
        have hw : IntKind.i64.wrap ((i : Int) + 1) = (i : Int) + 1 := wrap64 (by omega) (by omega)
        simp only [rowDS] at hrow
        have hget' := (hle.get b hb).trans hget
        obtain ⟨aw1, cw1, t5⟩ := ww1.lenv
        simp -implicitDefEqProofs [J0,J1,J2,J3,J4,J5,J6,J7,J8,J9,Ja,Jb,Jc,Jd,Je,Jf,Jg,Jh,Ji,Jj,Jk,Jl,Jm,Jn,Jo,Jp,Jq,Jr,Js,Jt,Ju,Jv,Jw,Jx,Jy,Jz,JA,JB,JC,JD,JE,JF,JG,JH,JI,JJ,JK,JL,JM,JN,JO,JP,stillI,IOp.kind,JQ,JR,JS,JT,JU,JV,JW,JX,JY,JZ,Y0,Y1,Y2,Y3,Y4,Y5,Y6,Y7,Y8,Y9,Ya,Yb,Yc,Yd,Ye,Yf,Yg,Yh,Yi,Yj,Yk,Yl,Ym,Yn,ial,Yo,Yp,Yq,Yr,Ys,Yt,Yu,Yv,ires,iresL,ires1,Yw,Yx,Yy,Yz,YA,YB,bin2,YC,YD,YE,YF,YG,YH,YI,YJ,YK,YL,YM,YN,YO,YP,YQ,YR,un1,shOk,eqL,eq1,fillL,putAt,IHeap.load1,IHeap.loadL,IHeap.storeL,YS,YT,YU,YV,YW,YX,YY,YZ,B0,B1,B2,B3,B4,B5,B6,B7,B8,B9,Ba,Bb,Bc,Bd,Be,Bf,Bg,Bh,Bi,Bj,Bk,Bl,Bm, t0, t3, t5, t6, hil, hil', hget', hrow, hbd]
        rw [t5] at ww1
        refine call_of (do_ok24 c hc hR h23 h01 hT (S := []) (d := d) i1 (rr1.more fun b hb => .inl (by simpa using hb)) (by simp) (hw2.le hle) (by omega) hep fun q' bs' v' H2 u2 i2 f2 rr2 => ?_)
        rw [List.append_nil] at rr2
        have k2 : H.le H2 := hle.updLe u2 f1
        have n2 := u2.next
        have hrise := fun (j : Nat) (x : St) (hx : L[j]? = some x) => rise_deed i1.ok d hx
        have hlen1 := len_deed i1.ok d
        have ww2 := ww1.step u2 f2
        obtain ⟨L', hL'⟩ : ∃ L', L' = deedS L d := ⟨_, rfl⟩
        rw [← hL'] at i2 f2 rr2 hrise hlen1 ww2
        have hf2 : ∀ b ∈ foot H.next q' bs' L', H.next ≤ b := fun b hb => by
          rcases f2 b hb with h | h
          · exact f1 b h
          · omega
        have hfl := foot_lt i2
        have hlen2 := i2.len
        obtain ⟨av, cv, ev⟩ := rr2.lenv
        rw [ev] at rr2
        simp -implicitDefEqProofs [J0,J1,J2,J3,J4,J5,J6,J7,J8,J9,Ja,Jb,Jc,Jd,Je,Jf,Jg,Jh,Ji,Jj,Jk,Jl,Jm,Jn,Jo,Jp,Jq,Jr,Js,Jt,Ju,Jv,Jw,Jx,Jy,Jz,JA,JB,JC,JD,JE,JF,JG,JH,JI,JJ,JK,JL,JM,JN,JO,JP,stillI,IOp.kind,JQ,JR,JS,JT,JU,JV,JW,JX,JY,JZ,Y0,Y1,Y2,Y3,Y4,Y5,Y6,Y7,Y8,Y9,Ya,Yb,Yc,Yd,Ye,Yf,Yg,Yh,Yi,Yj,Yk,Yl,Ym,Yn,ial,Yo,Yp,Yq,Yr,Ys,Yt,Yu,Yv,ires,iresL,ires1,Yw,Yx,Yy,Yz,YA,YB,bin2,YC,YD,YE,YF,YG,YH,YI,YJ,YK,YL,YM,YN,YO,YP,YQ,YR,un1,shOk,eqL,eq1,fillL,putAt,IHeap.load1,IHeap.loadL,IHeap.storeL,YS,YT,YU,YV,YW,YX,YY,YZ,B0,B1,B2,B3,B4,B5,B6,B7,B8,B9,Ba,Bb,Bc,Bd,Be,Bf,Bg,Bh,Bi,Bj,Bk,Bl,Bm, t0, t3, t5, t6, hil, hil', ev]
        refine loop_nat c.mono (fun k T2 H3 => ∃ j : Nat, j ≤ L'.length ∧ k = L'.length - j ∧ T2 0 = .slice (some ⟨b, o, none⟩) l.length cp ∧ T2 3 = .pointer (some ⟨H.next, 0, none⟩) ∧ T2 4 = .slice av L'.length cv ∧ T2 5 = .slice aw1 L.length cw1 ∧ T2 6 = .int .i64 i ∧ T2 10 = .int .i64 j ∧ H2.le H3 ∧
          IsS H3 H.next q' bs' L' ∧ OrJ H.next H2.next H3 (foot H.next q' bs' L') (.slice av L'.length cv) (.slice aw1 L.length cw1) L L' (T2 9) j) L'.length ?_ ?_
        · refine ⟨0, by omega, rfl, ?_⟩
          simp -implicitDefEqProofs [J0,J1,J2,J3,J4,J5,J6,J7,J8,J9,Ja,Jb,Jc,Jd,Je,Jf,Jg,Jh,Ji,Jj,Jk,Jl,Jm,Jn,Jo,Jp,Jq,Jr,Js,Jt,Ju,Jv,Jw,Jx,Jy,Jz,JA,JB,JC,JD,JE,JF,JG,JH,JI,JJ,JK,JL,JM,JN,JO,JP,stillI,IOp.kind,JQ,JR,JS,JT,JU,JV,JW,JX,JY,JZ,Y0,Y1,Y2,Y3,Y4,Y5,Y6,Y7,Y8,Y9,Ya,Yb,Yc,Yd,Ye,Yf,Yg,Yh,Yi,Yj,Yk,Yl,Ym,Yn,ial,Yo,Yp,Yq,Yr,Ys,Yt,Yu,Yv,ires,iresL,ires1,Yw,Yx,Yy,Yz,YA,YB,bin2,YC,YD,YE,YF,YG,YH,YI,YJ,YK,YL,YM,YN,YO,YP,YQ,YR,un1,shOk,eqL,eq1,fillL,putAt,IHeap.load1,IHeap.loadL,IHeap.storeL,YS,YT,YU,YV,YW,YX,YY,YZ,B0,B1,B2,B3,B4,B5,B6,B7,B8,B9,Ba,Bb,Bc,Bd,Be,Bf,Bg,Bh,Bi,Bj,Bk,Bl,Bm, t0, t3, t5, t6]
          exact ⟨IHeap.le_refl _, i2, [], by simp, by simpa using rr2, by simpa using ww2, Lst.nil _ _⟩
        · rintro k T2 H3 ⟨j, hj, rfl, e0, e3, e4, e5, e6, e10, hle3, i3, Q, hQ, rv, rw', ls⟩
          have n3 := hle3.next
          have hQl := ls.lt
          by_cases hjl : j < L'.length
          · have hjl' : (j : Int) < (L'.length : Int) := by omega
            have hx : L'[j]? = some L'[j] := List.getElem?_eq_getElem hjl
            obtain ⟨x, hxe⟩ : ∃ x, x = L'[j] := ⟨_, rfl⟩
            rw [← hxe] at hx
            have hxo := i3.ok x (List.mem_of_getElem? hx)
            have hxm := (St.may_iff.1 hxo.may).2.2.2.2.2
            have hx8 := hxm.2.1
            have hap := (apart_iff _).2 hxm.2.2
            have hs1 : ¬ x.st < 1 := by have := hxo.s1; omega
            have hs3 : ¬ 3 < x.st := by have := hxo.s3; omega
            have hwj : IntKind.i64.wrap ((j : Int) + 1) = (j : Int) + 1 := wrap64 (by omega) (by omega)
            obtain ⟨an, cn, e9⟩ := ls.lenv
            rw [List.length_take, Nat.min_eq_left hj] at e9
            simp -implicitDefEqProofs [J0,J1,J2,J3,J4,J5,J6,J7,J8,J9,Ja,Jb,Jc,Jd,Je,Jf,Jg,Jh,Ji,Jj,Jk,Jl,Jm,Jn,Jo,Jp,Jq,Jr,Js,Jt,Ju,Jv,Jw,Jx,Jy,Jz,JA,JB,JC,JD,JE,JF,JG,JH,JI,JJ,JK,JL,JM,JN,JO,JP,stillI,IOp.kind,JQ,JR,JS,JT,JU,JV,JW,JX,JY,JZ,Y0,Y1,Y2,Y3,Y4,Y5,Y6,Y7,Y8,Y9,Ya,Yb,Yc,Yd,Ye,Yf,Yg,Yh,Yi,Yj,Yk,Yl,Ym,Yn,ial,Yo,Yp,Yq,Yr,Ys,Yt,Yu,Yv,ires,iresL,ires1,Yw,Yx,Yy,Yz,YA,YB,bin2,YC,YD,YE,YF,YG,YH,YI,YJ,YK,YL,YM,YN,YO,YP,YQ,YR,un1,shOk,eqL,eq1,fillL,putAt,IHeap.load1,IHeap.loadL,IHeap.storeL,YS,YT,YU,YV,YW,YX,YY,YZ,B0,B1,B2,B3,B4,B5,B6,B7,B8,B9,Ba,Bb,Bc,Bd,Be,Bf,Bg,Bh,Bi,Bj,Bk,Bl,Bm, e0, e3, e4, e5, e6, e9, e10, hjl, hjl']
            refine call_of (SGet_ok' c hc (id := (j : Int)) i3 fun w4 H4 k4 s4 fr4 => ?_)
            rw [gst_get hx] at s4 ⊢
            simp only at s4 ⊢
            have n4 := k4.next
            have s4' := s4
            obtain ⟨a4, c4, rfl⟩ := s4.len
            rw [List.length_map] at s4' fr4
            obtain ⟨row, hrow⟩ : ∃ r : List Value, r = [.int .i64 j, .int .i64 x.st, .int .i64 x.ow, .int .i64 x.ep, .int .i64 x.le, .slice a4 x.sv.length c4] := ⟨_, rfl⟩
            obtain ⟨HX, hHX⟩ : ∃ X : IHeap, X = (H4.alloc (.cells [.int .i64 0, .int .i64 0, .int .i64 0, .int .i64 0, .int .i64 0, .slice none 0 0] false)).set H4.next (.cells row false) := ⟨_, rfl⟩
            have kX : H4.le HX := by rw [hHX]; exact (H4.le_alloc _).set (Nat.le_refl _) _
            have nX : HX.next = H4.next + 1 := by rw [hHX]; rfl
            have gX : HX.get H4.next = some (.cells row false) := by rw [hHX, YT, if_pos rfl]
            obtain ⟨HY, hHY⟩ : ∃ X : IHeap, X = HX.alloc (.cells row false) := ⟨_, rfl⟩
            have kY : HX.le HY := by rw [hHY]; exact HX.le_alloc _
            have nY : HY.next = HX.next + 1 := by rw [hHY]; rfl
            have gY : HY.get HX.next = some (.cells row false) := by rw [hHY, YS, if_pos rfl]
            have fY : firstI HY 6 1 (.slice (some ⟨HX.next, 0, none⟩) 1 1) = some row := by simp [firstI, IHeap.loadL, gY, hrow]
            have k3Y := (k4.trans kX).trans kY
            have hQF : ∀ b ∈ Q ++ foot H.next q' bs' L', b < H3.next := fun b hb => by
              rcases List.mem_append.1 hb with h | h
              · exact hQl b h
              · have := hfl b h; omega
            obtain ⟨H9, e9', l9, u9⟩ := (ls.le k3Y).push (x := x) (v := .slice a4 x.sv.length c4) (by rw [List.length_take]; omega) (fun b hb => by have := hQF b (List.mem_append_right _ hb); have := k3Y.next; omega) (s4'.le (kX.trans kY)) (fun b' o' n' cc' e' => ⟨(fr4 _ hQF b' o' n' cc' e').1, by have := (fr4 _ hQF b' o' n' cc' e').2; omega⟩)
            rw [e9, List.length_take, Nat.min_eq_left hj] at e9' 
            rw [List.length_take, Nat.min_eq_left hj] at l9
            have htk : L'.take (j + 1) = L'.take j ++ [x] := by rw [List.take_add_one, hx]; rfl
            rw [← htk] at l9
            simp only [rowSt] at e9'
            have n9 := u9.next
            have hQf : ∀ b ∈ foot H.next q' bs' L', b ∉ Q := fun b hb hm => by have := hfl b hb; have := hQ b hm; omega
            have i9 : IsS H9 H.next q' bs' L' := (i3.le k3Y).upd u9 (hQf _ (p_foot ..)) (hQf _ (q_foot ..)) fun i hi => hQf _ (b_foot hi)
            have kX3 := k4.trans kX
            have fin : ∀ {r : Value} {M : List St}, RS H3 (Q ++ foot H.next q' bs' L') r M → RS H9 ([HY.next] ++ foot H.next q' bs' L') r M := fun {r M} hr => (hr.le k3Y).step (upd_more u9 fun b hb => List.mem_append_left _ hb) fun b hb => by
              rcases List.mem_append.1 hb with h | h
              · simp only [List.mem_singleton] at h
                exact .inr (by omega)
              · exact .inl (List.mem_append_right _ h)
            have done := fun (W : Env) (h1 : W 0 = .slice (some ⟨b, o, none⟩) l.length cp) => h1
            rw [hrow] at hHX gX hHY fY
            by_cases hjL : j < L.length
            · have hjL' : (j : Int) < (L.length : Int) := by omega
              have hy : L[j]? = some L[j] := List.getElem?_eq_getElem hjL
              obtain ⟨y, hye⟩ : ∃ y, y = L[j] := ⟨_, rfl⟩
              rw [← hye] at hy
              obtain ⟨b6, o6, cp6, cs6, ro6, v6, e6', hb6, hget6, hrow6, hbd6, _, _, _⟩ := rw'.at hy
              simp only [Value.slice.injEq] at e6'
              obtain ⟨rfl, -, rfl⟩ := e6'
              have r1 := row_get hrow6 1 (by omega)
              simp only [rowSt, List.getElem?_cons_succ, List.getElem?_cons_zero] at r1
              have hget6X := (kX3.get b6 hb6).trans hget6
              obtain ⟨z, hz, hst⟩ := hrise j y hy
              rw [hx] at hz
              injection hz with hz
              subst hz
              have hns : ¬ x.st < y.st := by omega
              simp -implicitDefEqProofs [J0,J1,J2,J3,J4,J5,J6,J7,J8,J9,Ja,Jb,Jc,Jd,Je,Jf,Jg,Jh,Ji,Jj,Jk,Jl,Jm,Jn,Jo,Jp,Jq,Jr,Js,Jt,Ju,Jv,Jw,Jx,Jy,Jz,JA,JB,JC,JD,JE,JF,JG,JH,JI,JJ,JK,JL,JM,JN,JO,JP,stillI,IOp.kind,JQ,JR,JS,JT,JU,JV,JW,JX,JY,JZ,Y0,Y1,Y2,Y3,Y4,Y5,Y6,Y7,Y8,Y9,Ya,Yb,Yc,Yd,Ye,Yf,Yg,Yh,Yi,Yj,Yk,Yl,Ym,Yn,ial,Yo,Yp,Yq,Yr,Ys,Yt,Yu,Yv,ires,iresL,ires1,Yw,Yx,Yy,Yz,YA,YB,bin2,YC,YD,YE,YF,YG,YH,YI,YJ,YK,YL,YM,YN,YO,YP,YQ,YR,un1,shOk,eqL,eq1,fillL,putAt,IHeap.load1,IHeap.loadL,IHeap.storeL,YS,YT,YU,YV,YW,YX,YY,YZ,B0,B1,B2,B3,B4,B5,B6,B7,B8,B9,Ba,Bb,Bc,Bd,Be,Bf,Bg,Bh,Bi,Bj,Bk,Bl,Bm, stV, List.length_map, ← hHX, gX, e0, e3, e4, e5, e6, e9, e10, hjl, hjl', hs1, hs3, hjL, hjL', hget6X, r1, hns]
              refine dcall_of c.mono (Apart_ok c h23 (s4'.le kX) (by omega) ?_)
              rw [hap]
              simp -implicitDefEqProofs [J0,J1,J2,J3,J4,J5,J6,J7,J8,J9,Ja,Jb,Jc,Jd,Je,Jf,Jg,Jh,Ji,Jj,Jk,Jl,Jm,Jn,Jo,Jp,Jq,Jr,Js,Jt,Ju,Jv,Jw,Jx,Jy,Jz,JA,JB,JC,JD,JE,JF,JG,JH,JI,JJ,JK,JL,JM,JN,JO,JP,stillI,IOp.kind,JQ,JR,JS,JT,JU,JV,JW,JX,JY,JZ,Y0,Y1,Y2,Y3,Y4,Y5,Y6,Y7,Y8,Y9,Ya,Yb,Yc,Yd,Ye,Yf,Yg,Yh,Yi,Yj,Yk,Yl,Ym,Yn,ial,Yo,Yp,Yq,Yr,Ys,Yt,Yu,Yv,ires,iresL,ires1,Yw,Yx,Yy,Yz,YA,YB,bin2,YC,YD,YE,YF,YG,YH,YI,YJ,YK,YL,YM,YN,YO,YP,YQ,YR,un1,shOk,eqL,eq1,fillL,putAt,IHeap.load1,IHeap.loadL,IHeap.storeL,YS,YT,YU,YV,YW,YX,YY,YZ,B0,B1,B2,B3,B4,B5,B6,B7,B8,B9,Ba,Bb,Bc,Bd,Be,Bf,Bg,Bh,Bi,Bj,Bk,Bl,Bm, gX, ← hHY, e0, e3, e4, e5, e6, e9, e10, lenOfI, fY, e9', hwj]
              exact ⟨L'.length - (j + 1), by omega, j + 1, by omega, rfl, by simp, (hle3.trans k3Y).updLe u9 hQ, i9, [HY.next], by simp; omega, fin rv, fin rw', l9⟩
            · have hjL' : ¬ (j : Int) < (L.length : Int) := by omega
              simp -implicitDefEqProofs [J0,J1,J2,J3,J4,J5,J6,J7,J8,J9,Ja,Jb,Jc,Jd,Je,Jf,Jg,Jh,Ji,Jj,Jk,Jl,Jm,Jn,Jo,Jp,Jq,Jr,Js,Jt,Ju,Jv,Jw,Jx,Jy,Jz,JA,JB,JC,JD,JE,JF,JG,JH,JI,JJ,JK,JL,JM,JN,JO,JP,stillI,IOp.kind,JQ,JR,JS,JT,JU,JV,JW,JX,JY,JZ,Y0,Y1,Y2,Y3,Y4,Y5,Y6,Y7,Y8,Y9,Ya,Yb,Yc,Yd,Ye,Yf,Yg,Yh,Yi,Yj,Yk,Yl,Ym,Yn,ial,Yo,Yp,Yq,Yr,Ys,Yt,Yu,Yv,ires,iresL,ires1,Yw,Yx,Yy,Yz,YA,YB,bin2,YC,YD,YE,YF,YG,YH,YI,YJ,YK,YL,YM,YN,YO,YP,YQ,YR,un1,shOk,eqL,eq1,fillL,putAt,IHeap.load1,IHeap.loadL,IHeap.storeL,YS,YT,YU,YV,YW,YX,YY,YZ,B0,B1,B2,B3,B4,B5,B6,B7,B8,B9,Ba,Bb,Bc,Bd,Be,Bf,Bg,Bh,Bi,Bj,Bk,Bl,Bm, stV, List.length_map, ← hHX, gX, e0, e3, e4, e5, e6, e9, e10, hjl, hjl', hs1, hs3, hjL, hjL']
              refine dcall_of c.mono (Apart_ok c h23 (s4'.le kX) (by omega) ?_)
              rw [hap]
              simp -implicitDefEqProofs [J0,J1,J2,J3,J4,J5,J6,J7,J8,J9,Ja,Jb,Jc,Jd,Je,Jf,Jg,Jh,Ji,Jj,Jk,Jl,Jm,Jn,Jo,Jp,Jq,Jr,Js,Jt,Ju,Jv,Jw,Jx,Jy,Jz,JA,JB,JC,JD,JE,JF,JG,JH,JI,JJ,JK,JL,JM,JN,JO,JP,stillI,IOp.kind,JQ,JR,JS,JT,JU,JV,JW,JX,JY,JZ,Y0,Y1,Y2,Y3,Y4,Y5,Y6,Y7,Y8,Y9,Ya,Yb,Yc,Yd,Ye,Yf,Yg,Yh,Yi,Yj,Yk,Yl,Ym,Yn,ial,Yo,Yp,Yq,Yr,Ys,Yt,Yu,Yv,ires,iresL,ires1,Yw,Yx,Yy,Yz,YA,YB,bin2,YC,YD,YE,YF,YG,YH,YI,YJ,YK,YL,YM,YN,YO,YP,YQ,YR,un1,shOk,eqL,eq1,fillL,putAt,IHeap.load1,IHeap.loadL,IHeap.storeL,YS,YT,YU,YV,YW,YX,YY,YZ,B0,B1,B2,B3,B4,B5,B6,B7,B8,B9,Ba,Bb,Bc,Bd,Be,Bf,Bg,Bh,Bi,Bj,Bk,Bl,Bm, gX, ← hHY, e0, e3, e4, e5, e6, e9, e10, lenOfI, fY, e9', hwj]
              exact ⟨L'.length - (j + 1), by omega, j + 1, by omega, rfl, by simp, (hle3.trans k3Y).updLe u9 hQ, i9, [HY.next], by simp; omega, fin rv, fin rw', l9⟩
          · have hjl' : ¬ (j : Int) < (L'.length : Int) := by omega
            rw [List.take_of_length_le (by omega)] at ls
            simp -implicitDefEqProofs [J0,J1,J2,J3,J4,J5,J6,J7,J8,J9,Ja,Jb,Jc,Jd,Je,Jf,Jg,Jh,Ji,Jj,Jk,Jl,Jm,Jn,Jo,Jp,Jq,Jr,Js,Jt,Ju,Jv,Jw,Jx,Jy,Jz,JA,JB,JC,JD,JE,JF,JG,JH,JI,JJ,JK,JL,JM,JN,JO,JP,stillI,IOp.kind,JQ,JR,JS,JT,JU,JV,JW,JX,JY,JZ,Y0,Y1,Y2,Y3,Y4,Y5,Y6,Y7,Y8,Y9,Ya,Yb,Yc,Yd,Ye,Yf,Yg,Yh,Yi,Yj,Yk,Yl,Ym,Yn,ial,Yo,Yp,Yq,Yr,Ys,Yt,Yu,Yv,ires,iresL,ires1,Yw,Yx,Yy,Yz,YA,YB,bin2,YC,YD,YE,YF,YG,YH,YI,YJ,YK,YL,YM,YN,YO,YP,YQ,YR,un1,shOk,eqL,eq1,fillL,putAt,IHeap.load1,IHeap.loadL,IHeap.storeL,YS,YT,YU,YV,YW,YX,YY,YZ,B0,B1,B2,B3,B4,B5,B6,B7,B8,B9,Ba,Bb,Bc,Bd,Be,Bf,Bg,Bh,Bi,Bj,Bk,Bl,Bm, e0, e3, e4, e5, e6, e10, hjl, hjl', hw]
            exact ⟨l.length - (i + 1), by omega, i + 1, by omega, rfl, ea.symm, by simp, k2.trans hle3, L', q', bs', i3, rv.more fun b hb => .inl (List.mem_append_right _ hb), ls.rs, hf2⟩
      · have hil' : ¬ (i : Int) < (l.length : Int) := by omega
        rw [eu] at t0
        simp -implicitDefEqProofs [J0,J1,J2,J3,J4,J5,J6,J7,J8,J9,Ja,Jb,Jc,Jd,Je,Jf,Jg,Jh,Ji,Jj,Jk,Jl,Jm,Jn,Jo,Jp,Jq,Jr,Js,Jt,Ju,Jv,Jw,Jx,Jy,Jz,JA,JB,JC,JD,JE,JF,JG,JH,JI,JJ,JK,JL,JM,JN,JO,JP,stillI,IOp.kind,JQ,JR,JS,JT,JU,JV,JW,JX,JY,JZ,Y0,Y1,Y2,Y3,Y4,Y5,Y6,Y7,Y8,Y9,Ya,Yb,Yc,Yd,Ye,Yf,Yg,Yh,Yi,Yj,Yk,Yl,Ym,Yn,ial,Yo,Yp,Yq,Yr,Ys,Yt,Yu,Yv,ires,iresL,ires1,Yw,Yx,Yy,Yz,YA,YB,bin2,YC,YD,YE,YF,YG,YH,YI,YJ,YK,YL,YM,YN,YO,YP,YQ,YR,un1,shOk,eqL,eq1,fillL,putAt,IHeap.load1,IHeap.loadL,IHeap.storeL,YS,YT,YU,YV,YW,YX,YY,YZ,B0,B1,B2,B3,B4,B5,B6,B7,B8,B9,Ba,Bb,Bc,Bd,Be,Bf,Bg,Bh,Bi,Bj,Bk,Bl,Bm, t0, t3, t6, hil, hil']
        refine call_of (hA _ _ ?_)
        simp -implicitDefEqProofs [J0,J1,J2,J3,J4,J5,J6,J7,J8,J9,Ja,Jb,Jc,Jd,Je,Jf,Jg,Jh,Ji,Jj,Jk,Jl,Jm,Jn,Jo,Jp,Jq,Jr,Js,Jt,Ju,Jv,Jw,Jx,Jy,Jz,JA,JB,JC,JD,JE,JF,JG,JH,JI,JJ,JK,JL,JM,JN,JO,JP,stillI,IOp.kind,JQ,JR,JS,JT,JU,JV,JW,JX,JY,JZ,Y0,Y1,Y2,Y3,Y4,Y5,Y6,Y7,Y8,Y9,Ya,Yb,Yc,Yd,Ye,Yf,Yg,Yh,Yi,Yj,Yk,Yl,Ym,Yn,ial,Yo,Yp,Yq,Yr,Ys,Yt,Yu,Yv,ires,iresL,ires1,Yw,Yx,Yy,Yz,YA,YB,bin2,YC,YD,YE,YF,YG,YH,YI,YJ,YK,YL,YM,YN,YO,YP,YQ,YR,un1,shOk,eqL,eq1,fillL,putAt,IHeap.load1,IHeap.loadL,IHeap.storeL,YS,YT,YU,YV,YW,YX,YY,YZ,B0,B1,B2,B3,B4,B5,B6,B7,B8,B9,Ba,Bb,Bc,Bd,Be,Bf,Bg,Bh,Bi,Bj,Bk,Bl,Bm]
        exact hK _

end
end Go.Proofs.YtmdkkhnenciknaaI
