/- Stripes that are known: the document's answer as bytes. -/
import Derived.Test.YtmdkkhnenciknaaSmN
namespace Go.Proofs.YtmdkkhnenciknaaI
set_option linter.unusedSimpArgs false
set_option linter.unusedVariables false
open Go

def accS (L : List St) (i : Nat) : List UInt8 := encI L.length ++ ((L.take i).map encSt).flatten
theorem accS_succ {L : List St} {i : Nat} {x : St} (hx : L[i]? = some x) : accS L (i + 1) = accS L i ++ encSt x := by
  unfold accS
  have htk : L.take (i + 1) = L.take i ++ [x] := by rw [List.take_add_one, hx]; rfl
  rw [htk, List.map_append, List.flatten_append]; simp
theorem stB_eq {x : St} (h : x.ok) : [UInt8.ofNat (IntKind.u8.wrap x.st).toNat] = [stB x] := by
  have h1 := h.s1
  have h2 := h.s3
  have : x.st = 1 ∨ x.st = 2 ∨ x.st = 3 := by omega
  unfold stB
  rcases this with h | h | h <;> rw [h] <;> decide

theorem bin2_strV {l m r : List UInt8} (h : l.length + m.length ≤ 10000000) (hr : r = l ++ m) : bin2 .add (strV l) (strV m) = some (strV r) := by
  have e : IntKind.i64.max = 9223372036854775807 := by decide
  have : ¬ (9223372036854775807 : Int) < (l.length : Int) + (m.length : Int) := by omega
  simp [bin2, strV, str2, e, hr, this]

section
variable (c : Ctx) (hR : HasRef24 c) (h3 : HasRef03 c) {H : IHeap} {K : Value → IHeap → Prop}

include hR h3 in
theorem RText_ok24 {S : List Nat} {u : Value} {L : List St} (h : RS H S u L) (hl : L.length ≤ 4096) (hok : ∀ x ∈ L, x.ok) (hK : ∀ H', H.le H' → K (strV (encS L)) H') : c.C (c.F n_hurdleref24_Text) [u] H K := by
  refine c.enter hR.hurdleref24_Text rfl ?_
  obtain ⟨a, cap, hu⟩ := h.lenv
  have e : IntKind.i64.max = 9223372036854775807 := by decide
  rw [hu]
  simp -implicitDefEqProofs [J0,J1,J2,J3,J4,J5,J6,J7,J8,J9,Ja,Jb,Jc,Jd,Je,Jf,Jg,Jh,Ji,Jj,Jk,Jl,Jm,Jn,Jo,Jp,Jq,Jr,Js,Jt,Ju,Jv,Jw,Jx,Jy,Jz,JA,JB,JC,JD,JE,JF,JG,JH,JI,JJ,JK,JL,JM,JN,JO,JP,stillI,IOp.kind,JQ,JR,JS,JT,JU,JV,JW,JX,JY,JZ,Y0,Y1,Y2,Y3,Y4,Y5,Y6,Y7,Y8,Y9,Ya,Yb,Yc,Yd,Ye,Yf,Yg,Yh,Yi,Yj,Yk,Yl,Ym,Yn,ial,Yo,Yp,Yq,Yr,Ys,Yt,Yu,Yv,ires,iresL,ires1,Yw,Yx,Yy,Yz,YA,YB,bin2,YC,YD,YE,YF,YG,YH,YI,YJ,YK,YL,YM,YN,YO,YP,YQ,YR,un1,shOk,eqL,eq1,fillL,putAt,IHeap.load1,IHeap.loadL,IHeap.storeL,YS,YT,YU,YV,YW,YX,YY,YZ,B0,B1,B2,B3,B4,B5,B6,B7,B8,B9,Ba,Bb,Bc,Bd,Be,Bf,Bg,Bh,Bi,Bj,Bk,Bl,Bm, c_hurdleref24_Text]
  refine call_of (refInt_ok c h3 (by omega) (by omega) fun H1 k1 => ?_)
  simp -implicitDefEqProofs [J0,J1,J2,J3,J4,J5,J6,J7,J8,J9,Ja,Jb,Jc,Jd,Je,Jf,Jg,Jh,Ji,Jj,Jk,Jl,Jm,Jn,Jo,Jp,Jq,Jr,Js,Jt,Ju,Jv,Jw,Jx,Jy,Jz,JA,JB,JC,JD,JE,JF,JG,JH,JI,JJ,JK,JL,JM,JN,JO,JP,stillI,IOp.kind,JQ,JR,JS,JT,JU,JV,JW,JX,JY,JZ,Y0,Y1,Y2,Y3,Y4,Y5,Y6,Y7,Y8,Y9,Ya,Yb,Yc,Yd,Ye,Yf,Yg,Yh,Yi,Yj,Yk,Yl,Ym,Yn,ial,Yo,Yp,Yq,Yr,Ys,Yt,Yu,Yv,ires,iresL,ires1,Yw,Yx,Yy,Yz,YA,YB,bin2,YC,YD,YE,YF,YG,YH,YI,YJ,YK,YL,YM,YN,YO,YP,YQ,YR,un1,shOk,eqL,eq1,fillL,putAt,IHeap.load1,IHeap.loadL,IHeap.storeL,YS,YT,YU,YV,YW,YX,YY,YZ,B0,B1,B2,B3,B4,B5,B6,B7,B8,B9,Ba,Bb,Bc,Bd,Be,Bf,Bg,Bh,Bi,Bj,Bk,Bl,Bm]
  refine loop_nat c.mono (fun k T H' => ∃ i : Nat, i ≤ L.length ∧ k = L.length - i ∧ T 0 = .slice a L.length cap ∧ T 3 = strV (accS L i) ∧ T 4 = .int .i64 i ∧ H.le H') L.length ?_ ?_
  · refine ⟨0, by omega, rfl, ?_⟩
    simp -implicitDefEqProofs [J0,J1,J2,J3,J4,J5,J6,J7,J8,J9,Ja,Jb,Jc,Jd,Je,Jf,Jg,Jh,Ji,Jj,Jk,Jl,Jm,Jn,Jo,Jp,Jq,Jr,Js,Jt,Ju,Jv,Jw,Jx,Jy,Jz,JA,JB,JC,JD,JE,JF,JG,JH,JI,JJ,JK,JL,JM,JN,JO,JP,stillI,IOp.kind,JQ,JR,JS,JT,JU,JV,JW,JX,JY,JZ,Y0,Y1,Y2,Y3,Y4,Y5,Y6,Y7,Y8,Y9,Ya,Yb,Yc,Yd,Ye,Yf,Yg,Yh,Yi,Yj,Yk,Yl,Ym,Yn,ial,Yo,Yp,Yq,Yr,Ys,Yt,Yu,Yv,ires,iresL,ires1,Yw,Yx,Yy,Yz,YA,YB,bin2,YC,YD,YE,YF,YG,YH,YI,YJ,YK,YL,YM,YN,YO,YP,YQ,YR,un1,shOk,eqL,eq1,fillL,putAt,IHeap.load1,IHeap.loadL,IHeap.storeL,YS,YT,YU,YV,YW,YX,YY,YZ,B0,B1,B2,B3,B4,B5,B6,B7,B8,B9,Ba,Bb,Bc,Bd,Be,Bf,Bg,Bh,Bi,Bj,Bk,Bl,Bm]
    exact ⟨by simp [accS], k1⟩
  · rintro k T H' ⟨i, hi, rfl, t0, t3, t4, hle⟩
    by_cases hil : i < L.length
    · have hil' : (i : Int) < (L.length : Int) := by omega
      have hx : L[i]? = some L[i] := List.getElem?_eq_getElem hil
      obtain ⟨x, hxe⟩ : ∃ x, x = L[i] := ⟨_, rfl⟩
      rw [← hxe] at hx
      obtain ⟨b, o, cp, cs, ro, v, e1, hb, hget, hrow, hbd, s5, o5, a5, c5, ev⟩ := h.at hx
      subst ev
      rw [hu] at e1
      simp only [Value.slice.injEq] at e1
      obtain ⟨rfl, -, rfl⟩ := e1
      simp only [rowSt] at hrow
      have hget' := (hle.get b hb).trans hget
      have hw : IntKind.i64.wrap ((i : Int) + 1) = (i : Int) + 1 := wrap64 (by omega) (by omega)
      have nn := hle.next
      have hxo := hok x (List.mem_of_getElem? hx)
      have hxm := St.may_iff.1 hxo.may
      have hep := hxo.ep
      have hbs := stB_eq hxo
      have hsv : ∀ n ∈ x.sv, -9223372036854775808 ≤ n ∧ n < 9223372036854775808 := fun n hn => by have := hxm.2.2.2.2.2.2.2.1 n hn; omega
      have c1 := encI_len (n := x.ow) (by omega) (by omega)
      have c2 := encI_len (n := x.ep) (by omega) (by omega)
      have c3 := encI_len (n := x.le) (by omega) (by omega)
      have c4 := encI_len (n := x.sv.length) (by omega) (by omega)
      have cc5 := encInts_len x.sv hsv
      have hac : (accS L i).length ≤ 1000000 := by
        have h1 := encL_len (L := L.take i) fun y hy => hok y (List.mem_of_mem_take hy)
        have h2 := encI_len (n := (L.length : Int)) (by omega) (by omega)
        rw [List.length_take] at h1
        unfold accS
        rw [List.length_append]; omega
      obtain ⟨HC, hHC⟩ : ∃ HC : IHeap, HC = ((H'.alloc (.cells [.int .i64 0, .int .i64 0, .int .i64 0, .int .i64 0, .int .i64 0, .slice none 0 0] false)).set H'.next (.cells [.int .i64 i, .int .i64 x.st, .int .i64 x.ow, .int .i64 x.ep, .int .i64 x.le, .slice a5 x.sv.length c5] false)).alloc (.cells [.int .u8 (IntKind.u8.wrap x.st)] false) := ⟨_, rfl⟩
      have kC : H'.le HC := by rw [hHC]; exact ((H'.le_alloc _).set (Nat.le_refl _) _).alloc _
      have nC : HC.next = H'.next + 1 + 1 := by rw [hHC]; rfl
      obtain ⟨w8, hw8⟩ : ∃ w, w = IntKind.u8.wrap x.st := ⟨_, rfl⟩
      rw [← hw8] at hHC hbs
      have gC : HC.get H'.next = some (.cells [.int .i64 i, .int .i64 x.st, .int .i64 x.ow, .int .i64 x.ep, .int .i64 x.le, .slice a5 x.sv.length c5] false) := by rw [hHC, YS, if_neg (by simp only [YV, YU]; omega), YT, if_pos rfl]
      have gB : HC.get (H'.next + 1) = some (.cells [.int .u8 w8] false) := by rw [hHC, YS, if_pos (by simp only [YV, YU])]
      have hbl : bytesL [.int .u8 w8] = some [stB x] := by simp only [bytesL, Option.map_some, hbs]
      obtain ⟨X1, hX1⟩ : ∃ X, X = [stB x] ++ encI x.ow := ⟨_, rfl⟩
      obtain ⟨X2, hX2⟩ : ∃ X, X = X1 ++ encI x.ep := ⟨_, rfl⟩
      obtain ⟨X3, hX3⟩ : ∃ X, X = X2 ++ encI x.le := ⟨_, rfl⟩
      obtain ⟨X4, hX4⟩ : ∃ X, X = X3 ++ (encI x.sv.length ++ encInts x.sv) := ⟨_, rfl⟩
      have hX : X4 = encSt x := by rw [hX4, hX3, hX2, hX1]; simp [encSt]
      have l1 : X1.length ≤ 11 := by rw [hX1, List.length_append, List.length_singleton]; omega
      have l2 : X2.length ≤ 21 := by rw [hX2, List.length_append]; omega
      have l3 : X3.length ≤ 31 := by rw [hX3, List.length_append]; omega
      have l4 : X4.length ≤ 200 := by rw [hX]; exact encSt_len hxo
      have b1 : bin2 .add (Value.string ⟨#[stB x]⟩) (strV (encI x.ow)) = some (strV X1) := bin2_strV (l := [stB x]) (by rw [List.length_singleton]; omega) hX1
      have b2 := bin2_strV (l := X1) (m := encI x.ep) (by omega) hX2
      have b3 := bin2_strV (l := X2) (m := encI x.le) (by omega) hX3
      have b4 := bin2_strV (l := X3) (m := encI x.sv.length ++ encInts x.sv) (by rw [List.length_append]; omega) hX4
      have b5 := bin2_strV (l := accS L i) (m := X4) (by omega) (by rw [hX])
      simp -implicitDefEqProofs [J0,J1,J2,J3,J4,J5,J6,J7,J8,J9,Ja,Jb,Jc,Jd,Je,Jf,Jg,Jh,Ji,Jj,Jk,Jl,Jm,Jn,Jo,Jp,Jq,Jr,Js,Jt,Ju,Jv,Jw,Jx,Jy,Jz,JA,JB,JC,JD,JE,JF,JG,JH,JI,JJ,JK,JL,JM,JN,JO,JP,stillI,IOp.kind,JQ,JR,JS,JT,JU,JV,JW,JX,JY,JZ,Y0,Y1,Y2,Y3,Y4,Y5,Y6,Y7,Y8,Y9,Ya,Yb,Yc,Yd,Ye,Yf,Yg,Yh,Yi,Yj,Yk,Yl,Ym,Yn,ial,Yo,Yp,Yq,Yr,Ys,Yt,Yu,Yv,ires,iresL,ires1,Yw,Yx,Yy,Yz,YA,YB,bin2,YC,YD,YE,YF,YG,YH,YI,YJ,YK,YL,YM,YN,YO,YP,YQ,YR,un1,shOk,eqL,eq1,fillL,putAt,IHeap.load1,IHeap.loadL,IHeap.storeL,YS,YT,YU,YV,YW,YX,YY,YZ,B0,B1,B2,B3,B4,B5,B6,B7,B8,B9,Ba,Bb,Bc,Bd,Be,Bf,Bg,Bh,Bi,Bj,Bk,Bl,Bm, t0, t3, t4, hil, hil', hget', hrow, hbd, ← hw8, ← hHC, gB, gC, hbl]
      refine dcall_of c.mono (refInt_ok c h3 (by omega) (by omega) fun H1 j1 => ?_)
      have n1 := j1.next
      have gC1 := (j1.get H'.next (by omega)).trans gC
      have gB1 := (j1.get (H'.next + 1) (by omega)).trans gB
      simp -implicitDefEqProofs [J0,J1,J2,J3,J4,J5,J6,J7,J8,J9,Ja,Jb,Jc,Jd,Je,Jf,Jg,Jh,Ji,Jj,Jk,Jl,Jm,Jn,Jo,Jp,Jq,Jr,Js,Jt,Ju,Jv,Jw,Jx,Jy,Jz,JA,JB,JC,JD,JE,JF,JG,JH,JI,JJ,JK,JL,JM,JN,JO,JP,stillI,IOp.kind,JQ,JR,JS,JT,JU,JV,JW,JX,JY,JZ,Y0,Y1,Y2,Y3,Y4,Y5,Y6,Y7,Y8,Y9,Ya,Yb,Yc,Yd,Ye,Yf,Yg,Yh,Yi,Yj,Yk,Yl,Ym,Yn,ial,Yo,Yp,Yq,Yr,Ys,Yt,Yu,Yv,ires,iresL,ires1,Yw,Yx,Yy,Yz,YA,YB,bin2,YC,YD,YE,YF,YG,YH,YI,YJ,YK,YL,YM,YN,YO,YP,YQ,YR,un1,shOk,eqL,eq1,fillL,putAt,IHeap.load1,IHeap.loadL,IHeap.storeL,YS,YT,YU,YV,YW,YX,YY,YZ,B0,B1,B2,B3,B4,B5,B6,B7,B8,B9,Ba,Bb,Bc,Bd,Be,Bf,Bg,Bh,Bi,Bj,Bk,Bl,Bm, gC1, gB1, hbl, b1, -bin2]
      refine dcall_of c.mono (refInt_ok c h3 (by omega) (by omega) fun H2 j2 => ?_)
      have n2 := j2.next
      have gC2 := (j2.get H'.next (by omega)).trans gC1
      have gB2 := (j2.get (H'.next + 1) (by omega)).trans gB1
      simp -implicitDefEqProofs [J0,J1,J2,J3,J4,J5,J6,J7,J8,J9,Ja,Jb,Jc,Jd,Je,Jf,Jg,Jh,Ji,Jj,Jk,Jl,Jm,Jn,Jo,Jp,Jq,Jr,Js,Jt,Ju,Jv,Jw,Jx,Jy,Jz,JA,JB,JC,JD,JE,JF,JG,JH,JI,JJ,JK,JL,JM,JN,JO,JP,stillI,IOp.kind,JQ,JR,JS,JT,JU,JV,JW,JX,JY,JZ,Y0,Y1,Y2,Y3,Y4,Y5,Y6,Y7,Y8,Y9,Ya,Yb,Yc,Yd,Ye,Yf,Yg,Yh,Yi,Yj,Yk,Yl,Ym,Yn,ial,Yo,Yp,Yq,Yr,Ys,Yt,Yu,Yv,ires,iresL,ires1,Yw,Yx,Yy,Yz,YA,YB,bin2,YC,YD,YE,YF,YG,YH,YI,YJ,YK,YL,YM,YN,YO,YP,YQ,YR,un1,shOk,eqL,eq1,fillL,putAt,IHeap.load1,IHeap.loadL,IHeap.storeL,YS,YT,YU,YV,YW,YX,YY,YZ,B0,B1,B2,B3,B4,B5,B6,B7,B8,B9,Ba,Bb,Bc,Bd,Be,Bf,Bg,Bh,Bi,Bj,Bk,Bl,Bm, gC2, gB2, hbl, b2, -bin2]
      refine dcall_of c.mono (refInt_ok c h3 (by omega) (by omega) fun H3 j3 => ?_)
      have n3 := j3.next
      have gC3 := (j3.get H'.next (by omega)).trans gC2
      have gB3 := (j3.get (H'.next + 1) (by omega)).trans gB2
      simp -implicitDefEqProofs [J0,J1,J2,J3,J4,J5,J6,J7,J8,J9,Ja,Jb,Jc,Jd,Je,Jf,Jg,Jh,Ji,Jj,Jk,Jl,Jm,Jn,Jo,Jp,Jq,Jr,Js,Jt,Ju,Jv,Jw,Jx,Jy,Jz,JA,JB,JC,JD,JE,JF,JG,JH,JI,JJ,JK,JL,JM,JN,JO,JP,stillI,IOp.kind,JQ,JR,JS,JT,JU,JV,JW,JX,JY,JZ,Y0,Y1,Y2,Y3,Y4,Y5,Y6,Y7,Y8,Y9,Ya,Yb,Yc,Yd,Ye,Yf,Yg,Yh,Yi,Yj,Yk,Yl,Ym,Yn,ial,Yo,Yp,Yq,Yr,Ys,Yt,Yu,Yv,ires,iresL,ires1,Yw,Yx,Yy,Yz,YA,YB,bin2,YC,YD,YE,YF,YG,YH,YI,YJ,YK,YL,YM,YN,YO,YP,YQ,YR,un1,shOk,eqL,eq1,fillL,putAt,IHeap.load1,IHeap.loadL,IHeap.storeL,YS,YT,YU,YV,YW,YX,YY,YZ,B0,B1,B2,B3,B4,B5,B6,B7,B8,B9,Ba,Bb,Bc,Bd,Be,Bf,Bg,Bh,Bi,Bj,Bk,Bl,Bm, gC3, gB3, hbl, b3, -bin2]
      have kk := ((hle.trans kC).trans j1).trans (j2.trans j3)
      refine dcall_of c.mono (refInts_ok c h3 (s5.le kk).1 hsv (by omega) fun H4 j4 => ?_)
      have gC4 := (j4.get H'.next (by omega)).trans gC3
      have gB4 := (j4.get (H'.next + 1) (by omega)).trans gB3
      have b6 : bin2 .add (.int .i64 i) (.int .i64 1) = some (.int .i64 ((i : Int) + 1)) := by simp [bin2, YC, int2, hw]
      simp -implicitDefEqProofs [J0,J1,J2,J3,J4,J5,J6,J7,J8,J9,Ja,Jb,Jc,Jd,Je,Jf,Jg,Jh,Ji,Jj,Jk,Jl,Jm,Jn,Jo,Jp,Jq,Jr,Js,Jt,Ju,Jv,Jw,Jx,Jy,Jz,JA,JB,JC,JD,JE,JF,JG,JH,JI,JJ,JK,JL,JM,JN,JO,JP,stillI,IOp.kind,JQ,JR,JS,JT,JU,JV,JW,JX,JY,JZ,Y0,Y1,Y2,Y3,Y4,Y5,Y6,Y7,Y8,Y9,Ya,Yb,Yc,Yd,Ye,Yf,Yg,Yh,Yi,Yj,Yk,Yl,Ym,Yn,ial,Yo,Yp,Yq,Yr,Ys,Yt,Yu,Yv,ires,iresL,ires1,Yw,Yx,Yy,Yz,YA,YB,bin2,YC,YD,YE,YF,YG,YH,YI,YJ,YK,YL,YM,YN,YO,YP,YQ,YR,un1,shOk,eqL,eq1,fillL,putAt,IHeap.load1,IHeap.loadL,IHeap.storeL,YS,YT,YU,YV,YW,YX,YY,YZ,B0,B1,B2,B3,B4,B5,B6,B7,B8,B9,Ba,Bb,Bc,Bd,Be,Bf,Bg,Bh,Bi,Bj,Bk,Bl,Bm, gC4, gB4, hbl, b4, b5, b6, t0, t4, hw, -bin2]
      exact ⟨L.length - (i + 1), by omega, i + 1, by omega, rfl, by rw [accS_succ hx], by simp, kk.trans j4⟩
    · have hil' : ¬ (i : Int) < (L.length : Int) := by omega
      have hi2 : i = L.length := by omega
      subst hi2
      simp -implicitDefEqProofs [J0,J1,J2,J3,J4,J5,J6,J7,J8,J9,Ja,Jb,Jc,Jd,Je,Jf,Jg,Jh,Ji,Jj,Jk,Jl,Jm,Jn,Jo,Jp,Jq,Jr,Js,Jt,Ju,Jv,Jw,Jx,Jy,Jz,JA,JB,JC,JD,JE,JF,JG,JH,JI,JJ,JK,JL,JM,JN,JO,JP,stillI,IOp.kind,JQ,JR,JS,JT,JU,JV,JW,JX,JY,JZ,Y0,Y1,Y2,Y3,Y4,Y5,Y6,Y7,Y8,Y9,Ya,Yb,Yc,Yd,Ye,Yf,Yg,Yh,Yi,Yj,Yk,Yl,Ym,Yn,ial,Yo,Yp,Yq,Yr,Ys,Yt,Yu,Yv,ires,iresL,ires1,Yw,Yx,Yy,Yz,YA,YB,bin2,YC,YD,YE,YF,YG,YH,YI,YJ,YK,YL,YM,YN,YO,YP,YQ,YR,un1,shOk,eqL,eq1,fillL,putAt,IHeap.load1,IHeap.loadL,IHeap.storeL,YS,YT,YU,YV,YW,YX,YY,YZ,B0,B1,B2,B3,B4,B5,B6,B7,B8,B9,Ba,Bb,Bc,Bd,Be,Bf,Bg,Bh,Bi,Bj,Bk,Bl,Bm, t0, t3, t4, hil, hil']
      have := hK _ hle
      unfold encS at this
      unfold accS
      rw [List.take_of_length_le (by omega)]
      exact this

end
end Go.Proofs.YtmdkkhnenciknaaI
