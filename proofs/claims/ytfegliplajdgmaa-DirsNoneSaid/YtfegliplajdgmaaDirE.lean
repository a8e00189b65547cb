/- Directories: all names; as bytes. -/
import Derived.Test.YtfegliplajdgmaaDirD
import Derived.Test.YtfegliplajdgmaaKept
namespace Go.Proofs.YtfegliplajdgmaaI
set_option linter.unusedSimpArgs false
set_option linter.unusedVariables false
open Go

theorem wr_lay0 {b x : List UInt8} (h : b.length + x.length ≤ 65536) : Wr.lay ⟨65536, b, 0⟩ x = ⟨65536, b ++ x, 0⟩ := by
  unfold Wr.lay
  rw [if_neg (by simp), if_neg (by simp only [List.length_append]; omega)]
theorem encL_take (L : List EntD) (i : Nat) : ((L.take i).map encE).flatten.length ≤ (L.map encE).flatten.length := by
  rw [List.map_take]
  have := List.take_append_drop i (L.map encE)
  have h2 := congrArg (fun l => l.flatten.length) this
  simp only [List.flatten_append, List.length_append] at h2
  omega
def encP (L : List EntD) (i : Nat) : List UInt8 := ((L.take i).map encE).flatten
theorem okE_len {e : EntD} (h : okE e) : e.nm.length ≤ 28 ∧ (encE e).length ≤ 48 := by
  obtain ⟨h1, h2, h3⟩ := h
  simp only [nameB, decide_eq_true_eq] at h1
  have l1 := encI_len (n := (e.nm.length : Int)) (by omega) (by omega)
  have l2 := encI_len (n := e.ino) (by omega) (by omega)
  refine ⟨h1.2.1, ?_⟩
  unfold encE
  simp only [List.length_append]; omega
theorem textE_len {L : List EntD} (h : ∀ e ∈ L, okE e) : (L.map encE).flatten.length ≤ L.length * 48 := by
  induction L with
  | nil => simp
  | cons e L ih =>
    have h1 := (okE_len (h e (by simp))).2
    have h2 := ih fun x hx => h x (by simp [hx])
    simp only [List.map_cons, List.flatten_cons, List.length_append, List.length_cons]
    omega

section
variable (c : Ctx) (hc : HasDirs c) (hC : HasCodec c) {H : IHeap} {K : Value → IHeap → Prop}

include hc in
theorem DList_ok {p q : Nat} {L : List EntD} (h : IsD H p q L) (hl : L.length ≤ 1000000)
    (hK : ∀ v H', H.le H' → Grow H' H.next 1 v (L.map fun e => rowS e.nm) → K v H') : c.C (c.F n_dirs_Dir_List) [.pointer (some ⟨p, 0, none⟩)] H K := by
  refine c.enter hc.dirs_Dir_List rfl ?_
  obtain ⟨u, g1, g2⟩ := h.rep
  have hs := (g2.slw (rowE_two _)).1
  obtain ⟨a, cap, eu⟩ := g2.lenv
  rw [List.length_map] at eu
  subst eu
  simp -implicitDefEqProofs [J0,J1,J2,J3,J4,J5,J6,J7,J8,J9,Ja,Jb,Jc,Jd,Je,Jf,Jg,Jh,Ji,Jj,Jk,Jl,Jm,Jn,Jo,Jp,Jq,Jr,Js,Jt,Ju,Jv,Jw,Jx,Jy,Jz,JA,JB,JC,JD,JE,JF,JG,JH,JI,JJ,JK,JL,JM,JN,JO,JP,stillI,IOp.kind,JQ,JR,JS,JT,JU,JV,JW,JX,JY,JZ,Y0,Y1,Y2,Y3,Y4,Y5,Y6,Y7,Y8,Y9,Ya,Yb,Yc,Yd,Ye,Yf,Yg,Yh,Yi,Yj,Yk,Yl,Ym,Yn,ial,Yo,Yp,Yq,Yr,Ys,Yt,Yu,Yv,ires,iresL,ires1,Yw,Yx,Yy,Yz,YA,YB,bin2,YC,YD,YE,YF,YG,YH,YI,YJ,YK,YL,YM,YN,YO,YP,YQ,YR,un1,shOk,eqL,eq1,fillL,putAt,IHeap.load1,IHeap.loadL,IHeap.storeL,YS,YT,YU,YV,YW,YX,YY,YZ,B0,B1,B2,B3,B4,B5,B6,B7,B8,B9,Ba,Bb,Bc,Bd,Be,Bf,Bg,Bh,Bi,Bj,Bk,Bl,Bm, c_dirs_Dir_List, nilOf, g1]
  refine loop_nat c.mono (fun k T H' => ∃ i : Nat, i ≤ L.length ∧ k = L.length - i ∧ T 11 = .slice a L.length cap ∧ T 12 = .int .i64 L.length ∧ T 13 = .int .i64 i ∧ H.le H' ∧ Grow H' H.next 1 (T 3) ((L.take i).map fun e => rowS e.nm)) L.length ?_ ?_
  · refine ⟨0, by omega, rfl, ?_⟩
    simp -implicitDefEqProofs [J0,J1,J2,J3,J4,J5,J6,J7,J8,J9,Ja,Jb,Jc,Jd,Je,Jf,Jg,Jh,Ji,Jj,Jk,Jl,Jm,Jn,Jo,Jp,Jq,Jr,Js,Jt,Ju,Jv,Jw,Jx,Jy,Jz,JA,JB,JC,JD,JE,JF,JG,JH,JI,JJ,JK,JL,JM,JN,JO,JP,stillI,IOp.kind,JQ,JR,JS,JT,JU,JV,JW,JX,JY,JZ,Y0,Y1,Y2,Y3,Y4,Y5,Y6,Y7,Y8,Y9,Ya,Yb,Yc,Yd,Ye,Yf,Yg,Yh,Yi,Yj,Yk,Yl,Ym,Yn,ial,Yo,Yp,Yq,Yr,Ys,Yt,Yu,Yv,ires,iresL,ires1,Yw,Yx,Yy,Yz,YA,YB,bin2,YC,YD,YE,YF,YG,YH,YI,YJ,YK,YL,YM,YN,YO,YP,YQ,YR,un1,shOk,eqL,eq1,fillL,putAt,IHeap.load1,IHeap.loadL,IHeap.storeL,YS,YT,YU,YV,YW,YX,YY,YZ,B0,B1,B2,B3,B4,B5,B6,B7,B8,B9,Ba,Bb,Bc,Bd,Be,Bf,Bg,Bh,Bi,Bj,Bk,Bl,Bm]
    exact ⟨IHeap.le_refl _, Grow.nil _ _ _⟩
  · rintro k T H' ⟨i, hi, rfl, t11, t12, t13, hle, hgr⟩
    have nn := hle.next
    by_cases hil : i < L.length
    · have hil' : (i : Int) < (L.length : Int) := by omega
      obtain ⟨x, hx⟩ : ∃ x, x = L[i] := ⟨_, rfl⟩
      have hxe : L[i]? = some x := by rw [hx, List.getElem?_eq_getElem hil]
      obtain ⟨b, o, cp, cs, ro, e1, hb, hget, _, hrow, hbd⟩ := hs.at (i := i) (r := rowE x) (by simp [hxe])
      rw [List.length_map] at e1
      simp only [Value.slice.injEq] at e1
      obtain ⟨rfl, -, rfl⟩ := e1
      simp only [rowE] at hrow
      have hget' := (hle.get b hb).trans hget
      have hw : IntKind.i64.wrap ((i : Int) + 1) = (i : Int) + 1 := wrap64 (by omega) (by omega)
      have htk : L.take (i + 1) = L.take i ++ [x] := by rw [List.take_add_one, hxe]; rfl
      obtain ⟨HV, hHV⟩ : ∃ X : IHeap, X = (H'.alloc (.cells [.string ⟨#[]⟩, .int .i64 0] false)).set H'.next (.cells [strV x.nm, .int .i64 x.ino] false) := ⟨_, rfl⟩
      have kV : H'.le HV := by rw [hHV]; exact (H'.le_alloc _).set (Nat.le_refl _) _
      have nV : HV.next = H'.next + 1 := by rw [hHV]; rfl
      have gV : HV.get H'.next = some (.cells [strV x.nm, .int .i64 x.ino] false) := by rw [hHV, YT, if_pos rfl]
      have kC := HV.le_alloc (.cells [strV x.nm] false)
      obtain ⟨v4, H4, e4, gr4, k4⟩ := (hgr.le (kV.trans kC)).append1 (bytes := 16) (new := rowS x.nm) (by simp only [YU]; omega) (by omega) (by omega) (by simp only [List.length_map, List.length_take]; omega) (by simp only [List.length_map, List.length_take]; omega) rfl rfl
      have f4 : firstI (HV.alloc (.cells [strV x.nm] false)) 1 1 (.slice (some ⟨HV.next, 0, none⟩) 1 1) = some [strV x.nm] := by simp [firstI, IHeap.loadL, YS]
      have gr4' : Grow H4 H.next 1 v4 ((L.take (i + 1)).map fun e => rowS e.nm) := by rw [htk, List.map_append]; exact gr4
      simp only [rowS] at e4
      rw [List.map_take] at gr4'
      simp -implicitDefEqProofs [J0,J1,J2,J3,J4,J5,J6,J7,J8,J9,Ja,Jb,Jc,Jd,Je,Jf,Jg,Jh,Ji,Jj,Jk,Jl,Jm,Jn,Jo,Jp,Jq,Jr,Js,Jt,Ju,Jv,Jw,Jx,Jy,Jz,JA,JB,JC,JD,JE,JF,JG,JH,JI,JJ,JK,JL,JM,JN,JO,JP,stillI,IOp.kind,JQ,JR,JS,JT,JU,JV,JW,JX,JY,JZ,Y0,Y1,Y2,Y3,Y4,Y5,Y6,Y7,Y8,Y9,Ya,Yb,Yc,Yd,Ye,Yf,Yg,Yh,Yi,Yj,Yk,Yl,Ym,Yn,ial,Yo,Yp,Yq,Yr,Ys,Yt,Yu,Yv,ires,iresL,ires1,Yw,Yx,Yy,Yz,YA,YB,bin2,YC,YD,YE,YF,YG,YH,YI,YJ,YK,YL,YM,YN,YO,YP,YQ,YR,un1,shOk,eqL,eq1,fillL,putAt,IHeap.load1,IHeap.loadL,IHeap.storeL,YS,YT,YU,YV,YW,YX,YY,YZ,B0,B1,B2,B3,B4,B5,B6,B7,B8,B9,Ba,Bb,Bc,Bd,Be,Bf,Bg,Bh,Bi,Bj,Bk,Bl,Bm, t11, t12, t13, hil, hil', hget', hrow, hbd, ← hHV, gV, lenOfI, f4, e4, hw]
      exact ⟨L.length - (i + 1), by omega, i + 1, by omega, rfl, by simp, (((hle.trans kV).trans kC).keep (Nat.le_refl _) |>.trans k4).le (Nat.le_refl _), gr4'⟩
    · have hil' : ¬ (i : Int) < (L.length : Int) := by omega
      rw [List.take_of_length_le (by omega)] at hgr
      simp -implicitDefEqProofs [J0,J1,J2,J3,J4,J5,J6,J7,J8,J9,Ja,Jb,Jc,Jd,Je,Jf,Jg,Jh,Ji,Jj,Jk,Jl,Jm,Jn,Jo,Jp,Jq,Jr,Js,Jt,Ju,Jv,Jw,Jx,Jy,Jz,JA,JB,JC,JD,JE,JF,JG,JH,JI,JJ,JK,JL,JM,JN,JO,JP,stillI,IOp.kind,JQ,JR,JS,JT,JU,JV,JW,JX,JY,JZ,Y0,Y1,Y2,Y3,Y4,Y5,Y6,Y7,Y8,Y9,Ya,Yb,Yc,Yd,Ye,Yf,Yg,Yh,Yi,Yj,Yk,Yl,Ym,Yn,ial,Yo,Yp,Yq,Yr,Ys,Yt,Yu,Yv,ires,iresL,ires1,Yw,Yx,Yy,Yz,YA,YB,bin2,YC,YD,YE,YF,YG,YH,YI,YJ,YK,YL,YM,YN,YO,YP,YQ,YR,un1,shOk,eqL,eq1,fillL,putAt,IHeap.load1,IHeap.loadL,IHeap.storeL,YS,YT,YU,YV,YW,YX,YY,YZ,B0,B1,B2,B3,B4,B5,B6,B7,B8,B9,Ba,Bb,Bc,Bd,Be,Bf,Bg,Bh,Bi,Bj,Bk,Bl,Bm, t11, t12, t13, hil, hil']
      exact hK _ _ hle hgr

include hc hC in
theorem DText_ok {p q : Nat} {L : List EntD} (h : IsD H p q L) (hl : L.length ≤ 1000000) (hok : ∀ e ∈ L, okE e) (hfit : (textE L).length ≤ 65536)
    (hK : ∀ H', H.le H' → K (strV (textE L)) H') : c.C (c.F n_dirs_Dir_Text) [.pointer (some ⟨p, 0, none⟩)] H K := by
  refine c.enter hc.dirs_Dir_Text rfl ?_
  obtain ⟨u, g1, g2⟩ := h.rep
  have hs := (g2.slw (rowE_two _)).1
  obtain ⟨a, cap, eu⟩ := g2.lenv
  rw [List.length_map] at eu
  subst eu
  have hpl := h.lt
  have hfit' := hfit
  unfold textE at hfit'
  rw [List.length_append] at hfit'
  simp -implicitDefEqProofs [J0,J1,J2,J3,J4,J5,J6,J7,J8,J9,Ja,Jb,Jc,Jd,Je,Jf,Jg,Jh,Ji,Jj,Jk,Jl,Jm,Jn,Jo,Jp,Jq,Jr,Js,Jt,Ju,Jv,Jw,Jx,Jy,Jz,JA,JB,JC,JD,JE,JF,JG,JH,JI,JJ,JK,JL,JM,JN,JO,JP,stillI,IOp.kind,JQ,JR,JS,JT,JU,JV,JW,JX,JY,JZ,Y0,Y1,Y2,Y3,Y4,Y5,Y6,Y7,Y8,Y9,Ya,Yb,Yc,Yd,Ye,Yf,Yg,Yh,Yi,Yj,Yk,Yl,Ym,Yn,ial,Yo,Yp,Yq,Yr,Ys,Yt,Yu,Yv,ires,iresL,ires1,Yw,Yx,Yy,Yz,YA,YB,bin2,YC,YD,YE,YF,YG,YH,YI,YJ,YK,YL,YM,YN,YO,YP,YQ,YR,un1,shOk,eqL,eq1,fillL,putAt,IHeap.load1,IHeap.loadL,IHeap.storeL,YS,YT,YU,YV,YW,YX,YY,YZ,B0,B1,B2,B3,B4,B5,B6,B7,B8,B9,Ba,Bb,Bc,Bd,Be,Bf,Bg,Bh,Bi,Bj,Bk,Bl,Bm, c_dirs_Dir_Text, nilOf]
  refine call_of (NewWriter_ok c hC fun w H1 p1 k1 w1 => ?_)
  simp only [show (if (65536 : Int) < (if (0 : Int) > 65536 then 0 else 65536) then (65536 : Int) else (if (0 : Int) > 65536 then 0 else 65536)) = 65536 from by decide] at w1
  have gp1 := (k1.get p hpl).trans g1
  simp -implicitDefEqProofs [J0,J1,J2,J3,J4,J5,J6,J7,J8,J9,Ja,Jb,Jc,Jd,Je,Jf,Jg,Jh,Ji,Jj,Jk,Jl,Jm,Jn,Jo,Jp,Jq,Jr,Js,Jt,Ju,Jv,Jw,Jx,Jy,Jz,JA,JB,JC,JD,JE,JF,JG,JH,JI,JJ,JK,JL,JM,JN,JO,JP,stillI,IOp.kind,JQ,JR,JS,JT,JU,JV,JW,JX,JY,JZ,Y0,Y1,Y2,Y3,Y4,Y5,Y6,Y7,Y8,Y9,Ya,Yb,Yc,Yd,Ye,Yf,Yg,Yh,Yi,Yj,Yk,Yl,Ym,Yn,ial,Yo,Yp,Yq,Yr,Ys,Yt,Yu,Yv,ires,iresL,ires1,Yw,Yx,Yy,Yz,YA,YB,bin2,YC,YD,YE,YF,YG,YH,YI,YJ,YK,YL,YM,YN,YO,YP,YQ,YR,un1,shOk,eqL,eq1,fillL,putAt,IHeap.load1,IHeap.loadL,IHeap.storeL,YS,YT,YU,YV,YW,YX,YY,YZ,B0,B1,B2,B3,B4,B5,B6,B7,B8,B9,Ba,Bb,Bc,Bd,Be,Bf,Bg,Bh,Bi,Bj,Bk,Bl,Bm, gp1, nilOf]
  refine call_of (WInt_ok c hC w1 (by omega) (by omega) fun H2 u2 w2 => ?_)
  rw [wr_lay0 (by simp; omega), List.nil_append] at w2
  have k2 : H.le H2 := k1.updLe u2 (by simp; omega)
  have gp2 := (k2.get p hpl).trans g1
  simp -implicitDefEqProofs [J0,J1,J2,J3,J4,J5,J6,J7,J8,J9,Ja,Jb,Jc,Jd,Je,Jf,Jg,Jh,Ji,Jj,Jk,Jl,Jm,Jn,Jo,Jp,Jq,Jr,Js,Jt,Ju,Jv,Jw,Jx,Jy,Jz,JA,JB,JC,JD,JE,JF,JG,JH,JI,JJ,JK,JL,JM,JN,JO,JP,stillI,IOp.kind,JQ,JR,JS,JT,JU,JV,JW,JX,JY,JZ,Y0,Y1,Y2,Y3,Y4,Y5,Y6,Y7,Y8,Y9,Ya,Yb,Yc,Yd,Ye,Yf,Yg,Yh,Yi,Yj,Yk,Yl,Ym,Yn,ial,Yo,Yp,Yq,Yr,Ys,Yt,Yu,Yv,ires,iresL,ires1,Yw,Yx,Yy,Yz,YA,YB,bin2,YC,YD,YE,YF,YG,YH,YI,YJ,YK,YL,YM,YN,YO,YP,YQ,YR,un1,shOk,eqL,eq1,fillL,putAt,IHeap.load1,IHeap.loadL,IHeap.storeL,YS,YT,YU,YV,YW,YX,YY,YZ,B0,B1,B2,B3,B4,B5,B6,B7,B8,B9,Ba,Bb,Bc,Bd,Be,Bf,Bg,Bh,Bi,Bj,Bk,Bl,Bm, gp2, nilOf]
  refine loop_nat c.mono (fun k T H' => ∃ i : Nat, i ≤ L.length ∧ k = L.length - i ∧ T 3 = .pointer (some ⟨w, 0, none⟩) ∧ T 21 = .slice a L.length cap ∧ T 22 = .int .i64 L.length ∧ T 23 = .int .i64 i ∧ H.le H' ∧ IsW H' w ⟨65536, encI L.length ++ encP L i, 0⟩) L.length ?_ ?_
  · refine ⟨0, by omega, rfl, ?_⟩
    simp -implicitDefEqProofs [J0,J1,J2,J3,J4,J5,J6,J7,J8,J9,Ja,Jb,Jc,Jd,Je,Jf,Jg,Jh,Ji,Jj,Jk,Jl,Jm,Jn,Jo,Jp,Jq,Jr,Js,Jt,Ju,Jv,Jw,Jx,Jy,Jz,JA,JB,JC,JD,JE,JF,JG,JH,JI,JJ,JK,JL,JM,JN,JO,JP,stillI,IOp.kind,JQ,JR,JS,JT,JU,JV,JW,JX,JY,JZ,Y0,Y1,Y2,Y3,Y4,Y5,Y6,Y7,Y8,Y9,Ya,Yb,Yc,Yd,Ye,Yf,Yg,Yh,Yi,Yj,Yk,Yl,Ym,Yn,ial,Yo,Yp,Yq,Yr,Ys,Yt,Yu,Yv,ires,iresL,ires1,Yw,Yx,Yy,Yz,YA,YB,bin2,YC,YD,YE,YF,YG,YH,YI,YJ,YK,YL,YM,YN,YO,YP,YQ,YR,un1,shOk,eqL,eq1,fillL,putAt,IHeap.load1,IHeap.loadL,IHeap.storeL,YS,YT,YU,YV,YW,YX,YY,YZ,B0,B1,B2,B3,B4,B5,B6,B7,B8,B9,Ba,Bb,Bc,Bd,Be,Bf,Bg,Bh,Bi,Bj,Bk,Bl,Bm]
    exact ⟨k2, by simpa [encP] using w2⟩
  · rintro k T H' ⟨i, hi, rfl, t3, t21, t22, t23, hle, hw'⟩
    have nn := hle.next
    by_cases hil : i < L.length
    · have hil' : (i : Int) < (L.length : Int) := by omega
      obtain ⟨x, hx⟩ : ∃ x, x = L[i] := ⟨_, rfl⟩
      have hxe : L[i]? = some x := by rw [hx, List.getElem?_eq_getElem hil]
      have hxo := hok x (List.mem_of_getElem? hxe)
      have hx28 := (okE_len hxo).1
      obtain ⟨_, hx1, hx2⟩ := hxo
      obtain ⟨b, o, cp, cs, ro, e1, hb, hget, _, hrow, hbd⟩ := hs.at (i := i) (r := rowE x) (by simp [hxe])
      rw [List.length_map] at e1
      simp only [Value.slice.injEq] at e1
      obtain ⟨rfl, -, rfl⟩ := e1
      simp only [rowE] at hrow
      have hget' := (hle.get b hb).trans hget
      have hw : IntKind.i64.wrap ((i : Int) + 1) = (i : Int) + 1 := wrap64 (by omega) (by omega)
      have htk : L.take (i + 1) = L.take i ++ [x] := by rw [List.take_add_one, hxe]; rfl
      have hfl := encL_take L (i + 1)
      rw [htk, List.map_append, List.flatten_append, List.length_append] at hfl
      have hP : encP L i = ((L.take i).map encE).flatten := rfl
      rw [← hP] at hfl
      have hle2 : ([x].map encE).flatten.length = (encI x.nm.length ++ x.nm).length + (encI x.ino).length := by simp [encE, Nat.add_assoc]
      obtain ⟨HV, hHV⟩ : ∃ X : IHeap, X = (H'.alloc (.cells [.string ⟨#[]⟩, .int .i64 0] false)).set H'.next (.cells [strV x.nm, .int .i64 x.ino] false) := ⟨_, rfl⟩
      have kV : H'.le HV := by rw [hHV]; exact (H'.le_alloc _).set (Nat.le_refl _) _
      have nV : HV.next = H'.next + 1 := by rw [hHV]; rfl
      have gV : HV.get H'.next = some (.cells [strV x.nm, .int .i64 x.ino] false) := by rw [hHV, YT, if_pos rfl]
      have hwl := hw'.1
      simp -implicitDefEqProofs [J0,J1,J2,J3,J4,J5,J6,J7,J8,J9,Ja,Jb,Jc,Jd,Je,Jf,Jg,Jh,Ji,Jj,Jk,Jl,Jm,Jn,Jo,Jp,Jq,Jr,Js,Jt,Ju,Jv,Jw,Jx,Jy,Jz,JA,JB,JC,JD,JE,JF,JG,JH,JI,JJ,JK,JL,JM,JN,JO,JP,stillI,IOp.kind,JQ,JR,JS,JT,JU,JV,JW,JX,JY,JZ,Y0,Y1,Y2,Y3,Y4,Y5,Y6,Y7,Y8,Y9,Ya,Yb,Yc,Yd,Ye,Yf,Yg,Yh,Yi,Yj,Yk,Yl,Ym,Yn,ial,Yo,Yp,Yq,Yr,Ys,Yt,Yu,Yv,ires,iresL,ires1,Yw,Yx,Yy,Yz,YA,YB,bin2,YC,YD,YE,YF,YG,YH,YI,YJ,YK,YL,YM,YN,YO,YP,YQ,YR,un1,shOk,eqL,eq1,fillL,putAt,IHeap.load1,IHeap.loadL,IHeap.storeL,YS,YT,YU,YV,YW,YX,YY,YZ,B0,B1,B2,B3,B4,B5,B6,B7,B8,B9,Ba,Bb,Bc,Bd,Be,Bf,Bg,Bh,Bi,Bj,Bk,Bl,Bm, t3, t21, t22, t23, hil, hil', hget', hrow, hbd, ← hHV, gV]
      refine call_of (WText_ok c hC (hw'.le kV) (by omega) fun H3 u3 w3 => ?_)
      rw [wr_lay0 (by simp only [List.length_append] at *; omega)] at w3
      have gV3 := (u3.get H'.next (by omega) (by simp only [List.mem_singleton]; omega)).trans gV
      simp -implicitDefEqProofs [J0,J1,J2,J3,J4,J5,J6,J7,J8,J9,Ja,Jb,Jc,Jd,Je,Jf,Jg,Jh,Ji,Jj,Jk,Jl,Jm,Jn,Jo,Jp,Jq,Jr,Js,Jt,Ju,Jv,Jw,Jx,Jy,Jz,JA,JB,JC,JD,JE,JF,JG,JH,JI,JJ,JK,JL,JM,JN,JO,JP,stillI,IOp.kind,JQ,JR,JS,JT,JU,JV,JW,JX,JY,JZ,Y0,Y1,Y2,Y3,Y4,Y5,Y6,Y7,Y8,Y9,Ya,Yb,Yc,Yd,Ye,Yf,Yg,Yh,Yi,Yj,Yk,Yl,Ym,Yn,ial,Yo,Yp,Yq,Yr,Ys,Yt,Yu,Yv,ires,iresL,ires1,Yw,Yx,Yy,Yz,YA,YB,bin2,YC,YD,YE,YF,YG,YH,YI,YJ,YK,YL,YM,YN,YO,YP,YQ,YR,un1,shOk,eqL,eq1,fillL,putAt,IHeap.load1,IHeap.loadL,IHeap.storeL,YS,YT,YU,YV,YW,YX,YY,YZ,B0,B1,B2,B3,B4,B5,B6,B7,B8,B9,Ba,Bb,Bc,Bd,Be,Bf,Bg,Bh,Bi,Bj,Bk,Bl,Bm, t3, gV3]
      refine call_of (WInt_ok c hC w3 (by omega) (by omega) fun H4 u4 w4 => ?_)
      rw [wr_lay0 (by simp only [List.length_append] at *; omega)] at w4
      have hpw : H.next ≤ w := p1
      have k4 : H.le H4 := ((hle.trans kV).updLe u3 (by simpa using hpw)).updLe u4 (by simpa using hpw)
      have e4 : encI L.length ++ encP L (i + 1) = encI L.length ++ encP L i ++ (encI x.nm.length ++ x.nm) ++ encI x.ino := by
        unfold encP
        rw [htk, List.map_append, List.flatten_append]
        simp [encE]
      rw [← e4] at w4
      simp -implicitDefEqProofs [J0,J1,J2,J3,J4,J5,J6,J7,J8,J9,Ja,Jb,Jc,Jd,Je,Jf,Jg,Jh,Ji,Jj,Jk,Jl,Jm,Jn,Jo,Jp,Jq,Jr,Js,Jt,Ju,Jv,Jw,Jx,Jy,Jz,JA,JB,JC,JD,JE,JF,JG,JH,JI,JJ,JK,JL,JM,JN,JO,JP,stillI,IOp.kind,JQ,JR,JS,JT,JU,JV,JW,JX,JY,JZ,Y0,Y1,Y2,Y3,Y4,Y5,Y6,Y7,Y8,Y9,Ya,Yb,Yc,Yd,Ye,Yf,Yg,Yh,Yi,Yj,Yk,Yl,Ym,Yn,ial,Yo,Yp,Yq,Yr,Ys,Yt,Yu,Yv,ires,iresL,ires1,Yw,Yx,Yy,Yz,YA,YB,bin2,YC,YD,YE,YF,YG,YH,YI,YJ,YK,YL,YM,YN,YO,YP,YQ,YR,un1,shOk,eqL,eq1,fillL,putAt,IHeap.load1,IHeap.loadL,IHeap.storeL,YS,YT,YU,YV,YW,YX,YY,YZ,B0,B1,B2,B3,B4,B5,B6,B7,B8,B9,Ba,Bb,Bc,Bd,Be,Bf,Bg,Bh,Bi,Bj,Bk,Bl,Bm, hw, t3, t21, t22, t23]
      exact ⟨L.length - (i + 1), by omega, i + 1, by omega, rfl, by simp, k4, w4⟩
    · have hil' : ¬ (i : Int) < (L.length : Int) := by omega
      unfold encP at hw'
      rw [List.take_of_length_le (by omega)] at hw'
      simp -implicitDefEqProofs [J0,J1,J2,J3,J4,J5,J6,J7,J8,J9,Ja,Jb,Jc,Jd,Je,Jf,Jg,Jh,Ji,Jj,Jk,Jl,Jm,Jn,Jo,Jp,Jq,Jr,Js,Jt,Ju,Jv,Jw,Jx,Jy,Jz,JA,JB,JC,JD,JE,JF,JG,JH,JI,JJ,JK,JL,JM,JN,JO,JP,stillI,IOp.kind,JQ,JR,JS,JT,JU,JV,JW,JX,JY,JZ,Y0,Y1,Y2,Y3,Y4,Y5,Y6,Y7,Y8,Y9,Ya,Yb,Yc,Yd,Ye,Yf,Yg,Yh,Yi,Yj,Yk,Yl,Ym,Yn,ial,Yo,Yp,Yq,Yr,Ys,Yt,Yu,Yv,ires,iresL,ires1,Yw,Yx,Yy,Yz,YA,YB,bin2,YC,YD,YE,YF,YG,YH,YI,YJ,YK,YL,YM,YN,YO,YP,YQ,YR,un1,shOk,eqL,eq1,fillL,putAt,IHeap.load1,IHeap.loadL,IHeap.storeL,YS,YT,YU,YV,YW,YX,YY,YZ,B0,B1,B2,B3,B4,B5,B6,B7,B8,B9,Ba,Bb,Bc,Bd,Be,Bf,Bg,Bh,Bi,Bj,Bk,Bl,Bm, t3, t21, t22, t23, hil, hil']
      refine call_of (WDone_ok c hC hw' ?_)
      simp -implicitDefEqProofs [J0,J1,J2,J3,J4,J5,J6,J7,J8,J9,Ja,Jb,Jc,Jd,Je,Jf,Jg,Jh,Ji,Jj,Jk,Jl,Jm,Jn,Jo,Jp,Jq,Jr,Js,Jt,Ju,Jv,Jw,Jx,Jy,Jz,JA,JB,JC,JD,JE,JF,JG,JH,JI,JJ,JK,JL,JM,JN,JO,JP,stillI,IOp.kind,JQ,JR,JS,JT,JU,JV,JW,JX,JY,JZ,Y0,Y1,Y2,Y3,Y4,Y5,Y6,Y7,Y8,Y9,Ya,Yb,Yc,Yd,Ye,Yf,Yg,Yh,Yi,Yj,Yk,Yl,Ym,Yn,ial,Yo,Yp,Yq,Yr,Ys,Yt,Yu,Yv,ires,iresL,ires1,Yw,Yx,Yy,Yz,YA,YB,bin2,YC,YD,YE,YF,YG,YH,YI,YJ,YK,YL,YM,YN,YO,YP,YQ,YR,un1,shOk,eqL,eq1,fillL,putAt,IHeap.load1,IHeap.loadL,IHeap.storeL,YS,YT,YU,YV,YW,YX,YY,YZ,B0,B1,B2,B3,B4,B5,B6,B7,B8,B9,Ba,Bb,Bc,Bd,Be,Bf,Bg,Bh,Bi,Bj,Bk,Bl,Bm, Wr.done]
      exact hK _ hle

end
end Go.Proofs.YtfegliplajdgmaaI
