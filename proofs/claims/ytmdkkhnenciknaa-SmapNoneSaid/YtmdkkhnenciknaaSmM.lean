/- Stripes that are known: the document's deeds, a stripe begins; one is asked for. -/
import Derived.Test.YtmdkkhnenciknaaSmL
import Derived.Test.YtmdkkhnenciknaaRef01X
namespace Go.Proofs.YtmdkkhnenciknaaI
set_option linter.unusedSimpArgs false
set_option linter.unusedVariables false
open Go

/-- Are two the same? -/
def sameS (i j : Int) (x y : St) : Bool := decide (i = j) && (decide (x.st = y.st) && (decide (x.ow = y.ow) && (decide (x.ep = y.ep) && (decide (x.le = y.le) && decide (x.sv = y.sv)))))
def stZ : St := ⟨0, 0, 0, 0, []⟩
def onS (sr : Int) (x : St) : Bool := decide (x.st ≠ 3) && decide (sr ∈ x.sv)
theorem mem_at (l : List Int) (n : Int) : 0 ≤ atI l n ↔ n ∈ l := by
  have := atI_neg (l := l) (n := n)
  constructor
  · intro h
    refine Classical.byContradiction fun hm => ?_
    have := this.2 hm
    omega
  · intro hm
    have h1 : ¬ atI l n < 0 := fun hx => this.1 hx hm
    omega

section
variable (c : Ctx) (hR : HasRef24 c) (h23 : HasRef23 c) (h01 : HasRef01 c) {H : IHeap} {K : Value → IHeap → Prop}

include hR h23 in
theorem RBegin_ok {S : List Nat} {u v : Value} {L : List St} {ow ep le : Int} {sv : List Int} (h : RS H S u L) (hl : L.length ≤ 4096) (hS : ∀ b ∈ S, b < H.next) (hv : SlW H 1 v (sv.map rowI)) (hsv : sv.length ≤ 1000000)
    (hK : ∀ v' H', H.le H' → RS H' S v' (SBegin L ow ep le sv).1 → K (.tuple #[v', .int .i64 (SBegin L ow ep le sv).2.1, .int .i64 (SBegin L ow ep le sv).2.2]) H') :
    c.C (c.F n_hurdleref24_Begin) [u, .int .i64 ow, .int .i64 ep, .int .i64 le, v] H K := by
  refine c.enter hR.hurdleref24_Begin rfl ?_
  obtain ⟨a, cp, hu⟩ := h.lenv
  obtain ⟨f1, v1, H1, e1, gr1, k1⟩ := app_ok (l := sv) (old := []) (B := H.next) hv (Grow.nil _ _ _) (Nat.le_refl _) hsv (by simp)
  obtain ⟨av, cv, rfl⟩ := hv.len
  have gr1' := gr1
  obtain ⟨a1, c1, rfl⟩ := gr1.len
  simp only [List.nil_append, List.length_map] at e1 f1 gr1'
  have k1l := k1.le (Nat.le_refl _)
  rw [hu]
  simp -implicitDefEqProofs [J0,J1,J2,J3,J4,J5,J6,J7,J8,J9,Ja,Jb,Jc,Jd,Je,Jf,Jg,Jh,Ji,Jj,Jk,Jl,Jm,Jn,Jo,Jp,Jq,Jr,Js,Jt,Ju,Jv,Jw,Jx,Jy,Jz,JA,JB,JC,JD,JE,JF,JG,JH,JI,JJ,JK,JL,JM,JN,JO,JP,stillI,IOp.kind,JQ,JR,JS,JT,JU,JV,JW,JX,JY,JZ,Y0,Y1,Y2,Y3,Y4,Y5,Y6,Y7,Y8,Y9,Ya,Yb,Yc,Yd,Ye,Yf,Yg,Yh,Yi,Yj,Yk,Yl,Ym,Yn,ial,Yo,Yp,Yq,Yr,Ys,Yt,Yu,Yv,ires,iresL,ires1,Yw,Yx,Yy,Yz,YA,YB,bin2,YC,YD,YE,YF,YG,YH,YI,YJ,YK,YL,YM,YN,YO,YP,YQ,YR,un1,shOk,eqL,eq1,fillL,putAt,IHeap.load1,IHeap.loadL,IHeap.storeL,YS,YT,YU,YV,YW,YX,YY,YZ,B0,B1,B2,B3,B4,B5,B6,B7,B8,B9,Ba,Bb,Bc,Bd,Be,Bf,Bg,Bh,Bi,Bj,Bk,Bl,Bm, c_hurdleref24_Begin, lenOfI, f1, e1]
  obtain ⟨HA, hHA⟩ : ∃ X : IHeap, X = (H1.alloc (.cells [.int .i64 0, .int .i64 0, .int .i64 0, .int .i64 0, .int .i64 0, .slice none 0 0] false)).set H1.next (.cells [.int .i64 L.length, .int .i64 1, .int .i64 ow, .int .i64 ep, .int .i64 le, .slice a1 sv.length c1] false) := ⟨_, rfl⟩
  rw [← hHA]
  have kA : H1.le HA := by rw [hHA]; exact (H1.le_alloc _).set (Nat.le_refl _) _
  have nA : HA.next = H1.next + 1 := by rw [hHA]; rfl
  have gA : HA.get H1.next = some (.cells [.int .i64 L.length, .int .i64 1, .int .i64 ow, .int .i64 ep, .int .i64 le, .slice a1 sv.length c1] false) := by rw [hHA, YT, if_pos rfl]
  refine call_of (Rmay_ok c hR h23 (x := ⟨1, ow, ep, le, sv⟩) (gr1'.slw.le kA) (by simp only; omega) fun HB kB => ?_)
  have nB := kB.next
  have n1 := k1l.next
  have k13 := (k1l.trans kA).trans kB
  have gB := (kB.get H1.next (by omega)).trans gA
  have hB := h.le k13
  unfold SBegin at hK
  cases hm : St.may ⟨1, ow, ep, le, sv⟩ with
  | false =>
    rw [if_pos hm] at hK
    simp -implicitDefEqProofs [J0,J1,J2,J3,J4,J5,J6,J7,J8,J9,Ja,Jb,Jc,Jd,Je,Jf,Jg,Jh,Ji,Jj,Jk,Jl,Jm,Jn,Jo,Jp,Jq,Jr,Js,Jt,Ju,Jv,Jw,Jx,Jy,Jz,JA,JB,JC,JD,JE,JF,JG,JH,JI,JJ,JK,JL,JM,JN,JO,JP,stillI,IOp.kind,JQ,JR,JS,JT,JU,JV,JW,JX,JY,JZ,Y0,Y1,Y2,Y3,Y4,Y5,Y6,Y7,Y8,Y9,Ya,Yb,Yc,Yd,Ye,Yf,Yg,Yh,Yi,Yj,Yk,Yl,Ym,Yn,ial,Yo,Yp,Yq,Yr,Ys,Yt,Yu,Yv,ires,iresL,ires1,Yw,Yx,Yy,Yz,YA,YB,bin2,YC,YD,YE,YF,YG,YH,YI,YJ,YK,YL,YM,YN,YO,YP,YQ,YR,un1,shOk,eqL,eq1,fillL,putAt,IHeap.load1,IHeap.loadL,IHeap.storeL,YS,YT,YU,YV,YW,YX,YY,YZ,B0,B1,B2,B3,B4,B5,B6,B7,B8,B9,Ba,Bb,Bc,Bd,Be,Bf,Bg,Bh,Bi,Bj,Bk,Bl,Bm]
    rw [hu] at hB
    exact hK _ _ k13 hB
  | true =>
    rw [if_neg (by rw [hm]; simp)] at hK
    simp -implicitDefEqProofs [J0,J1,J2,J3,J4,J5,J6,J7,J8,J9,Ja,Jb,Jc,Jd,Je,Jf,Jg,Jh,Ji,Jj,Jk,Jl,Jm,Jn,Jo,Jp,Jq,Jr,Js,Jt,Ju,Jv,Jw,Jx,Jy,Jz,JA,JB,JC,JD,JE,JF,JG,JH,JI,JJ,JK,JL,JM,JN,JO,JP,stillI,IOp.kind,JQ,JR,JS,JT,JU,JV,JW,JX,JY,JZ,Y0,Y1,Y2,Y3,Y4,Y5,Y6,Y7,Y8,Y9,Ya,Yb,Yc,Yd,Ye,Yf,Yg,Yh,Yi,Yj,Yk,Yl,Ym,Yn,ial,Yo,Yp,Yq,Yr,Ys,Yt,Yu,Yv,ires,iresL,ires1,Yw,Yx,Yy,Yz,YA,YB,bin2,YC,YD,YE,YF,YG,YH,YI,YJ,YK,YL,YM,YN,YO,YP,YQ,YR,un1,shOk,eqL,eq1,fillL,putAt,IHeap.load1,IHeap.loadL,IHeap.storeL,YS,YT,YU,YV,YW,YX,YY,YZ,B0,B1,B2,B3,B4,B5,B6,B7,B8,B9,Ba,Bb,Bc,Bd,Be,Bf,Bg,Bh,Bi,Bj,Bk,Bl,Bm]
    rw [← hu]
    refine call_of (RList_ok c hR (st := 3) hB hl fun v2 HC kC s2 _ => ?_)
    obtain ⟨a2, c2, rfl⟩ := s2.len
    have hop := opn_free L
    have hople := opn_le L
    rw [List.length_map]
    obtain ⟨nf, hnf⟩ : ∃ n, n = (wh (fun x => decide (x.st = 3)) 0 L).length := ⟨_, rfl⟩
    rw [← hnf] at hop ⊢
    have hsub : IntKind.i64.wrap ((L.length : Int) - (nf : Int)) = (opn L : Int) := by rw [wrap64 (by omega) (by omega)]; omega
    have nC := kC.next
    have gC := (kC.get H1.next (by omega)).trans gB
    have kHC := k13.trans kC
    have hC := h.le kHC
    by_cases hf : 256 ≤ opn L ∨ 4096 ≤ L.length
    · rw [if_pos hf] at hK
      rw [hu] at hC
      by_cases hf1 : 256 ≤ opn L
      · have hf1' : (256 : Int) ≤ (opn L : Int) := by omega
        simp -implicitDefEqProofs [J0,J1,J2,J3,J4,J5,J6,J7,J8,J9,Ja,Jb,Jc,Jd,Je,Jf,Jg,Jh,Ji,Jj,Jk,Jl,Jm,Jn,Jo,Jp,Jq,Jr,Js,Jt,Ju,Jv,Jw,Jx,Jy,Jz,JA,JB,JC,JD,JE,JF,JG,JH,JI,JJ,JK,JL,JM,JN,JO,JP,stillI,IOp.kind,JQ,JR,JS,JT,JU,JV,JW,JX,JY,JZ,Y0,Y1,Y2,Y3,Y4,Y5,Y6,Y7,Y8,Y9,Ya,Yb,Yc,Yd,Ye,Yf,Yg,Yh,Yi,Yj,Yk,Yl,Ym,Yn,ial,Yo,Yp,Yq,Yr,Ys,Yt,Yu,Yv,ires,iresL,ires1,Yw,Yx,Yy,Yz,YA,YB,bin2,YC,YD,YE,YF,YG,YH,YI,YJ,YK,YL,YM,YN,YO,YP,YQ,YR,un1,shOk,eqL,eq1,fillL,putAt,IHeap.load1,IHeap.loadL,IHeap.storeL,YS,YT,YU,YV,YW,YX,YY,YZ,B0,B1,B2,B3,B4,B5,B6,B7,B8,B9,Ba,Bb,Bc,Bd,Be,Bf,Bg,Bh,Bi,Bj,Bk,Bl,Bm, hu, hsub, hf1, hf1']
        exact hK _ _ kHC hC
      · have hf1' : ¬ (256 : Int) ≤ (opn L : Int) := by omega
        have hf2 : 4096 ≤ L.length := by omega
        have hf2' : (4096 : Int) ≤ (L.length : Int) := by omega
        simp -implicitDefEqProofs [J0,J1,J2,J3,J4,J5,J6,J7,J8,J9,Ja,Jb,Jc,Jd,Je,Jf,Jg,Jh,Ji,Jj,Jk,Jl,Jm,Jn,Jo,Jp,Jq,Jr,Js,Jt,Ju,Jv,Jw,Jx,Jy,Jz,JA,JB,JC,JD,JE,JF,JG,JH,JI,JJ,JK,JL,JM,JN,JO,JP,stillI,IOp.kind,JQ,JR,JS,JT,JU,JV,JW,JX,JY,JZ,Y0,Y1,Y2,Y3,Y4,Y5,Y6,Y7,Y8,Y9,Ya,Yb,Yc,Yd,Ye,Yf,Yg,Yh,Yi,Yj,Yk,Yl,Ym,Yn,ial,Yo,Yp,Yq,Yr,Ys,Yt,Yu,Yv,ires,iresL,ires1,Yw,Yx,Yy,Yz,YA,YB,bin2,YC,YD,YE,YF,YG,YH,YI,YJ,YK,YL,YM,YN,YO,YP,YQ,YR,un1,shOk,eqL,eq1,fillL,putAt,IHeap.load1,IHeap.loadL,IHeap.storeL,YS,YT,YU,YV,YW,YX,YY,YZ,B0,B1,B2,B3,B4,B5,B6,B7,B8,B9,Ba,Bb,Bc,Bd,Be,Bf,Bg,Bh,Bi,Bj,Bk,Bl,Bm, hu, hsub, hf1, hf1', hf2, hf2']
        exact hK _ _ kHC hC
    · rw [if_neg hf] at hK
      have hf1 : ¬ 256 ≤ opn L := by omega
      have hf2 : ¬ 4096 ≤ L.length := by omega
      have hf1' : ¬ (256 : Int) ≤ (opn L : Int) := by omega
      have hf2' : ¬ (4096 : Int) ≤ (L.length : Int) := by omega
      obtain ⟨row, hrow⟩ : ∃ r : List Value, r = [.int .i64 L.length, .int .i64 1, .int .i64 ow, .int .i64 ep, .int .i64 le, .slice a1 sv.length c1] := ⟨_, rfl⟩
      obtain ⟨HD, hHD⟩ : ∃ X : IHeap, X = HC.alloc (.cells row false) := ⟨_, rfl⟩
      have kD : HC.le HD := by rw [hHD]; exact HC.le_alloc _
      have nD : HD.next = HC.next + 1 := by rw [hHD]; rfl
      have gD : HD.get HC.next = some (.cells row false) := by rw [hHD, YS, if_pos rfl]
      have gD1 : HD.get H1.next = some (.cells row false) := by rw [kD.get H1.next (by omega), gC, hrow]
      have kHD := kHC.trans kD
      obtain ⟨rows, hr⟩ := h.le kHD
      obtain ⟨f2, v3, H3, e3, gr3, k3⟩ := hr.copy hl (B := HD.next) (Nat.le_refl _)
      have k3l := k3.le (Nat.le_refl _)
      have n3 := k3l.next
      have f3 : firstI H3 6 1 (.slice (some ⟨HC.next, 0, none⟩) 1 1) = some row := by simp [firstI, IHeap.loadL, k3l.get HC.next (by omega), gD, hrow]
      have hlr := hr.len
      obtain ⟨v4, H4, e4, gr4, k4⟩ := gr3.append1 (bytes := 64) (new := row) k3.next (by omega) (by omega) (by omega) (by omega) (by rw [hrow]; rfl) (by rw [hrow]; rfl)
      have k4l := (k3.trans k4).le (Nat.le_refl _)
      have n4 := k4l.next
      have g3 := (k3l.get H1.next (by omega)).trans gD1
      have g4 := (k4l.get H1.next (by omega)).trans gD1
      obtain ⟨a3, c3, rfl⟩ := gr3.len
      obtain ⟨cs, hcs⟩ : ∃ cs, cs = rows.flatten := ⟨_, rfl⟩
      rw [← hcs] at f2 e3
      rw [hlr] at e3 e4
      rw [hu] at f2
      rw [hrow] at gD1 g3 g4 f3 e4 hHD
      simp -implicitDefEqProofs [J0,J1,J2,J3,J4,J5,J6,J7,J8,J9,Ja,Jb,Jc,Jd,Je,Jf,Jg,Jh,Ji,Jj,Jk,Jl,Jm,Jn,Jo,Jp,Jq,Jr,Js,Jt,Ju,Jv,Jw,Jx,Jy,Jz,JA,JB,JC,JD,JE,JF,JG,JH,JI,JJ,JK,JL,JM,JN,JO,JP,stillI,IOp.kind,JQ,JR,JS,JT,JU,JV,JW,JX,JY,JZ,Y0,Y1,Y2,Y3,Y4,Y5,Y6,Y7,Y8,Y9,Ya,Yb,Yc,Yd,Ye,Yf,Yg,Yh,Yi,Yj,Yk,Yl,Ym,Yn,ial,Yo,Yp,Yq,Yr,Ys,Yt,Yu,Yv,ires,iresL,ires1,Yw,Yx,Yy,Yz,YA,YB,bin2,YC,YD,YE,YF,YG,YH,YI,YJ,YK,YL,YM,YN,YO,YP,YQ,YR,un1,shOk,eqL,eq1,fillL,putAt,IHeap.load1,IHeap.loadL,IHeap.storeL,YS,YT,YU,YV,YW,YX,YY,YZ,B0,B1,B2,B3,B4,B5,B6,B7,B8,B9,Ba,Bb,Bc,Bd,Be,Bf,Bg,Bh,Bi,Bj,Bk,Bl,Bm, hu, hsub, hf1, hf1', hf2, hf2', gC, ← hHD, lenOfI, f2, e3, f3, e4, gD1, g3, g4, stillI]
      refine hK _ _ (kHD.trans k4l) ⟨rows ++ [row], gr4.slw, Grow.far gr4 (Nat.le_refl _) fun b hb => by have := hS b hb; have := kHD.next; omega, by simp [hlr], fun i x hx => ?_⟩
      by_cases hi : i < L.length
      · rw [List.getElem?_append_left hi] at hx
        obtain ⟨w, w1, w2, w3⟩ := hr.row i x hx
        exact ⟨w, by rw [List.getElem?_append_left (by omega)]; exact w1, w2.le k4l, w3.le k4l.next⟩
      · have hi2 : i = L.length := by
          have := (List.getElem?_eq_some_iff.1 hx).1
          simp only [List.length_append, List.length_singleton] at this; omega
        subst hi2
        rw [List.getElem?_append_right (Nat.le_refl _)] at hx
        simp only [Nat.sub_self, List.getElem?_cons_zero, Option.some.injEq] at hx
        subst hx
        have k14 := ((kA.trans kB).trans (kC.trans kD)).trans k4l
        refine ⟨.slice a1 sv.length c1, ?_, gr1'.slw.le k14, Grow.far gr1' k14.next fun b hb => hS b hb⟩
        rw [List.getElem?_append_right (by omega), hlr, Nat.sub_self, hrow]
        rfl

include hR h23 in
theorem ROn_ok {S : List Nat} {u : Value} {L : List St} {sr : Int} (h : RS H S u L) (hl : L.length ≤ 4096) (hsv : ∀ x ∈ L, x.sv.length ≤ 1000000)
    (hK : ∀ v H', H.le H' → SlW H' 1 v ((wh (onS sr) 0 L).map rowI) → K v H') : c.C (c.F n_hurdleref24_On) [u, .int .i64 sr] H K := by
  refine c.enter hR.hurdleref24_On rfl ?_
  obtain ⟨a, cap, hu⟩ := h.lenv
  simp -implicitDefEqProofs [J0,J1,J2,J3,J4,J5,J6,J7,J8,J9,Ja,Jb,Jc,Jd,Je,Jf,Jg,Jh,Ji,Jj,Jk,Jl,Jm,Jn,Jo,Jp,Jq,Jr,Js,Jt,Ju,Jv,Jw,Jx,Jy,Jz,JA,JB,JC,JD,JE,JF,JG,JH,JI,JJ,JK,JL,JM,JN,JO,JP,stillI,IOp.kind,JQ,JR,JS,JT,JU,JV,JW,JX,JY,JZ,Y0,Y1,Y2,Y3,Y4,Y5,Y6,Y7,Y8,Y9,Ya,Yb,Yc,Yd,Ye,Yf,Yg,Yh,Yi,Yj,Yk,Yl,Ym,Yn,ial,Yo,Yp,Yq,Yr,Ys,Yt,Yu,Yv,ires,iresL,ires1,Yw,Yx,Yy,Yz,YA,YB,bin2,YC,YD,YE,YF,YG,YH,YI,YJ,YK,YL,YM,YN,YO,YP,YQ,YR,un1,shOk,eqL,eq1,fillL,putAt,IHeap.load1,IHeap.loadL,IHeap.storeL,YS,YT,YU,YV,YW,YX,YY,YZ,B0,B1,B2,B3,B4,B5,B6,B7,B8,B9,Ba,Bb,Bc,Bd,Be,Bf,Bg,Bh,Bi,Bj,Bk,Bl,Bm, c_hurdleref24_On]
  refine loop_nat c.mono (fun k T H' => ∃ i : Nat, i ≤ L.length ∧ k = L.length - i ∧ T 0 = u ∧ T 1 = .int .i64 sr ∧ T 6 = .int .i64 i ∧ H.le H' ∧ Grow H' H.next 1 (T 5) ((wh (onS sr) 0 (L.take i)).map rowI)) L.length ?_ ?_
  · refine ⟨0, by omega, rfl, ?_⟩
    simp -implicitDefEqProofs [J0,J1,J2,J3,J4,J5,J6,J7,J8,J9,Ja,Jb,Jc,Jd,Je,Jf,Jg,Jh,Ji,Jj,Jk,Jl,Jm,Jn,Jo,Jp,Jq,Jr,Js,Jt,Ju,Jv,Jw,Jx,Jy,Jz,JA,JB,JC,JD,JE,JF,JG,JH,JI,JJ,JK,JL,JM,JN,JO,JP,stillI,IOp.kind,JQ,JR,JS,JT,JU,JV,JW,JX,JY,JZ,Y0,Y1,Y2,Y3,Y4,Y5,Y6,Y7,Y8,Y9,Ya,Yb,Yc,Yd,Ye,Yf,Yg,Yh,Yi,Yj,Yk,Yl,Ym,Yn,ial,Yo,Yp,Yq,Yr,Ys,Yt,Yu,Yv,ires,iresL,ires1,Yw,Yx,Yy,Yz,YA,YB,bin2,YC,YD,YE,YF,YG,YH,YI,YJ,YK,YL,YM,YN,YO,YP,YQ,YR,un1,shOk,eqL,eq1,fillL,putAt,IHeap.load1,IHeap.loadL,IHeap.storeL,YS,YT,YU,YV,YW,YX,YY,YZ,B0,B1,B2,B3,B4,B5,B6,B7,B8,B9,Ba,Bb,Bc,Bd,Be,Bf,Bg,Bh,Bi,Bj,Bk,Bl,Bm]
    exact ⟨IHeap.le_refl _, by simp [wh, Grow]⟩
  · rintro k T H' ⟨i, hi, rfl, t0, t1, t6, hle, hgr⟩
    rw [hu] at t0
    by_cases hil : i < L.length
    · have hil' : (i : Int) < (L.length : Int) := by omega
      have hx : L[i]? = some L[i] := List.getElem?_eq_getElem hil
      obtain ⟨x, hxe⟩ : ∃ x, x = L[i] := ⟨_, rfl⟩
      rw [← hxe] at hx
      obtain ⟨b, o, cp, cs, ro, v, e, hb, hget, hrow, hbd, s5, _, _⟩ := h.at hx
      rw [hu] at e
      simp only [Value.slice.injEq] at e
      obtain ⟨rfl, -, rfl⟩ := e
      have r1 := row_get hrow 1 (by omega)
      have r5 := row_get hrow 5 (by omega)
      simp only [rowSt, List.getElem?_cons_succ, List.getElem?_cons_zero] at r1 r5
      have hget' := (hle.get b hb).trans hget
      have hw : IntKind.i64.wrap ((i : Int) + 1) = (i : Int) + 1 := wrap64 (by omega) (by omega)
      have nn := hle.next
      have htk : L.take (i + 1) = L.take i ++ [x] := by rw [List.take_add_one, hx]; rfl
      have hwl := wh_le (onS sr) (L.take i) 0
      have hsn := wh_snoc (onS sr) (L.take i) 0 x
      rw [← htk, Nat.zero_add, List.length_take, Nat.min_eq_left hi] at hsn
      rw [List.length_take] at hwl
      obtain ⟨out, hout⟩ : ∃ out, out = wh (onS sr) 0 (L.take i) := ⟨_, rfl⟩
      rw [← hout] at hgr hwl hsn
      by_cases hs : x.st = 3
      · rw [if_neg (by simp [onS, hs]), List.append_nil] at hsn
        simp -implicitDefEqProofs [J0,J1,J2,J3,J4,J5,J6,J7,J8,J9,Ja,Jb,Jc,Jd,Je,Jf,Jg,Jh,Ji,Jj,Jk,Jl,Jm,Jn,Jo,Jp,Jq,Jr,Js,Jt,Ju,Jv,Jw,Jx,Jy,Jz,JA,JB,JC,JD,JE,JF,JG,JH,JI,JJ,JK,JL,JM,JN,JO,JP,stillI,IOp.kind,JQ,JR,JS,JT,JU,JV,JW,JX,JY,JZ,Y0,Y1,Y2,Y3,Y4,Y5,Y6,Y7,Y8,Y9,Ya,Yb,Yc,Yd,Ye,Yf,Yg,Yh,Yi,Yj,Yk,Yl,Ym,Yn,ial,Yo,Yp,Yq,Yr,Ys,Yt,Yu,Yv,ires,iresL,ires1,Yw,Yx,Yy,Yz,YA,YB,bin2,YC,YD,YE,YF,YG,YH,YI,YJ,YK,YL,YM,YN,YO,YP,YQ,YR,un1,shOk,eqL,eq1,fillL,putAt,IHeap.load1,IHeap.loadL,IHeap.storeL,YS,YT,YU,YV,YW,YX,YY,YZ,B0,B1,B2,B3,B4,B5,B6,B7,B8,B9,Ba,Bb,Bc,Bd,Be,Bf,Bg,Bh,Bi,Bj,Bk,Bl,Bm, t0, t1, t6, hil, hil', hget', r1, hs, hw]
        refine ⟨L.length - (i + 1), by omega, i + 1, by omega, rfl, hu.symm, by simp, hle, ?_⟩
        rw [hsn]; exact hgr
      · simp -implicitDefEqProofs [J0,J1,J2,J3,J4,J5,J6,J7,J8,J9,Ja,Jb,Jc,Jd,Je,Jf,Jg,Jh,Ji,Jj,Jk,Jl,Jm,Jn,Jo,Jp,Jq,Jr,Js,Jt,Ju,Jv,Jw,Jx,Jy,Jz,JA,JB,JC,JD,JE,JF,JG,JH,JI,JJ,JK,JL,JM,JN,JO,JP,stillI,IOp.kind,JQ,JR,JS,JT,JU,JV,JW,JX,JY,JZ,Y0,Y1,Y2,Y3,Y4,Y5,Y6,Y7,Y8,Y9,Ya,Yb,Yc,Yd,Ye,Yf,Yg,Yh,Yi,Yj,Yk,Yl,Ym,Yn,ial,Yo,Yp,Yq,Yr,Ys,Yt,Yu,Yv,ires,iresL,ires1,Yw,Yx,Yy,Yz,YA,YB,bin2,YC,YD,YE,YF,YG,YH,YI,YJ,YK,YL,YM,YN,YO,YP,YQ,YR,un1,shOk,eqL,eq1,fillL,putAt,IHeap.load1,IHeap.loadL,IHeap.storeL,YS,YT,YU,YV,YW,YX,YY,YZ,B0,B1,B2,B3,B4,B5,B6,B7,B8,B9,Ba,Bb,Bc,Bd,Be,Bf,Bg,Bh,Bi,Bj,Bk,Bl,Bm, t0, t1, t6, hil, hil', hget', r1, r5, hs]
        refine call_of (At_ok c h23 (s5.le hle) (by have := hsv x (List.mem_of_getElem? hx); omega) ?_)
        by_cases ha : 0 ≤ atI x.sv sr
        · rw [if_pos (by simp [onS, hs, (mem_at _ _).1 ha])] at hsn
          have kC := H'.le_alloc (.cells [.int .i64 i] false)
          obtain ⟨f4, v4, H4, e4, gr4, k4⟩ := app_ok (H := H'.alloc (.cells [.int .i64 i] false)) (l := [(i : Int)]) (old := out) (B := H.next) (one_of (b := H'.next) (Nat.lt_succ_self _) (by rw [YS, if_pos rfl])) (hgr.le kC) (by simp only [YU]; omega) (by simp) (by omega)
          rw [← hsn] at gr4
          simp only [List.length_singleton, List.map_singleton, iV] at f4 e4
          simp -implicitDefEqProofs [J0,J1,J2,J3,J4,J5,J6,J7,J8,J9,Ja,Jb,Jc,Jd,Je,Jf,Jg,Jh,Ji,Jj,Jk,Jl,Jm,Jn,Jo,Jp,Jq,Jr,Js,Jt,Ju,Jv,Jw,Jx,Jy,Jz,JA,JB,JC,JD,JE,JF,JG,JH,JI,JJ,JK,JL,JM,JN,JO,JP,stillI,IOp.kind,JQ,JR,JS,JT,JU,JV,JW,JX,JY,JZ,Y0,Y1,Y2,Y3,Y4,Y5,Y6,Y7,Y8,Y9,Ya,Yb,Yc,Yd,Ye,Yf,Yg,Yh,Yi,Yj,Yk,Yl,Ym,Yn,ial,Yo,Yp,Yq,Yr,Ys,Yt,Yu,Yv,ires,iresL,ires1,Yw,Yx,Yy,Yz,YA,YB,bin2,YC,YD,YE,YF,YG,YH,YI,YJ,YK,YL,YM,YN,YO,YP,YQ,YR,un1,shOk,eqL,eq1,fillL,putAt,IHeap.load1,IHeap.loadL,IHeap.storeL,YS,YT,YU,YV,YW,YX,YY,YZ,B0,B1,B2,B3,B4,B5,B6,B7,B8,B9,Ba,Bb,Bc,Bd,Be,Bf,Bg,Bh,Bi,Bj,Bk,Bl,Bm, t0, t1, t6, hil, hil', ha, lenOfI, f4, e4, hw]
          have k5 : H.le H4 := ((hle.trans kC).keep (Nat.le_refl _) |>.trans k4).le (Nat.le_refl _)
          exact ⟨L.length - (i + 1), by omega, i + 1, by omega, rfl, hu.symm, by simp, k5, gr4⟩
        · rw [if_neg (by simp only [onS, Bool.and_eq_true, decide_eq_true_eq]; exact fun hh => ha ((mem_at _ _).2 hh.2)), List.append_nil] at hsn
          simp -implicitDefEqProofs [J0,J1,J2,J3,J4,J5,J6,J7,J8,J9,Ja,Jb,Jc,Jd,Je,Jf,Jg,Jh,Ji,Jj,Jk,Jl,Jm,Jn,Jo,Jp,Jq,Jr,Js,Jt,Ju,Jv,Jw,Jx,Jy,Jz,JA,JB,JC,JD,JE,JF,JG,JH,JI,JJ,JK,JL,JM,JN,JO,JP,stillI,IOp.kind,JQ,JR,JS,JT,JU,JV,JW,JX,JY,JZ,Y0,Y1,Y2,Y3,Y4,Y5,Y6,Y7,Y8,Y9,Ya,Yb,Yc,Yd,Ye,Yf,Yg,Yh,Yi,Yj,Yk,Yl,Ym,Yn,ial,Yo,Yp,Yq,Yr,Ys,Yt,Yu,Yv,ires,iresL,ires1,Yw,Yx,Yy,Yz,YA,YB,bin2,YC,YD,YE,YF,YG,YH,YI,YJ,YK,YL,YM,YN,YO,YP,YQ,YR,un1,shOk,eqL,eq1,fillL,putAt,IHeap.load1,IHeap.loadL,IHeap.storeL,YS,YT,YU,YV,YW,YX,YY,YZ,B0,B1,B2,B3,B4,B5,B6,B7,B8,B9,Ba,Bb,Bc,Bd,Be,Bf,Bg,Bh,Bi,Bj,Bk,Bl,Bm, t0, t1, t6, hil, hil', ha, hw]
          refine ⟨L.length - (i + 1), by omega, i + 1, by omega, rfl, hu.symm, by simp, hle, ?_⟩
          rw [hsn]; exact hgr
    · have hil' : ¬ (i : Int) < (L.length : Int) := by omega
      rw [List.take_of_length_le (by omega)] at hgr
      simp -implicitDefEqProofs [J0,J1,J2,J3,J4,J5,J6,J7,J8,J9,Ja,Jb,Jc,Jd,Je,Jf,Jg,Jh,Ji,Jj,Jk,Jl,Jm,Jn,Jo,Jp,Jq,Jr,Js,Jt,Ju,Jv,Jw,Jx,Jy,Jz,JA,JB,JC,JD,JE,JF,JG,JH,JI,JJ,JK,JL,JM,JN,JO,JP,stillI,IOp.kind,JQ,JR,JS,JT,JU,JV,JW,JX,JY,JZ,Y0,Y1,Y2,Y3,Y4,Y5,Y6,Y7,Y8,Y9,Ya,Yb,Yc,Yd,Ye,Yf,Yg,Yh,Yi,Yj,Yk,Yl,Ym,Yn,ial,Yo,Yp,Yq,Yr,Ys,Yt,Yu,Yv,ires,iresL,ires1,Yw,Yx,Yy,Yz,YA,YB,bin2,YC,YD,YE,YF,YG,YH,YI,YJ,YK,YL,YM,YN,YO,YP,YQ,YR,un1,shOk,eqL,eq1,fillL,putAt,IHeap.load1,IHeap.loadL,IHeap.storeL,YS,YT,YU,YV,YW,YX,YY,YZ,B0,B1,B2,B3,B4,B5,B6,B7,B8,B9,Ba,Bb,Bc,Bd,Be,Bf,Bg,Bh,Bi,Bj,Bk,Bl,Bm, t0, t1, t6, hil, hil']
      exact hK _ _ hle hgr.slw

include hR in
theorem RGet_ok {S : List Nat} {u : Value} {L : List St} {id : Int} (h : RS H S u L) (hl : L.length ≤ 4096)
    (h0 : getS L id = none → ∀ H', H.le H' → K (.tuple #[.agg #[.int .i64 0, .int .i64 0, .int .i64 0, .int .i64 0, .int .i64 0, .slice none 0 0], .bool false]) H')
    (h1 : ∀ x, getS L id = some x → ∀ v H', H.le H' → SlW H' 1 v (x.sv.map rowI) → Far H' v S → K (.tuple #[stV id.toNat x v, .bool true]) H') : c.C (c.F n_hurdleref24_Get) [u, .int .i64 id] H K := by
  refine c.enter hR.hurdleref24_Get rfl ?_
  simp -implicitDefEqProofs [J0,J1,J2,J3,J4,J5,J6,J7,J8,J9,Ja,Jb,Jc,Jd,Je,Jf,Jg,Jh,Ji,Jj,Jk,Jl,Jm,Jn,Jo,Jp,Jq,Jr,Js,Jt,Ju,Jv,Jw,Jx,Jy,Jz,JA,JB,JC,JD,JE,JF,JG,JH,JI,JJ,JK,JL,JM,JN,JO,JP,stillI,IOp.kind,JQ,JR,JS,JT,JU,JV,JW,JX,JY,JZ,Y0,Y1,Y2,Y3,Y4,Y5,Y6,Y7,Y8,Y9,Ya,Yb,Yc,Yd,Ye,Yf,Yg,Yh,Yi,Yj,Yk,Yl,Ym,Yn,ial,Yo,Yp,Yq,Yr,Ys,Yt,Yu,Yv,ires,iresL,ires1,Yw,Yx,Yy,Yz,YA,YB,bin2,YC,YD,YE,YF,YG,YH,YI,YJ,YK,YL,YM,YN,YO,YP,YQ,YR,un1,shOk,eqL,eq1,fillL,putAt,IHeap.load1,IHeap.loadL,IHeap.storeL,YS,YT,YU,YV,YW,YX,YY,YZ,B0,B1,B2,B3,B4,B5,B6,B7,B8,B9,Ba,Bb,Bc,Bd,Be,Bf,Bg,Bh,Bi,Bj,Bk,Bl,Bm, c_hurdleref24_Get]
  have kA := H.le_alloc (.cells [.int .i64 0, .int .i64 0, .int .i64 0, .int .i64 0, .int .i64 0, .slice none 0 0] false)
  refine call_of (Rknown_ok c hR (h.le kA) hl ?_)
  cases hg : getS L id with
  | none =>
    simp -implicitDefEqProofs [J0,J1,J2,J3,J4,J5,J6,J7,J8,J9,Ja,Jb,Jc,Jd,Je,Jf,Jg,Jh,Ji,Jj,Jk,Jl,Jm,Jn,Jo,Jp,Jq,Jr,Js,Jt,Ju,Jv,Jw,Jx,Jy,Jz,JA,JB,JC,JD,JE,JF,JG,JH,JI,JJ,JK,JL,JM,JN,JO,JP,stillI,IOp.kind,JQ,JR,JS,JT,JU,JV,JW,JX,JY,JZ,Y0,Y1,Y2,Y3,Y4,Y5,Y6,Y7,Y8,Y9,Ya,Yb,Yc,Yd,Ye,Yf,Yg,Yh,Yi,Yj,Yk,Yl,Ym,Yn,ial,Yo,Yp,Yq,Yr,Ys,Yt,Yu,Yv,ires,iresL,ires1,Yw,Yx,Yy,Yz,YA,YB,bin2,YC,YD,YE,YF,YG,YH,YI,YJ,YK,YL,YM,YN,YO,YP,YQ,YR,un1,shOk,eqL,eq1,fillL,putAt,IHeap.load1,IHeap.loadL,IHeap.storeL,YS,YT,YU,YV,YW,YX,YY,YZ,B0,B1,B2,B3,B4,B5,B6,B7,B8,B9,Ba,Bb,Bc,Bd,Be,Bf,Bg,Bh,Bi,Bj,Bk,Bl,Bm, Option.isSome_none]
    exact h0 hg _ (kA.set (Nat.le_refl _) _)
  | some x =>
    obtain ⟨i0, i1, hx⟩ := getS_some hg
    obtain ⟨b, o, cp, cs, ro, v, e, hb, hget, hrow, hbd, s5, o5, a5, c5, ev⟩ := h.at hx
    subst e
    subst ev
    have hi' : id < (L.length : Int) := by omega
    have eid : ((id.toNat : Nat) : Int) = id := by omega
    simp only [rowSt, eid] at hrow
    have hne : ¬ b = H.next := by omega
    simp -implicitDefEqProofs [J0,J1,J2,J3,J4,J5,J6,J7,J8,J9,Ja,Jb,Jc,Jd,Je,Jf,Jg,Jh,Ji,Jj,Jk,Jl,Jm,Jn,Jo,Jp,Jq,Jr,Js,Jt,Ju,Jv,Jw,Jx,Jy,Jz,JA,JB,JC,JD,JE,JF,JG,JH,JI,JJ,JK,JL,JM,JN,JO,JP,stillI,IOp.kind,JQ,JR,JS,JT,JU,JV,JW,JX,JY,JZ,Y0,Y1,Y2,Y3,Y4,Y5,Y6,Y7,Y8,Y9,Ya,Yb,Yc,Yd,Ye,Yf,Yg,Yh,Yi,Yj,Yk,Yl,Ym,Yn,ial,Yo,Yp,Yq,Yr,Ys,Yt,Yu,Yv,ires,iresL,ires1,Yw,Yx,Yy,Yz,YA,YB,bin2,YC,YD,YE,YF,YG,YH,YI,YJ,YK,YL,YM,YN,YO,YP,YQ,YR,un1,shOk,eqL,eq1,fillL,putAt,IHeap.load1,IHeap.loadL,IHeap.storeL,YS,YT,YU,YV,YW,YX,YY,YZ,B0,B1,B2,B3,B4,B5,B6,B7,B8,B9,Ba,Bb,Bc,Bd,Be,Bf,Bg,Bh,Bi,Bj,Bk,Bl,Bm, Option.isSome_some, i0, hi', hget, hne, hrow, hbd, rowSt]
    have k := kA.set (Nat.le_refl _) (.cells [.int .i64 id, .int .i64 x.st, .int .i64 x.ow, .int .i64 x.ep, .int .i64 x.le, .slice a5 x.sv.length c5] false)
    have := h1 x hg _ _ k (s5.le k) (o5.le k.next)
    simp only [stV, eid] at this
    exact this

include hR h01 in
theorem RSame_ok {i j : Int} {x y : St} {u v : Value} (hu : SlW H 1 u (x.sv.map rowI)) (hv : SlW H 1 v (y.sv.map rowI)) (hl : x.sv.length ≤ 1000000) (hK : ∀ H', H.le H' → K (.bool (sameS i j x y)) H') :
    c.C (c.F n_hurdleref24_Same) [.agg #[.int .i64 i, .int .i64 x.st, .int .i64 x.ow, .int .i64 x.ep, .int .i64 x.le, u], .agg #[.int .i64 j, .int .i64 y.st, .int .i64 y.ow, .int .i64 y.ep, .int .i64 y.le, v]] H K := by
  refine c.enter hR.hurdleref24_Same rfl ?_
  have hu2 := hu
  have hv2 := hv
  obtain ⟨a1, c1, rfl⟩ := hu.len
  obtain ⟨a2, c2, rfl⟩ := hv.len
  simp only [List.length_map] at hu2 hv2 ⊢
  unfold sameS at hK
  have kB : ∀ y z, H.le ((H.alloc y).alloc z) := fun y z => (H.le_alloc y).alloc z
  by_cases h1 : i = j
  · by_cases h2 : x.st = y.st
    · by_cases h3 : x.ow = y.ow
      · by_cases h4 : x.ep = y.ep
        · by_cases h5 : x.le = y.le
          · simp -implicitDefEqProofs [J0,J1,J2,J3,J4,J5,J6,J7,J8,J9,Ja,Jb,Jc,Jd,Je,Jf,Jg,Jh,Ji,Jj,Jk,Jl,Jm,Jn,Jo,Jp,Jq,Jr,Js,Jt,Ju,Jv,Jw,Jx,Jy,Jz,JA,JB,JC,JD,JE,JF,JG,JH,JI,JJ,JK,JL,JM,JN,JO,JP,stillI,IOp.kind,JQ,JR,JS,JT,JU,JV,JW,JX,JY,JZ,Y0,Y1,Y2,Y3,Y4,Y5,Y6,Y7,Y8,Y9,Ya,Yb,Yc,Yd,Ye,Yf,Yg,Yh,Yi,Yj,Yk,Yl,Ym,Yn,ial,Yo,Yp,Yq,Yr,Ys,Yt,Yu,Yv,ires,iresL,ires1,Yw,Yx,Yy,Yz,YA,YB,bin2,YC,YD,YE,YF,YG,YH,YI,YJ,YK,YL,YM,YN,YO,YP,YQ,YR,un1,shOk,eqL,eq1,fillL,putAt,IHeap.load1,IHeap.loadL,IHeap.storeL,YS,YT,YU,YV,YW,YX,YY,YZ,B0,B1,B2,B3,B4,B5,B6,B7,B8,B9,Ba,Bb,Bc,Bd,Be,Bf,Bg,Bh,Bi,Bj,Bk,Bl,Bm, c_hurdleref24_Same, h1, h2, h3, h4, h5]
            refine call_of (refInts01_ok c h01 (hu2.le (kB _ _)).1 (hv2.le (kB _ _)).1 (by omega) ?_)
            simp -implicitDefEqProofs [J0,J1,J2,J3,J4,J5,J6,J7,J8,J9,Ja,Jb,Jc,Jd,Je,Jf,Jg,Jh,Ji,Jj,Jk,Jl,Jm,Jn,Jo,Jp,Jq,Jr,Js,Jt,Ju,Jv,Jw,Jx,Jy,Jz,JA,JB,JC,JD,JE,JF,JG,JH,JI,JJ,JK,JL,JM,JN,JO,JP,stillI,IOp.kind,JQ,JR,JS,JT,JU,JV,JW,JX,JY,JZ,Y0,Y1,Y2,Y3,Y4,Y5,Y6,Y7,Y8,Y9,Ya,Yb,Yc,Yd,Ye,Yf,Yg,Yh,Yi,Yj,Yk,Yl,Ym,Yn,ial,Yo,Yp,Yq,Yr,Ys,Yt,Yu,Yv,ires,iresL,ires1,Yw,Yx,Yy,Yz,YA,YB,bin2,YC,YD,YE,YF,YG,YH,YI,YJ,YK,YL,YM,YN,YO,YP,YQ,YR,un1,shOk,eqL,eq1,fillL,putAt,IHeap.load1,IHeap.loadL,IHeap.storeL,YS,YT,YU,YV,YW,YX,YY,YZ,B0,B1,B2,B3,B4,B5,B6,B7,B8,B9,Ba,Bb,Bc,Bd,Be,Bf,Bg,Bh,Bi,Bj,Bk,Bl,Bm]
            simpa [h1, h2, h3, h4, h5] using hK _ (kB _ _)
          · simp -implicitDefEqProofs [J0,J1,J2,J3,J4,J5,J6,J7,J8,J9,Ja,Jb,Jc,Jd,Je,Jf,Jg,Jh,Ji,Jj,Jk,Jl,Jm,Jn,Jo,Jp,Jq,Jr,Js,Jt,Ju,Jv,Jw,Jx,Jy,Jz,JA,JB,JC,JD,JE,JF,JG,JH,JI,JJ,JK,JL,JM,JN,JO,JP,stillI,IOp.kind,JQ,JR,JS,JT,JU,JV,JW,JX,JY,JZ,Y0,Y1,Y2,Y3,Y4,Y5,Y6,Y7,Y8,Y9,Ya,Yb,Yc,Yd,Ye,Yf,Yg,Yh,Yi,Yj,Yk,Yl,Ym,Yn,ial,Yo,Yp,Yq,Yr,Ys,Yt,Yu,Yv,ires,iresL,ires1,Yw,Yx,Yy,Yz,YA,YB,bin2,YC,YD,YE,YF,YG,YH,YI,YJ,YK,YL,YM,YN,YO,YP,YQ,YR,un1,shOk,eqL,eq1,fillL,putAt,IHeap.load1,IHeap.loadL,IHeap.storeL,YS,YT,YU,YV,YW,YX,YY,YZ,B0,B1,B2,B3,B4,B5,B6,B7,B8,B9,Ba,Bb,Bc,Bd,Be,Bf,Bg,Bh,Bi,Bj,Bk,Bl,Bm, c_hurdleref24_Same, h1, h2, h3, h4, h5]
            simpa [h1, h2, h3, h4, h5] using hK _ (kB _ _)
        · simp -implicitDefEqProofs [J0,J1,J2,J3,J4,J5,J6,J7,J8,J9,Ja,Jb,Jc,Jd,Je,Jf,Jg,Jh,Ji,Jj,Jk,Jl,Jm,Jn,Jo,Jp,Jq,Jr,Js,Jt,Ju,Jv,Jw,Jx,Jy,Jz,JA,JB,JC,JD,JE,JF,JG,JH,JI,JJ,JK,JL,JM,JN,JO,JP,stillI,IOp.kind,JQ,JR,JS,JT,JU,JV,JW,JX,JY,JZ,Y0,Y1,Y2,Y3,Y4,Y5,Y6,Y7,Y8,Y9,Ya,Yb,Yc,Yd,Ye,Yf,Yg,Yh,Yi,Yj,Yk,Yl,Ym,Yn,ial,Yo,Yp,Yq,Yr,Ys,Yt,Yu,Yv,ires,iresL,ires1,Yw,Yx,Yy,Yz,YA,YB,bin2,YC,YD,YE,YF,YG,YH,YI,YJ,YK,YL,YM,YN,YO,YP,YQ,YR,un1,shOk,eqL,eq1,fillL,putAt,IHeap.load1,IHeap.loadL,IHeap.storeL,YS,YT,YU,YV,YW,YX,YY,YZ,B0,B1,B2,B3,B4,B5,B6,B7,B8,B9,Ba,Bb,Bc,Bd,Be,Bf,Bg,Bh,Bi,Bj,Bk,Bl,Bm, c_hurdleref24_Same, h1, h2, h3, h4]
          simpa [h1, h2, h3, h4] using hK _ (kB _ _)
      · simp -implicitDefEqProofs [J0,J1,J2,J3,J4,J5,J6,J7,J8,J9,Ja,Jb,Jc,Jd,Je,Jf,Jg,Jh,Ji,Jj,Jk,Jl,Jm,Jn,Jo,Jp,Jq,Jr,Js,Jt,Ju,Jv,Jw,Jx,Jy,Jz,JA,JB,JC,JD,JE,JF,JG,JH,JI,JJ,JK,JL,JM,JN,JO,JP,stillI,IOp.kind,JQ,JR,JS,JT,JU,JV,JW,JX,JY,JZ,Y0,Y1,Y2,Y3,Y4,Y5,Y6,Y7,Y8,Y9,Ya,Yb,Yc,Yd,Ye,Yf,Yg,Yh,Yi,Yj,Yk,Yl,Ym,Yn,ial,Yo,Yp,Yq,Yr,Ys,Yt,Yu,Yv,ires,iresL,ires1,Yw,Yx,Yy,Yz,YA,YB,bin2,YC,YD,YE,YF,YG,YH,YI,YJ,YK,YL,YM,YN,YO,YP,YQ,YR,un1,shOk,eqL,eq1,fillL,putAt,IHeap.load1,IHeap.loadL,IHeap.storeL,YS,YT,YU,YV,YW,YX,YY,YZ,B0,B1,B2,B3,B4,B5,B6,B7,B8,B9,Ba,Bb,Bc,Bd,Be,Bf,Bg,Bh,Bi,Bj,Bk,Bl,Bm, c_hurdleref24_Same, h1, h2, h3]
        simpa [h1, h2, h3] using hK _ (kB _ _)
    · simp -implicitDefEqProofs [J0,J1,J2,J3,J4,J5,J6,J7,J8,J9,Ja,Jb,Jc,Jd,Je,Jf,Jg,Jh,Ji,Jj,Jk,Jl,Jm,Jn,Jo,Jp,Jq,Jr,Js,Jt,Ju,Jv,Jw,Jx,Jy,Jz,JA,JB,JC,JD,JE,JF,JG,JH,JI,JJ,JK,JL,JM,JN,JO,JP,stillI,IOp.kind,JQ,JR,JS,JT,JU,JV,JW,JX,JY,JZ,Y0,Y1,Y2,Y3,Y4,Y5,Y6,Y7,Y8,Y9,Ya,Yb,Yc,Yd,Ye,Yf,Yg,Yh,Yi,Yj,Yk,Yl,Ym,Yn,ial,Yo,Yp,Yq,Yr,Ys,Yt,Yu,Yv,ires,iresL,ires1,Yw,Yx,Yy,Yz,YA,YB,bin2,YC,YD,YE,YF,YG,YH,YI,YJ,YK,YL,YM,YN,YO,YP,YQ,YR,un1,shOk,eqL,eq1,fillL,putAt,IHeap.load1,IHeap.loadL,IHeap.storeL,YS,YT,YU,YV,YW,YX,YY,YZ,B0,B1,B2,B3,B4,B5,B6,B7,B8,B9,Ba,Bb,Bc,Bd,Be,Bf,Bg,Bh,Bi,Bj,Bk,Bl,Bm, c_hurdleref24_Same, h1, h2]
      simpa [h1, h2] using hK _ (kB _ _)
  · simp -implicitDefEqProofs [J0,J1,J2,J3,J4,J5,J6,J7,J8,J9,Ja,Jb,Jc,Jd,Je,Jf,Jg,Jh,Ji,Jj,Jk,Jl,Jm,Jn,Jo,Jp,Jq,Jr,Js,Jt,Ju,Jv,Jw,Jx,Jy,Jz,JA,JB,JC,JD,JE,JF,JG,JH,JI,JJ,JK,JL,JM,JN,JO,JP,stillI,IOp.kind,JQ,JR,JS,JT,JU,JV,JW,JX,JY,JZ,Y0,Y1,Y2,Y3,Y4,Y5,Y6,Y7,Y8,Y9,Ya,Yb,Yc,Yd,Ye,Yf,Yg,Yh,Yi,Yj,Yk,Yl,Ym,Yn,ial,Yo,Yp,Yq,Yr,Ys,Yt,Yu,Yv,ires,iresL,ires1,Yw,Yx,Yy,Yz,YA,YB,bin2,YC,YD,YE,YF,YG,YH,YI,YJ,YK,YL,YM,YN,YO,YP,YQ,YR,un1,shOk,eqL,eq1,fillL,putAt,IHeap.load1,IHeap.loadL,IHeap.storeL,YS,YT,YU,YV,YW,YX,YY,YZ,B0,B1,B2,B3,B4,B5,B6,B7,B8,B9,Ba,Bb,Bc,Bd,Be,Bf,Bg,Bh,Bi,Bj,Bk,Bl,Bm, c_hurdleref24_Same, h1]
    simpa [h1] using hK _ (kB _ _)

end
end Go.Proofs.YtmdkkhnenciknaaI
