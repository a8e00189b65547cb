/- Who accepts: both play alike. -/
import Derived.Test.YtkgfnelapcpibaaAccN
namespace Go.Proofs.YtkgfnelapcpibaaI
set_option linter.unusedSimpArgs false
set_option linter.unusedVariables false
open Go

/-- Both, where they stand. -/
def PlA (N x p i : Nat) (H : IHeap) : Prop := ∃ A u, A.L.length ≤ i ∧ GoodA A ∧ StA (fun b => b < N ∨ b = x ∨ inB u b) H p A ∧ H.get x = some (.cells [.int .i64 A.pa, .int .i64 A.pn, .int .i64 A.base, u] false) ∧ SlW H 4 u (A.L.map rowV) ∧ ¬ inB u x

section
variable (c : Ctx) (hc : HasAcc c) (hB : HasBalA c) (hBC : HasBalC c) (hI : InsOk c) (hR : HasRef17 c) (hT : HasLaw17 c) (hA : ∀ H K, (∀ H', K (.bool true) H') → c.C (c.F n_hurdlelaw17_awake) [] H K) {H : IHeap} {K : Value → IHeap → Prop}

include hc hB hBC hI hR hT hA in
theorem plays_ok17 {l : List DeedA} {u : Value} (hu : SlR H 5 u (l.map rowD)) (hK : ∀ H', K (.bool true) H') :
    c.C (c.F n_hurdlelaw17_AcceptorPlays) [u] H K := by
  refine c.enter hT.hurdlelaw17_AcceptorPlays rfl ?_
  have hu' := hu
  obtain ⟨a, cap, rfl, _⟩ := hu'
  simp only [List.length_map] at hu ⊢
  simp -implicitDefEqProofs [J0,J1,J2,J3,J4,J5,J6,J7,J8,J9,Ja,Jb,Jc,Jd,Je,Jf,Jg,Jh,Ji,Jj,Jk,Jl,Jm,Jn,Jo,Jp,Jq,Jr,Js,Jt,Ju,Jv,Jw,Jx,Jy,Jz,JA,JB,JC,JD,JE,JF,JG,JH,JI,JJ,JK,JL,JM,JN,JO,JP,stillI,IOp.kind,JQ,JR,JS,JT,JU,JV,JW,JX,JY,JZ,Y0,Y1,Y2,Y3,Y4,Y5,Y6,Y7,Y8,Y9,Ya,Yb,Yc,Yd,Ye,Yf,Yg,Yh,Yi,Yj,Yk,Yl,Ym,Yn,ial,Yo,Yp,Yq,Yr,Ys,Yt,Yu,Yv,ires,iresL,ires1,Yw,Yx,Yy,Yz,YA,YB,bin2,YC,YD,YE,YF,YG,YH,YI,YJ,YK,YL,YM,YN,YO,YP,YQ,YR,un1,shOk,eqL,eq1,fillL,putAt,IHeap.load1,IHeap.loadL,IHeap.storeL,YS,YT,YU,YV,YW,YX,YY,YZ,B0,B1,B2,B3,B4,B5,B6,B7,B8,B9,Ba,Bb,Bc,Bd,Be,Bf,Bg,Bh,Bi,Bj,Bk,Bl,Bm, c_hurdlelaw17_AcceptorPlays]
  refine call_of (Few_ok17 c hT hu ?_ fun hl60 => ?_)
  · simp -implicitDefEqProofs [J0,J1,J2,J3,J4,J5,J6,J7,J8,J9,Ja,Jb,Jc,Jd,Je,Jf,Jg,Jh,Ji,Jj,Jk,Jl,Jm,Jn,Jo,Jp,Jq,Jr,Js,Jt,Ju,Jv,Jw,Jx,Jy,Jz,JA,JB,JC,JD,JE,JF,JG,JH,JI,JJ,JK,JL,JM,JN,JO,JP,stillI,IOp.kind,JQ,JR,JS,JT,JU,JV,JW,JX,JY,JZ,Y0,Y1,Y2,Y3,Y4,Y5,Y6,Y7,Y8,Y9,Ya,Yb,Yc,Yd,Ye,Yf,Yg,Yh,Yi,Yj,Yk,Yl,Ym,Yn,ial,Yo,Yp,Yq,Yr,Ys,Yt,Yu,Yv,ires,iresL,ires1,Yw,Yx,Yy,Yz,YA,YB,bin2,YC,YD,YE,YF,YG,YH,YI,YJ,YK,YL,YM,YN,YO,YP,YQ,YR,un1,shOk,eqL,eq1,fillL,putAt,IHeap.load1,IHeap.loadL,IHeap.storeL,YS,YT,YU,YV,YW,YX,YY,YZ,B0,B1,B2,B3,B4,B5,B6,B7,B8,B9,Ba,Bb,Bc,Bd,Be,Bf,Bg,Bh,Bi,Bj,Bk,Bl,Bm]
    refine call_of (hA _ _ fun H' => ?_)
    simp -implicitDefEqProofs [J0,J1,J2,J3,J4,J5,J6,J7,J8,J9,Ja,Jb,Jc,Jd,Je,Jf,Jg,Jh,Ji,Jj,Jk,Jl,Jm,Jn,Jo,Jp,Jq,Jr,Js,Jt,Ju,Jv,Jw,Jx,Jy,Jz,JA,JB,JC,JD,JE,JF,JG,JH,JI,JJ,JK,JL,JM,JN,JO,JP,stillI,IOp.kind,JQ,JR,JS,JT,JU,JV,JW,JX,JY,JZ,Y0,Y1,Y2,Y3,Y4,Y5,Y6,Y7,Y8,Y9,Ya,Yb,Yc,Yd,Ye,Yf,Yg,Yh,Yi,Yj,Yk,Yl,Ym,Yn,ial,Yo,Yp,Yq,Yr,Ys,Yt,Yu,Yv,ires,iresL,ires1,Yw,Yx,Yy,Yz,YA,YB,bin2,YC,YD,YE,YF,YG,YH,YI,YJ,YK,YL,YM,YN,YO,YP,YQ,YR,un1,shOk,eqL,eq1,fillL,putAt,IHeap.load1,IHeap.loadL,IHeap.storeL,YS,YT,YU,YV,YW,YX,YY,YZ,B0,B1,B2,B3,B4,B5,B6,B7,B8,B9,Ba,Bb,Bc,Bd,Be,Bf,Bg,Bh,Bi,Bj,Bk,Bl,Bm]
    exact hK _
  · simp -implicitDefEqProofs [J0,J1,J2,J3,J4,J5,J6,J7,J8,J9,Ja,Jb,Jc,Jd,Je,Jf,Jg,Jh,Ji,Jj,Jk,Jl,Jm,Jn,Jo,Jp,Jq,Jr,Js,Jt,Ju,Jv,Jw,Jx,Jy,Jz,JA,JB,JC,JD,JE,JF,JG,JH,JI,JJ,JK,JL,JM,JN,JO,JP,stillI,IOp.kind,JQ,JR,JS,JT,JU,JV,JW,JX,JY,JZ,Y0,Y1,Y2,Y3,Y4,Y5,Y6,Y7,Y8,Y9,Ya,Yb,Yc,Yd,Ye,Yf,Yg,Yh,Yi,Yj,Yk,Yl,Ym,Yn,ial,Yo,Yp,Yq,Yr,Ys,Yt,Yu,Yv,ires,iresL,ires1,Yw,Yx,Yy,Yz,YA,YB,bin2,YC,YD,YE,YF,YG,YH,YI,YJ,YK,YL,YM,YN,YO,YP,YQ,YR,un1,shOk,eqL,eq1,fillL,putAt,IHeap.load1,IHeap.loadL,IHeap.storeL,YS,YT,YU,YV,YW,YX,YY,YZ,B0,B1,B2,B3,B4,B5,B6,B7,B8,B9,Ba,Bb,Bc,Bd,Be,Bf,Bg,Bh,Bi,Bj,Bk,Bl,Bm]
    refine call_of (New_st c hc (S := fun b => b < H.next) (fun _ h => h) fun H1 k1 n1 s1 => ?_)
    obtain ⟨H2, hH2⟩ : ∃ X : IHeap, X = (H1.alloc (.cells [.int .i64 0, .int .i64 0, .int .i64 0, .slice none 0 0] false)).set H1.next (.cells [.int .i64 0, .int .i64 0, .int .i64 0, .slice none 0 0] false) := ⟨_, rfl⟩
    have k2 : H1.le H2 := by rw [hH2]; exact (H1.le_alloc _).set (Nat.le_refl _) _
    have g2 : H2.get H1.next = some (.cells [.int .i64 0, .int .i64 0, .int .i64 0, .slice none 0 0] false) := by rw [hH2, YT, if_pos rfl]
    have n2 : H2.next = H1.next + 1 := by rw [hH2]; rfl
    simp -implicitDefEqProofs [J0,J1,J2,J3,J4,J5,J6,J7,J8,J9,Ja,Jb,Jc,Jd,Je,Jf,Jg,Jh,Ji,Jj,Jk,Jl,Jm,Jn,Jo,Jp,Jq,Jr,Js,Jt,Ju,Jv,Jw,Jx,Jy,Jz,JA,JB,JC,JD,JE,JF,JG,JH,JI,JJ,JK,JL,JM,JN,JO,JP,stillI,IOp.kind,JQ,JR,JS,JT,JU,JV,JW,JX,JY,JZ,Y0,Y1,Y2,Y3,Y4,Y5,Y6,Y7,Y8,Y9,Ya,Yb,Yc,Yd,Ye,Yf,Yg,Yh,Yi,Yj,Yk,Yl,Ym,Yn,ial,Yo,Yp,Yq,Yr,Ys,Yt,Yu,Yv,ires,iresL,ires1,Yw,Yx,Yy,Yz,YA,YB,bin2,YC,YD,YE,YF,YG,YH,YI,YJ,YK,YL,YM,YN,YO,YP,YQ,YR,un1,shOk,eqL,eq1,fillL,putAt,IHeap.load1,IHeap.loadL,IHeap.storeL,YS,YT,YU,YV,YW,YX,YY,YZ,B0,B1,B2,B3,B4,B5,B6,B7,B8,B9,Ba,Bb,Bc,Bd,Be,Bf,Bg,Bh,Bi,Bj,Bk,Bl,Bm, ← hH2]
    obtain ⟨x, hx⟩ : ∃ x, x = H1.next := ⟨_, rfl⟩
    rw [← hx] at g2 ⊢
    refine loop_nat c.mono (fun k T H' => ∃ i : Nat, i ≤ l.length ∧ k = l.length - i ∧ T 0 = .slice a l.length cap ∧ T 3 = .pointer (some ⟨H.next, 0, none⟩) ∧ T 4 = .pointer (some ⟨x, 0, none⟩) ∧ T 5 = .int .i64 i ∧ H.le H' ∧
      PlA H.next x H.next i H') l.length ?_ ?_
    · refine ⟨0, by omega, rfl, ?_⟩
      simp -implicitDefEqProofs [J0,J1,J2,J3,J4,J5,J6,J7,J8,J9,Ja,Jb,Jc,Jd,Je,Jf,Jg,Jh,Ji,Jj,Jk,Jl,Jm,Jn,Jo,Jp,Jq,Jr,Js,Jt,Ju,Jv,Jw,Jx,Jy,Jz,JA,JB,JC,JD,JE,JF,JG,JH,JI,JJ,JK,JL,JM,JN,JO,JP,stillI,IOp.kind,JQ,JR,JS,JT,JU,JV,JW,JX,JY,JZ,Y0,Y1,Y2,Y3,Y4,Y5,Y6,Y7,Y8,Y9,Ya,Yb,Yc,Yd,Ye,Yf,Yg,Yh,Yi,Yj,Yk,Yl,Ym,Yn,ial,Yo,Yp,Yq,Yr,Ys,Yt,Yu,Yv,ires,iresL,ires1,Yw,Yx,Yy,Yz,YA,YB,bin2,YC,YD,YE,YF,YG,YH,YI,YJ,YK,YL,YM,YN,YO,YP,YQ,YR,un1,shOk,eqL,eq1,fillL,putAt,IHeap.load1,IHeap.loadL,IHeap.storeL,YS,YT,YU,YV,YW,YX,YY,YZ,B0,B1,B2,B3,B4,B5,B6,B7,B8,B9,Ba,Bb,Bc,Bd,Be,Bf,Bg,Bh,Bi,Bj,Bk,Bl,Bm]
      have st := (s1.grow k2).sub (S' := fun b => b < H.next ∨ b = x ∨ inB (.slice none 0 0) b) (fun b hb => by
        rcases hb with hb | hb | ⟨_, _, _, hb, _⟩
        · exact .inl hb
        · exact .inr (by omega)
        · simp at hb)
      exact ⟨k1.trans k2, ⟨0, 0, 0, []⟩, _, Nat.le_refl _, ⟨Int.le_refl _, by simp⟩, st, g2, SlW.nil _ _, fun ⟨_, _, _, h, _⟩ => by simp at h⟩
    · rintro k T H' ⟨i, hi, rfl, t0, t3, t4, t5, hle, A, u', hAl, hG, hst, gx, su, hux⟩
      by_cases hil : i < l.length
      · have hil' : (i : Int) < (l.length : Int) := by omega
        have hd : l[i]? = some l[i] := List.getElem?_eq_getElem hil
        obtain ⟨d, hde⟩ : ∃ d, d = l[i] := ⟨_, rfl⟩
        rw [← hde] at hd
        obtain ⟨b, o, cp, cs, ro, ea, hb, hget, hrl, hrow, hbd⟩ := hu.at (i := i) (r := rowD d) (by simp [hd])
        rw [List.length_map] at ea
        simp only [Value.slice.injEq] at ea
        obtain ⟨rfl, -, rfl⟩ := ea
        have hw : IntKind.i64.wrap ((i : Int) + 1) = (i : Int) + 1 := wrap64 (by omega) (by omega)
        have nH := hle.next
        have hget' := (hle.get b hb).trans hget
        have hxl : x < H'.next := hst.1 x (.inr (.inl rfl))
        have r0 := row_get hrow 0 (by omega)
        have r4 : (cs.drop (o + i * 5 + 1)).take 4 = rowV d.v := by
          have := congrArg (fun z => z.drop 1) hrow
          simp only [List.drop_take, List.drop_drop] at this
          exact this
        simp only [rowD, List.getElem?_cons_zero, Nat.add_zero] at r0
        simp only [rowV] at r4
        obtain ⟨HV, hHV⟩ : ∃ X : IHeap, X = (H'.alloc (.cells [.int .i64 0, .int .i64 0, .int .i64 0, .string ⟨#[]⟩] false)).set H'.next (.cells [.int .i64 d.v.slot, .int .i64 d.v.a, .int .i64 d.v.n, .string d.v.val] false) := ⟨_, rfl⟩
        have kV : H'.le HV := by rw [hHV]; exact (H'.le_alloc _).set (Nat.le_refl _) _
        have nV : HV.next = H'.next + 1 := by rw [hHV]; rfl
        have gV : HV.get H'.next = some (.cells [.int .i64 d.v.slot, .int .i64 d.v.a, .int .i64 d.v.n, .string d.v.val] false) := by rw [hHV, YT, if_pos rfl]
        have hgetV := (kV.get b (by omega)).trans hget'
        have gxV := (kV.get x hxl).trans gx
        have hbd4 : o + i * 5 + 1 + 4 ≤ cs.length := by omega
        simp -implicitDefEqProofs [J0,J1,J2,J3,J4,J5,J6,J7,J8,J9,Ja,Jb,Jc,Jd,Je,Jf,Jg,Jh,Ji,Jj,Jk,Jl,Jm,Jn,Jo,Jp,Jq,Jr,Js,Jt,Ju,Jv,Jw,Jx,Jy,Jz,JA,JB,JC,JD,JE,JF,JG,JH,JI,JJ,JK,JL,JM,JN,JO,JP,stillI,IOp.kind,JQ,JR,JS,JT,JU,JV,JW,JX,JY,JZ,Y0,Y1,Y2,Y3,Y4,Y5,Y6,Y7,Y8,Y9,Ya,Yb,Yc,Yd,Ye,Yf,Yg,Yh,Yi,Yj,Yk,Yl,Ym,Yn,ial,Yo,Yp,Yq,Yr,Ys,Yt,Yu,Yv,ires,iresL,ires1,Yw,Yx,Yy,Yz,YA,YB,bin2,YC,YD,YE,YF,YG,YH,YI,YJ,YK,YL,YM,YN,YO,YP,YQ,YR,un1,shOk,eqL,eq1,fillL,putAt,IHeap.load1,IHeap.loadL,IHeap.storeL,YS,YT,YU,YV,YW,YX,YY,YZ,B0,B1,B2,B3,B4,B5,B6,B7,B8,B9,Ba,Bb,Bc,Bd,Be,Bf,Bg,Bh,Bi,Bj,Bk,Bl,Bm, t0, t3, t4, t5, hil, hil', hget', r4, hbd4, ← hHV, hgetV, r0]
        by_cases h0 : d.k = 0
        · simp -implicitDefEqProofs [J0,J1,J2,J3,J4,J5,J6,J7,J8,J9,Ja,Jb,Jc,Jd,Je,Jf,Jg,Jh,Ji,Jj,Jk,Jl,Jm,Jn,Jo,Jp,Jq,Jr,Js,Jt,Ju,Jv,Jw,Jx,Jy,Jz,JA,JB,JC,JD,JE,JF,JG,JH,JI,JJ,JK,JL,JM,JN,JO,JP,stillI,IOp.kind,JQ,JR,JS,JT,JU,JV,JW,JX,JY,JZ,Y0,Y1,Y2,Y3,Y4,Y5,Y6,Y7,Y8,Y9,Ya,Yb,Yc,Yd,Ye,Yf,Yg,Yh,Yi,Yj,Yk,Yl,Ym,Yn,ial,Yo,Yp,Yq,Yr,Ys,Yt,Yu,Yv,ires,iresL,ires1,Yw,Yx,Yy,Yz,YA,YB,bin2,YC,YD,YE,YF,YG,YH,YI,YJ,YK,YL,YM,YN,YO,YP,YQ,YR,un1,shOk,eqL,eq1,fillL,putAt,IHeap.load1,IHeap.loadL,IHeap.storeL,YS,YT,YU,YV,YW,YX,YY,YZ,B0,B1,B2,B3,B4,B5,B6,B7,B8,B9,Ba,Bb,Bc,Bd,Be,Bf,Bg,Bh,Bi,Bj,Bk,Bl,Bm, t0, t3, t4, t5, h0, gxV, gV]
          refine call_of (RPromise_ok17 c hR hBC (A := A) (u := u') (a := d.v.a) (n := d.v.n) (s := d.v.slot) (su.le kV) (by omega) fun w1 G1 q1 sw1 bw1 => ?_)
          have m1 := q1.next
          have gx1 := (q1.get x (by omega)).trans gxV
          have gv1 := (q1.get H'.next (by omega)).trans gV
          have hlv := promise_votes_len A d.v.a d.v.n d.v.slot
          have hdA : deedA A d = (A.promise d.v.a d.v.n d.v.slot).1 := by rw [deedA, if_pos h0]
          have hPr := fun {X : IHeap} {S : Nat → Prop} (s : StA S X H.next A) (K2 : Value → IHeap → Prop) hk => Promise_st c hc hB (a := d.v.a) (n := d.v.n) (s := d.v.slot) (K := K2) s (by omega) hk
          rw [← hdA] at hPr ⊢
          obtain ⟨A', hA'⟩ : ∃ A', A' = deedA A d := ⟨_, rfl⟩
          obtain ⟨vs, hvs⟩ : ∃ vs, vs = (A.promise d.v.a d.v.n d.v.slot).2.1 := ⟨_, rfl⟩
          obtain ⟨ok, hok⟩ : ∃ ok, ok = (A.promise d.v.a d.v.n d.v.slot).2.2 := ⟨_, rfl⟩
          rw [← hA', ← hok]
          rw [← hA', ← hvs, ← hok] at hPr
          rw [← hvs] at sw1 hlv
          have hx1 : ¬ x = G1.next := by omega
          have hu1 : one1 u' = true := by obtain ⟨_, _, e⟩ := su.len; rw [e]; rfl
          have hxv : ¬ H'.next = x := by omega
          have hvn : ¬ H'.next = G1.next := by omega
          obtain ⟨GA, hGA⟩ : ∃ X : IHeap, X = (G1.alloc (.cells [.int .i64 0, .int .i64 0, .int .i64 0, .slice none 0 0] false)).set G1.next (.cells [.int .i64 A'.pa, .int .i64 A'.pn, .int .i64 A'.base, u'] false) := ⟨_, rfl⟩
          have q1A : G1.le GA := by rw [hGA]; exact (G1.le_alloc _).set (Nat.le_refl _) _
          have kGA : H'.le GA := (kV.trans q1).trans q1A
          have mA : GA.next = G1.next + 1 := by rw [hGA]; rfl
          have gxA := (q1A.get x (by omega)).trans gx1
          have g8 : GA.get G1.next = some (.cells [.int .i64 A'.pa, .int .i64 A'.pn, .int .i64 A'.base, u'] false) := by rw [hGA, YT, if_pos rfl]
          obtain ⟨G2, hG2⟩ : ∃ X : IHeap, X = GA.set x (.cells [.int .i64 A'.pa, .int .i64 A'.pn, .int .i64 A'.base, u'] false) := ⟨_, rfl⟩
          have m2 : G2.next = G1.next + 1 := by rw [hG2]; exact mA
          have gx2 : G2.get x = some (.cells [.int .i64 A'.pa, .int .i64 A'.pn, .int .i64 A'.base, u'] false) := by rw [hG2, YT, if_pos rfl]
          have gv2 : G2.get H'.next = some (.cells [.int .i64 d.v.slot, .int .i64 d.v.a, .int .i64 d.v.n, .string d.v.val] false) := by
            rw [hG2, YT, if_neg hxv]; exact (q1A.get H'.next (by omega)).trans gv1
          have st2 := (hst.grow kGA).set (i := x) (.inl (.inr (.inl rfl))) (.cells [.int .i64 A'.pa, .int .i64 A'.pn, .int .i64 A'.base, u'] false)
          rw [← hG2] at st2
          have k02 : IHeap.keep H.next H G2 := by
            rw [hG2]
            exact ((hle.keep (Nat.le_refl _)).trans (kGA.keep nH)).set (by omega) _
          have su2 : SlW G2 4 u' (A.L.map rowV) := by
            rw [hG2]
            exact (su.le kGA).kept (Nat.le_refl _) fun y hy => by rw [YT, if_neg (fun e : y = x => hux (e ▸ hy))]
          have sw2 : SlW G2 4 w1 (vs.map rowV) := by
            rw [hG2]
            exact (sw1.le q1A).kept (Nat.le_refl _) fun y hy => by rw [YT, if_neg (fun e : y = x => by have := bw1.in hy; omega)]
          simp -implicitDefEqProofs [J0,J1,J2,J3,J4,J5,J6,J7,J8,J9,Ja,Jb,Jc,Jd,Je,Jf,Jg,Jh,Ji,Jj,Jk,Jl,Jm,Jn,Jo,Jp,Jq,Jr,Js,Jt,Ju,Jv,Jw,Jx,Jy,Jz,JA,JB,JC,JD,JE,JF,JG,JH,JI,JJ,JK,JL,JM,JN,JO,JP,stillI,IOp.kind,JQ,JR,JS,JT,JU,JV,JW,JX,JY,JZ,Y0,Y1,Y2,Y3,Y4,Y5,Y6,Y7,Y8,Y9,Ya,Yb,Yc,Yd,Ye,Yf,Yg,Yh,Yi,Yj,Yk,Yl,Ym,Yn,ial,Yo,Yp,Yq,Yr,Ys,Yt,Yu,Yv,ires,iresL,ires1,Yw,Yx,Yy,Yz,YA,YB,bin2,YC,YD,YE,YF,YG,YH,YI,YJ,YK,YL,YM,YN,YO,YP,YQ,YR,un1,shOk,eqL,eq1,fillL,putAt,IHeap.load1,IHeap.loadL,IHeap.storeL,YS,YT,YU,YV,YW,YX,YY,YZ,B0,B1,B2,B3,B4,B5,B6,B7,B8,B9,Ba,Bb,Bc,Bd,Be,Bf,Bg,Bh,Bi,Bj,Bk,Bl,Bm, t0, t3, t4, t5, aV, gxA, g8, hx1, hu1, ← hGA, ← hG2, gv2]
          refine call_of (hPr st2 _ fun w3 H3 k3 st3 sw3 fw3 => ?_)
          have m3 := k3.1
          have gx3 := (k3.2 x (.inl (.inr (.inl rfl)))).trans gx2
          have gv3 := (k3.2 H'.next (.inr ⟨Nat.le_refl _, by omega⟩)).trans gv2
          have k03 : IHeap.keep H.next H H3 := k02.trans ⟨m3, fun b hb => k3.2 b (.inl (.inl hb))⟩
          have su3 := su2.kept m3 fun b hb => k3.2 b (.inl (.inr (.inr hb)))
          have sw4 := sw2.kept m3 fun b hb => k3.2 b (.inr (by have := bw1.in hb; omega))
          have st3 := st3.sub (S' := fun b => b < H.next ∨ b = x ∨ inB u' b) fun b hb => .inl (.inl hb)
          simp -implicitDefEqProofs [J0,J1,J2,J3,J4,J5,J6,J7,J8,J9,Ja,Jb,Jc,Jd,Je,Jf,Jg,Jh,Ji,Jj,Jk,Jl,Jm,Jn,Jo,Jp,Jq,Jr,Js,Jt,Ju,Jv,Jw,Jx,Jy,Jz,JA,JB,JC,JD,JE,JF,JG,JH,JI,JJ,JK,JL,JM,JN,JO,JP,stillI,IOp.kind,JQ,JR,JS,JT,JU,JV,JW,JX,JY,JZ,Y0,Y1,Y2,Y3,Y4,Y5,Y6,Y7,Y8,Y9,Ya,Yb,Yc,Yd,Ye,Yf,Yg,Yh,Yi,Yj,Yk,Yl,Ym,Yn,ial,Yo,Yp,Yq,Yr,Ys,Yt,Yu,Yv,ires,iresL,ires1,Yw,Yx,Yy,Yz,YA,YB,bin2,YC,YD,YE,YF,YG,YH,YI,YJ,YK,YL,YM,YN,YO,YP,YQ,YR,un1,shOk,eqL,eq1,fillL,putAt,IHeap.load1,IHeap.loadL,IHeap.storeL,YS,YT,YU,YV,YW,YX,YY,YZ,B0,B1,B2,B3,B4,B5,B6,B7,B8,B9,Ba,Bb,Bc,Bd,Be,Bf,Bg,Bh,Bi,Bj,Bk,Bl,Bm]
          refine call_of (SameV_ok c hR sw3.1 sw4.1 (by omega) ?_)
          have hux3 := hux
          simp -implicitDefEqProofs [J0,J1,J2,J3,J4,J5,J6,J7,J8,J9,Ja,Jb,Jc,Jd,Je,Jf,Jg,Jh,Ji,Jj,Jk,Jl,Jm,Jn,Jo,Jp,Jq,Jr,Js,Jt,Ju,Jv,Jw,Jx,Jy,Jz,JA,JB,JC,JD,JE,JF,JG,JH,JI,JJ,JK,JL,JM,JN,JO,JP,stillI,IOp.kind,JQ,JR,JS,JT,JU,JV,JW,JX,JY,JZ,Y0,Y1,Y2,Y3,Y4,Y5,Y6,Y7,Y8,Y9,Ya,Yb,Yc,Yd,Ye,Yf,Yg,Yh,Yi,Yj,Yk,Yl,Ym,Yn,ial,Yo,Yp,Yq,Yr,Ys,Yt,Yu,Yv,ires,iresL,ires1,Yw,Yx,Yy,Yz,YA,YB,bin2,YC,YD,YE,YF,YG,YH,YI,YJ,YK,YL,YM,YN,YO,YP,YQ,YR,un1,shOk,eqL,eq1,fillL,putAt,IHeap.load1,IHeap.loadL,IHeap.storeL,YS,YT,YU,YV,YW,YX,YY,YZ,B0,B1,B2,B3,B4,B5,B6,B7,B8,B9,Ba,Bb,Bc,Bd,Be,Bf,Bg,Bh,Bi,Bj,Bk,Bl,Bm, t0, t3, t4, t5, gx3]
          have eL : A'.L = A.L := by rw [hA', hdA]; exact (promise_L ..).1
          rw [← eL] at su3
          have hA'l : A'.L.length ≤ i + 1 := by rw [hA']; exact Nat.le_trans (deedA_len A d) (by omega)
          have hG' : GoodA A' := by rw [hA']; exact deedA_good hG d
          refine dcall_of c.mono (Promised_st c hc st3 fun H4 k4 => ?_)
          have n4 := k4.next
          have gx4 := (k4.get x (by omega)).trans gx3
          have gv4 := (k4.get H'.next (by omega)).trans gv3
          simp -implicitDefEqProofs [J0,J1,J2,J3,J4,J5,J6,J7,J8,J9,Ja,Jb,Jc,Jd,Je,Jf,Jg,Jh,Ji,Jj,Jk,Jl,Jm,Jn,Jo,Jp,Jq,Jr,Js,Jt,Ju,Jv,Jw,Jx,Jy,Jz,JA,JB,JC,JD,JE,JF,JG,JH,JI,JJ,JK,JL,JM,JN,JO,JP,stillI,IOp.kind,JQ,JR,JS,JT,JU,JV,JW,JX,JY,JZ,Y0,Y1,Y2,Y3,Y4,Y5,Y6,Y7,Y8,Y9,Ya,Yb,Yc,Yd,Ye,Yf,Yg,Yh,Yi,Yj,Yk,Yl,Ym,Yn,ial,Yo,Yp,Yq,Yr,Ys,Yt,Yu,Yv,ires,iresL,ires1,Yw,Yx,Yy,Yz,YA,YB,bin2,YC,YD,YE,YF,YG,YH,YI,YJ,YK,YL,YM,YN,YO,YP,YQ,YR,un1,shOk,eqL,eq1,fillL,putAt,IHeap.load1,IHeap.loadL,IHeap.storeL,YS,YT,YU,YV,YW,YX,YY,YZ,B0,B1,B2,B3,B4,B5,B6,B7,B8,B9,Ba,Bb,Bc,Bd,Be,Bf,Bg,Bh,Bi,Bj,Bk,Bl,Bm, vB, gx4, stillI, t0, t3, t4, t5]
          refine dcall_of c.mono (Base_st c hc (st3.le k4) ?_)
          simp -implicitDefEqProofs [J0,J1,J2,J3,J4,J5,J6,J7,J8,J9,Ja,Jb,Jc,Jd,Je,Jf,Jg,Jh,Ji,Jj,Jk,Jl,Jm,Jn,Jo,Jp,Jq,Jr,Js,Jt,Ju,Jv,Jw,Jx,Jy,Jz,JA,JB,JC,JD,JE,JF,JG,JH,JI,JJ,JK,JL,JM,JN,JO,JP,stillI,IOp.kind,JQ,JR,JS,JT,JU,JV,JW,JX,JY,JZ,Y0,Y1,Y2,Y3,Y4,Y5,Y6,Y7,Y8,Y9,Ya,Yb,Yc,Yd,Ye,Yf,Yg,Yh,Yi,Yj,Yk,Yl,Ym,Yn,ial,Yo,Yp,Yq,Yr,Ys,Yt,Yu,Yv,ires,iresL,ires1,Yw,Yx,Yy,Yz,YA,YB,bin2,YC,YD,YE,YF,YG,YH,YI,YJ,YK,YL,YM,YN,YO,YP,YQ,YR,un1,shOk,eqL,eq1,fillL,putAt,IHeap.load1,IHeap.loadL,IHeap.storeL,YS,YT,YU,YV,YW,YX,YY,YZ,B0,B1,B2,B3,B4,B5,B6,B7,B8,B9,Ba,Bb,Bc,Bd,Be,Bf,Bg,Bh,Bi,Bj,Bk,Bl,Bm, gx4, gv4, stillI, t0, t3, t4, t5]
          refine dcall_of c.mono (Votes_st c hc (s := d.v.slot) (st3.le k4) (by omega) fun w5 H5 k5 s5 f5 => ?_)
          have n5 := k5.next
          have gx5 := (k5.get x (by omega)).trans gx4
          have gv5 := (k5.get H'.next (by omega)).trans gv4
          have su5 := (su3.le k4).le k5
          simp -implicitDefEqProofs [J0,J1,J2,J3,J4,J5,J6,J7,J8,J9,Ja,Jb,Jc,Jd,Je,Jf,Jg,Jh,Ji,Jj,Jk,Jl,Jm,Jn,Jo,Jp,Jq,Jr,Js,Jt,Ju,Jv,Jw,Jx,Jy,Jz,JA,JB,JC,JD,JE,JF,JG,JH,JI,JJ,JK,JL,JM,JN,JO,JP,stillI,IOp.kind,JQ,JR,JS,JT,JU,JV,JW,JX,JY,JZ,Y0,Y1,Y2,Y3,Y4,Y5,Y6,Y7,Y8,Y9,Ya,Yb,Yc,Yd,Ye,Yf,Yg,Yh,Yi,Yj,Yk,Yl,Ym,Yn,ial,Yo,Yp,Yq,Yr,Ys,Yt,Yu,Yv,ires,iresL,ires1,Yw,Yx,Yy,Yz,YA,YB,bin2,YC,YD,YE,YF,YG,YH,YI,YJ,YK,YL,YM,YN,YO,YP,YQ,YR,un1,shOk,eqL,eq1,fillL,putAt,IHeap.load1,IHeap.loadL,IHeap.storeL,YS,YT,YU,YV,YW,YX,YY,YZ,B0,B1,B2,B3,B4,B5,B6,B7,B8,B9,Ba,Bb,Bc,Bd,Be,Bf,Bg,Bh,Bi,Bj,Bk,Bl,Bm, gx5, gv5, stillI, t0, t3, t4, t5]
          refine dcall_of c.mono (RVotes_ok17 c hR (L := A'.L) (pa := A'.pa) (pn := A'.pn) (base := A'.base) (s := d.v.slot) su5.1 (by omega) fun w6 H6 k6 gr6 => ?_)
          have hfl := fromV_len A'.L d.v.slot
          have k36 := (k4.trans k5).trans k6
          have n6 := k6.next
          simp -implicitDefEqProofs [J0,J1,J2,J3,J4,J5,J6,J7,J8,J9,Ja,Jb,Jc,Jd,Je,Jf,Jg,Jh,Ji,Jj,Jk,Jl,Jm,Jn,Jo,Jp,Jq,Jr,Js,Jt,Ju,Jv,Jw,Jx,Jy,Jz,JA,JB,JC,JD,JE,JF,JG,JH,JI,JJ,JK,JL,JM,JN,JO,JP,stillI,IOp.kind,JQ,JR,JS,JT,JU,JV,JW,JX,JY,JZ,Y0,Y1,Y2,Y3,Y4,Y5,Y6,Y7,Y8,Y9,Ya,Yb,Yc,Yd,Ye,Yf,Yg,Yh,Yi,Yj,Yk,Yl,Ym,Yn,ial,Yo,Yp,Yq,Yr,Ys,Yt,Yu,Yv,ires,iresL,ires1,Yw,Yx,Yy,Yz,YA,YB,bin2,YC,YD,YE,YF,YG,YH,YI,YJ,YK,YL,YM,YN,YO,YP,YQ,YR,un1,shOk,eqL,eq1,fillL,putAt,IHeap.load1,IHeap.loadL,IHeap.storeL,YS,YT,YU,YV,YW,YX,YY,YZ,B0,B1,B2,B3,B4,B5,B6,B7,B8,B9,Ba,Bb,Bc,Bd,Be,Bf,Bg,Bh,Bi,Bj,Bk,Bl,Bm, t0, t3, t4, t5]
          refine dcall_of c.mono (SameV_ok c hR (s5.le k6).1 gr6.slr (by omega) ?_)
          simp -implicitDefEqProofs [J0,J1,J2,J3,J4,J5,J6,J7,J8,J9,Ja,Jb,Jc,Jd,Je,Jf,Jg,Jh,Ji,Jj,Jk,Jl,Jm,Jn,Jo,Jp,Jq,Jr,Js,Jt,Ju,Jv,Jw,Jx,Jy,Jz,JA,JB,JC,JD,JE,JF,JG,JH,JI,JJ,JK,JL,JM,JN,JO,JP,stillI,IOp.kind,JQ,JR,JS,JT,JU,JV,JW,JX,JY,JZ,Y0,Y1,Y2,Y3,Y4,Y5,Y6,Y7,Y8,Y9,Ya,Yb,Yc,Yd,Ye,Yf,Yg,Yh,Yi,Yj,Yk,Yl,Ym,Yn,ial,Yo,Yp,Yq,Yr,Ys,Yt,Yu,Yv,ires,iresL,ires1,Yw,Yx,Yy,Yz,YA,YB,bin2,YC,YD,YE,YF,YG,YH,YI,YJ,YK,YL,YM,YN,YO,YP,YQ,YR,un1,shOk,eqL,eq1,fillL,putAt,IHeap.load1,IHeap.loadL,IHeap.storeL,YS,YT,YU,YV,YW,YX,YY,YZ,B0,B1,B2,B3,B4,B5,B6,B7,B8,B9,Ba,Bb,Bc,Bd,Be,Bf,Bg,Bh,Bi,Bj,Bk,Bl,Bm, hw, t0, t3, t4, t5]
          refine ⟨l.length - (i + 1), by omega, i + 1, by omega, rfl, by simp, ?_, A', u', hA'l, hG', (st3.le k36), (k36.get x (by omega)).trans gx3, su3.le k36, hux3⟩
          exact (k03.trans (k36.keep (by omega))).le (Nat.le_refl _)
        · by_cases h1 : d.k = 1
          · simp -implicitDefEqProofs [J0,J1,J2,J3,J4,J5,J6,J7,J8,J9,Ja,Jb,Jc,Jd,Je,Jf,Jg,Jh,Ji,Jj,Jk,Jl,Jm,Jn,Jo,Jp,Jq,Jr,Js,Jt,Ju,Jv,Jw,Jx,Jy,Jz,JA,JB,JC,JD,JE,JF,JG,JH,JI,JJ,JK,JL,JM,JN,JO,JP,stillI,IOp.kind,JQ,JR,JS,JT,JU,JV,JW,JX,JY,JZ,Y0,Y1,Y2,Y3,Y4,Y5,Y6,Y7,Y8,Y9,Ya,Yb,Yc,Yd,Ye,Yf,Yg,Yh,Yi,Yj,Yk,Yl,Ym,Yn,ial,Yo,Yp,Yq,Yr,Ys,Yt,Yu,Yv,ires,iresL,ires1,Yw,Yx,Yy,Yz,YA,YB,bin2,YC,YD,YE,YF,YG,YH,YI,YJ,YK,YL,YM,YN,YO,YP,YQ,YR,un1,shOk,eqL,eq1,fillL,putAt,IHeap.load1,IHeap.loadL,IHeap.storeL,YS,YT,YU,YV,YW,YX,YY,YZ,B0,B1,B2,B3,B4,B5,B6,B7,B8,B9,Ba,Bb,Bc,Bd,Be,Bf,Bg,Bh,Bi,Bj,Bk,Bl,Bm, t0, t3, t4, t5, h0, h1, gxV, gV]
            refine call_of (RAccept_ok17 c hR hBC (A := A) (u := u') (v := d.v) hst.sorted (su.le kV) (by omega) fun u2 G1 q1 su1 bu1 => ?_)
            have m1 := q1.next
            have gx1 := (q1.get x (by omega)).trans gxV
            have gv1 := (q1.get H'.next (by omega)).trans gV
            have hdA : deedA A d = (A.accept d.v).1 := by rw [deedA, if_neg h0, if_pos h1]
            have hPr := fun {X : IHeap} {S : Nat → Prop} (s : StA S X H.next A) (K2 : Value → IHeap → Prop) hk => Accept_st c hc hB hI (v := d.v) (K := K2) s (by omega) hk
            rw [← hdA] at hPr su1 ⊢
            obtain ⟨A', hA'⟩ : ∃ A', A' = deedA A d := ⟨_, rfl⟩
            obtain ⟨ok, hok⟩ : ∃ ok, ok = (A.accept d.v).2 := ⟨_, rfl⟩
            rw [← hA', ← hok]
            rw [← hA', ← hok] at hPr
            rw [← hA'] at su1
            have bu2 : ∀ {y : Nat}, inB u2 y → inB u' y ∨ (HV.next ≤ y ∧ y < G1.next) := fun hy => bu1.elim (fun e => .inl (e ▸ hy)) fun h => .inr (h.in hy)
            have hx1 : ¬ x = G1.next := by omega
            have hu1 : one1 u2 = true := by obtain ⟨_, _, e⟩ := su1.len; rw [e]; rfl
            have hxv : ¬ H'.next = x := by omega
            obtain ⟨GA, hGA⟩ : ∃ X : IHeap, X = (G1.alloc (.cells [.int .i64 0, .int .i64 0, .int .i64 0, .slice none 0 0] false)).set G1.next (.cells [.int .i64 A'.pa, .int .i64 A'.pn, .int .i64 A'.base, u2] false) := ⟨_, rfl⟩
            have q1A : G1.le GA := by rw [hGA]; exact (G1.le_alloc _).set (Nat.le_refl _) _
            have kGA : H'.le GA := (kV.trans q1).trans q1A
            have mA : GA.next = G1.next + 1 := by rw [hGA]; rfl
            have gxA := (q1A.get x (by omega)).trans gx1
            have g8 : GA.get G1.next = some (.cells [.int .i64 A'.pa, .int .i64 A'.pn, .int .i64 A'.base, u2] false) := by rw [hGA, YT, if_pos rfl]
            obtain ⟨G2, hG2⟩ : ∃ X : IHeap, X = GA.set x (.cells [.int .i64 A'.pa, .int .i64 A'.pn, .int .i64 A'.base, u2] false) := ⟨_, rfl⟩
            have m2 : G2.next = G1.next + 1 := by rw [hG2]; exact mA
            have gx2 : G2.get x = some (.cells [.int .i64 A'.pa, .int .i64 A'.pn, .int .i64 A'.base, u2] false) := by rw [hG2, YT, if_pos rfl]
            have gv2 : G2.get H'.next = some (.cells [.int .i64 d.v.slot, .int .i64 d.v.a, .int .i64 d.v.n, .string d.v.val] false) := by
              rw [hG2, YT, if_neg hxv]; exact (q1A.get H'.next (by omega)).trans gv1
            have st2 := (hst.grow kGA).set (i := x) (.inl (.inr (.inl rfl))) (.cells [.int .i64 A'.pa, .int .i64 A'.pn, .int .i64 A'.base, u2] false)
            rw [← hG2] at st2
            have k02 : IHeap.keep H.next H G2 := by
              rw [hG2]
              exact ((hle.keep (Nat.le_refl _)).trans (kGA.keep nH)).set (by omega) _
            have hux3 : ¬ inB u2 x := fun h => (bu2 h).elim hux fun h => by omega
            have su2 : SlW G2 4 u2 (A'.L.map rowV) := by
              rw [hG2]
              exact (su1.le q1A).kept (Nat.le_refl _) fun y hy => by rw [YT, if_neg (fun e : y = x => hux3 (e ▸ hy))]
            simp -implicitDefEqProofs [J0,J1,J2,J3,J4,J5,J6,J7,J8,J9,Ja,Jb,Jc,Jd,Je,Jf,Jg,Jh,Ji,Jj,Jk,Jl,Jm,Jn,Jo,Jp,Jq,Jr,Js,Jt,Ju,Jv,Jw,Jx,Jy,Jz,JA,JB,JC,JD,JE,JF,JG,JH,JI,JJ,JK,JL,JM,JN,JO,JP,stillI,IOp.kind,JQ,JR,JS,JT,JU,JV,JW,JX,JY,JZ,Y0,Y1,Y2,Y3,Y4,Y5,Y6,Y7,Y8,Y9,Ya,Yb,Yc,Yd,Ye,Yf,Yg,Yh,Yi,Yj,Yk,Yl,Ym,Yn,ial,Yo,Yp,Yq,Yr,Ys,Yt,Yu,Yv,ires,iresL,ires1,Yw,Yx,Yy,Yz,YA,YB,bin2,YC,YD,YE,YF,YG,YH,YI,YJ,YK,YL,YM,YN,YO,YP,YQ,YR,un1,shOk,eqL,eq1,fillL,putAt,IHeap.load1,IHeap.loadL,IHeap.storeL,YS,YT,YU,YV,YW,YX,YY,YZ,B0,B1,B2,B3,B4,B5,B6,B7,B8,B9,Ba,Bb,Bc,Bd,Be,Bf,Bg,Bh,Bi,Bj,Bk,Bl,Bm, t0, t3, t4, t5, aV, gxA, g8, hx1, hu1, ← hGA, ← hG2, gv2]
            refine call_of (hPr st2 _ fun H3 k3 st3 => ?_)
            have m3 := k3.1
            have gx3 := (k3.2 x (.inl (.inr (.inl rfl)))).trans gx2
            have gv3 := (k3.2 H'.next (.inr ⟨Nat.le_refl _, by omega⟩)).trans gv2
            have k03 : IHeap.keep H.next H H3 := k02.trans ⟨m3, fun b hb => k3.2 b (.inl (.inl hb))⟩
            have bu3 : ∀ y, inB u2 y → (y < H.next ∨ y = x ∨ inB u' y) ∨ (H'.next ≤ y ∧ y < GA.next) := fun y hy => (bu2 hy).elim (fun h => .inl (.inr (.inr h))) fun h => .inr (by omega)
            have su3 := su2.kept m3 fun b hb => k3.2 b (bu3 b hb)
            have st3 := st3.sub (S' := fun b => b < H.next ∨ b = x ∨ inB u2 b) fun b hb => by
              rcases hb with h | h | h
              · exact .inl (.inl h)
              · exact .inl (.inr (.inl h))
              · exact bu3 b h
            simp -implicitDefEqProofs [J0,J1,J2,J3,J4,J5,J6,J7,J8,J9,Ja,Jb,Jc,Jd,Je,Jf,Jg,Jh,Ji,Jj,Jk,Jl,Jm,Jn,Jo,Jp,Jq,Jr,Js,Jt,Ju,Jv,Jw,Jx,Jy,Jz,JA,JB,JC,JD,JE,JF,JG,JH,JI,JJ,JK,JL,JM,JN,JO,JP,stillI,IOp.kind,JQ,JR,JS,JT,JU,JV,JW,JX,JY,JZ,Y0,Y1,Y2,Y3,Y4,Y5,Y6,Y7,Y8,Y9,Ya,Yb,Yc,Yd,Ye,Yf,Yg,Yh,Yi,Yj,Yk,Yl,Ym,Yn,ial,Yo,Yp,Yq,Yr,Ys,Yt,Yu,Yv,ires,iresL,ires1,Yw,Yx,Yy,Yz,YA,YB,bin2,YC,YD,YE,YF,YG,YH,YI,YJ,YK,YL,YM,YN,YO,YP,YQ,YR,un1,shOk,eqL,eq1,fillL,putAt,IHeap.load1,IHeap.loadL,IHeap.storeL,YS,YT,YU,YV,YW,YX,YY,YZ,B0,B1,B2,B3,B4,B5,B6,B7,B8,B9,Ba,Bb,Bc,Bd,Be,Bf,Bg,Bh,Bi,Bj,Bk,Bl,Bm, t0, t3, t4, t5, gx3]
            have hA'l : A'.L.length ≤ i + 1 := by rw [hA']; exact Nat.le_trans (deedA_len A d) (by omega)
            have hG' : GoodA A' := by rw [hA']; exact deedA_good hG d
            refine dcall_of c.mono (Promised_st c hc st3 fun H4 k4 => ?_)
            have n4 := k4.next
            have gx4 := (k4.get x (by omega)).trans gx3
            have gv4 := (k4.get H'.next (by omega)).trans gv3
            simp -implicitDefEqProofs [J0,J1,J2,J3,J4,J5,J6,J7,J8,J9,Ja,Jb,Jc,Jd,Je,Jf,Jg,Jh,Ji,Jj,Jk,Jl,Jm,Jn,Jo,Jp,Jq,Jr,Js,Jt,Ju,Jv,Jw,Jx,Jy,Jz,JA,JB,JC,JD,JE,JF,JG,JH,JI,JJ,JK,JL,JM,JN,JO,JP,stillI,IOp.kind,JQ,JR,JS,JT,JU,JV,JW,JX,JY,JZ,Y0,Y1,Y2,Y3,Y4,Y5,Y6,Y7,Y8,Y9,Ya,Yb,Yc,Yd,Ye,Yf,Yg,Yh,Yi,Yj,Yk,Yl,Ym,Yn,ial,Yo,Yp,Yq,Yr,Ys,Yt,Yu,Yv,ires,iresL,ires1,Yw,Yx,Yy,Yz,YA,YB,bin2,YC,YD,YE,YF,YG,YH,YI,YJ,YK,YL,YM,YN,YO,YP,YQ,YR,un1,shOk,eqL,eq1,fillL,putAt,IHeap.load1,IHeap.loadL,IHeap.storeL,YS,YT,YU,YV,YW,YX,YY,YZ,B0,B1,B2,B3,B4,B5,B6,B7,B8,B9,Ba,Bb,Bc,Bd,Be,Bf,Bg,Bh,Bi,Bj,Bk,Bl,Bm, vB, gx4, stillI, t0, t3, t4, t5]
            refine dcall_of c.mono (Base_st c hc (st3.le k4) ?_)
            simp -implicitDefEqProofs [J0,J1,J2,J3,J4,J5,J6,J7,J8,J9,Ja,Jb,Jc,Jd,Je,Jf,Jg,Jh,Ji,Jj,Jk,Jl,Jm,Jn,Jo,Jp,Jq,Jr,Js,Jt,Ju,Jv,Jw,Jx,Jy,Jz,JA,JB,JC,JD,JE,JF,JG,JH,JI,JJ,JK,JL,JM,JN,JO,JP,stillI,IOp.kind,JQ,JR,JS,JT,JU,JV,JW,JX,JY,JZ,Y0,Y1,Y2,Y3,Y4,Y5,Y6,Y7,Y8,Y9,Ya,Yb,Yc,Yd,Ye,Yf,Yg,Yh,Yi,Yj,Yk,Yl,Ym,Yn,ial,Yo,Yp,Yq,Yr,Ys,Yt,Yu,Yv,ires,iresL,ires1,Yw,Yx,Yy,Yz,YA,YB,bin2,YC,YD,YE,YF,YG,YH,YI,YJ,YK,YL,YM,YN,YO,YP,YQ,YR,un1,shOk,eqL,eq1,fillL,putAt,IHeap.load1,IHeap.loadL,IHeap.storeL,YS,YT,YU,YV,YW,YX,YY,YZ,B0,B1,B2,B3,B4,B5,B6,B7,B8,B9,Ba,Bb,Bc,Bd,Be,Bf,Bg,Bh,Bi,Bj,Bk,Bl,Bm, gx4, gv4, stillI, t0, t3, t4, t5]
            refine dcall_of c.mono (Votes_st c hc (s := d.v.slot) (st3.le k4) (by omega) fun w5 H5 k5 s5 f5 => ?_)
            have n5 := k5.next
            have gx5 := (k5.get x (by omega)).trans gx4
            have gv5 := (k5.get H'.next (by omega)).trans gv4
            have su5 := (su3.le k4).le k5
            simp -implicitDefEqProofs [J0,J1,J2,J3,J4,J5,J6,J7,J8,J9,Ja,Jb,Jc,Jd,Je,Jf,Jg,Jh,Ji,Jj,Jk,Jl,Jm,Jn,Jo,Jp,Jq,Jr,Js,Jt,Ju,Jv,Jw,Jx,Jy,Jz,JA,JB,JC,JD,JE,JF,JG,JH,JI,JJ,JK,JL,JM,JN,JO,JP,stillI,IOp.kind,JQ,JR,JS,JT,JU,JV,JW,JX,JY,JZ,Y0,Y1,Y2,Y3,Y4,Y5,Y6,Y7,Y8,Y9,Ya,Yb,Yc,Yd,Ye,Yf,Yg,Yh,Yi,Yj,Yk,Yl,Ym,Yn,ial,Yo,Yp,Yq,Yr,Ys,Yt,Yu,Yv,ires,iresL,ires1,Yw,Yx,Yy,Yz,YA,YB,bin2,YC,YD,YE,YF,YG,YH,YI,YJ,YK,YL,YM,YN,YO,YP,YQ,YR,un1,shOk,eqL,eq1,fillL,putAt,IHeap.load1,IHeap.loadL,IHeap.storeL,YS,YT,YU,YV,YW,YX,YY,YZ,B0,B1,B2,B3,B4,B5,B6,B7,B8,B9,Ba,Bb,Bc,Bd,Be,Bf,Bg,Bh,Bi,Bj,Bk,Bl,Bm, gx5, gv5, stillI, t0, t3, t4, t5]
            refine dcall_of c.mono (RVotes_ok17 c hR (L := A'.L) (pa := A'.pa) (pn := A'.pn) (base := A'.base) (s := d.v.slot) su5.1 (by omega) fun w6 H6 k6 gr6 => ?_)
            have hfl := fromV_len A'.L d.v.slot
            have k36 := (k4.trans k5).trans k6
            have n6 := k6.next
            simp -implicitDefEqProofs [J0,J1,J2,J3,J4,J5,J6,J7,J8,J9,Ja,Jb,Jc,Jd,Je,Jf,Jg,Jh,Ji,Jj,Jk,Jl,Jm,Jn,Jo,Jp,Jq,Jr,Js,Jt,Ju,Jv,Jw,Jx,Jy,Jz,JA,JB,JC,JD,JE,JF,JG,JH,JI,JJ,JK,JL,JM,JN,JO,JP,stillI,IOp.kind,JQ,JR,JS,JT,JU,JV,JW,JX,JY,JZ,Y0,Y1,Y2,Y3,Y4,Y5,Y6,Y7,Y8,Y9,Ya,Yb,Yc,Yd,Ye,Yf,Yg,Yh,Yi,Yj,Yk,Yl,Ym,Yn,ial,Yo,Yp,Yq,Yr,Ys,Yt,Yu,Yv,ires,iresL,ires1,Yw,Yx,Yy,Yz,YA,YB,bin2,YC,YD,YE,YF,YG,YH,YI,YJ,YK,YL,YM,YN,YO,YP,YQ,YR,un1,shOk,eqL,eq1,fillL,putAt,IHeap.load1,IHeap.loadL,IHeap.storeL,YS,YT,YU,YV,YW,YX,YY,YZ,B0,B1,B2,B3,B4,B5,B6,B7,B8,B9,Ba,Bb,Bc,Bd,Be,Bf,Bg,Bh,Bi,Bj,Bk,Bl,Bm, t0, t3, t4, t5]
            refine dcall_of c.mono (SameV_ok c hR (s5.le k6).1 gr6.slr (by omega) ?_)
            simp -implicitDefEqProofs [J0,J1,J2,J3,J4,J5,J6,J7,J8,J9,Ja,Jb,Jc,Jd,Je,Jf,Jg,Jh,Ji,Jj,Jk,Jl,Jm,Jn,Jo,Jp,Jq,Jr,Js,Jt,Ju,Jv,Jw,Jx,Jy,Jz,JA,JB,JC,JD,JE,JF,JG,JH,JI,JJ,JK,JL,JM,JN,JO,JP,stillI,IOp.kind,JQ,JR,JS,JT,JU,JV,JW,JX,JY,JZ,Y0,Y1,Y2,Y3,Y4,Y5,Y6,Y7,Y8,Y9,Ya,Yb,Yc,Yd,Ye,Yf,Yg,Yh,Yi,Yj,Yk,Yl,Ym,Yn,ial,Yo,Yp,Yq,Yr,Ys,Yt,Yu,Yv,ires,iresL,ires1,Yw,Yx,Yy,Yz,YA,YB,bin2,YC,YD,YE,YF,YG,YH,YI,YJ,YK,YL,YM,YN,YO,YP,YQ,YR,un1,shOk,eqL,eq1,fillL,putAt,IHeap.load1,IHeap.loadL,IHeap.storeL,YS,YT,YU,YV,YW,YX,YY,YZ,B0,B1,B2,B3,B4,B5,B6,B7,B8,B9,Ba,Bb,Bc,Bd,Be,Bf,Bg,Bh,Bi,Bj,Bk,Bl,Bm, hw, t0, t3, t4, t5]
            refine ⟨l.length - (i + 1), by omega, i + 1, by omega, rfl, by simp, ?_, A', u2, hA'l, hG', (st3.le k36), (k36.get x (by omega)).trans gx3, su3.le k36, hux3⟩
            exact (k03.trans (k36.keep (by omega))).le (Nat.le_refl _)
          · by_cases h2 : d.k = 2
            · simp -implicitDefEqProofs [J0,J1,J2,J3,J4,J5,J6,J7,J8,J9,Ja,Jb,Jc,Jd,Je,Jf,Jg,Jh,Ji,Jj,Jk,Jl,Jm,Jn,Jo,Jp,Jq,Jr,Js,Jt,Ju,Jv,Jw,Jx,Jy,Jz,JA,JB,JC,JD,JE,JF,JG,JH,JI,JJ,JK,JL,JM,JN,JO,JP,stillI,IOp.kind,JQ,JR,JS,JT,JU,JV,JW,JX,JY,JZ,Y0,Y1,Y2,Y3,Y4,Y5,Y6,Y7,Y8,Y9,Ya,Yb,Yc,Yd,Ye,Yf,Yg,Yh,Yi,Yj,Yk,Yl,Ym,Yn,ial,Yo,Yp,Yq,Yr,Ys,Yt,Yu,Yv,ires,iresL,ires1,Yw,Yx,Yy,Yz,YA,YB,bin2,YC,YD,YE,YF,YG,YH,YI,YJ,YK,YL,YM,YN,YO,YP,YQ,YR,un1,shOk,eqL,eq1,fillL,putAt,IHeap.load1,IHeap.loadL,IHeap.storeL,YS,YT,YU,YV,YW,YX,YY,YZ,B0,B1,B2,B3,B4,B5,B6,B7,B8,B9,Ba,Bb,Bc,Bd,Be,Bf,Bg,Bh,Bi,Bj,Bk,Bl,Bm, t0, t3, t4, t5, h0, h1, h2, gxV, gV]
              refine call_of (RTrim_ok17 c hR (A := A) (u := u') (s := d.v.slot) hst.sorted (su.le kV) (by omega) fun u2 G1 q1 su1 bu1 => ?_)
              have m1 := q1.next
              have gx1 := (q1.get x (by omega)).trans gxV
              have gv1 := (q1.get H'.next (by omega)).trans gV
              have hdA : deedA A d = (A.trim d.v.slot).1 := by rw [deedA, if_neg h0, if_neg h1, if_pos h2]
              have hPr := fun {X : IHeap} {S : Nat → Prop} (s : StA S X H.next A) (K2 : Value → IHeap → Prop) hk => Trim_st c hc (s := d.v.slot) (K := K2) s (by omega) hk
              rw [← hdA] at hPr su1 ⊢
              obtain ⟨A', hA'⟩ : ∃ A', A' = deedA A d := ⟨_, rfl⟩
              obtain ⟨ok, hok⟩ : ∃ ok, ok = (A.trim d.v.slot).2 := ⟨_, rfl⟩
              rw [← hA', ← hok]
              rw [← hA', ← hok] at hPr
              rw [← hA'] at su1
              have bu2 : ∀ {y : Nat}, inB u2 y → inB u' y ∨ (HV.next ≤ y ∧ y < G1.next) := fun hy => .inr (bu1.in hy)
              have hx1 : ¬ x = G1.next := by omega
              have hu1 : one1 u2 = true := by obtain ⟨_, _, e⟩ := su1.len; rw [e]; rfl
              have hxv : ¬ H'.next = x := by omega
              obtain ⟨GA, hGA⟩ : ∃ X : IHeap, X = (G1.alloc (.cells [.int .i64 0, .int .i64 0, .int .i64 0, .slice none 0 0] false)).set G1.next (.cells [.int .i64 A'.pa, .int .i64 A'.pn, .int .i64 A'.base, u2] false) := ⟨_, rfl⟩
              have q1A : G1.le GA := by rw [hGA]; exact (G1.le_alloc _).set (Nat.le_refl _) _
              have kGA : H'.le GA := (kV.trans q1).trans q1A
              have mA : GA.next = G1.next + 1 := by rw [hGA]; rfl
              have gxA := (q1A.get x (by omega)).trans gx1
              have g8 : GA.get G1.next = some (.cells [.int .i64 A'.pa, .int .i64 A'.pn, .int .i64 A'.base, u2] false) := by rw [hGA, YT, if_pos rfl]
              obtain ⟨G2, hG2⟩ : ∃ X : IHeap, X = GA.set x (.cells [.int .i64 A'.pa, .int .i64 A'.pn, .int .i64 A'.base, u2] false) := ⟨_, rfl⟩
              have m2 : G2.next = G1.next + 1 := by rw [hG2]; exact mA
              have gx2 : G2.get x = some (.cells [.int .i64 A'.pa, .int .i64 A'.pn, .int .i64 A'.base, u2] false) := by rw [hG2, YT, if_pos rfl]
              have gv2 : G2.get H'.next = some (.cells [.int .i64 d.v.slot, .int .i64 d.v.a, .int .i64 d.v.n, .string d.v.val] false) := by
                rw [hG2, YT, if_neg hxv]; exact (q1A.get H'.next (by omega)).trans gv1
              have st2 := (hst.grow kGA).set (i := x) (.inl (.inr (.inl rfl))) (.cells [.int .i64 A'.pa, .int .i64 A'.pn, .int .i64 A'.base, u2] false)
              rw [← hG2] at st2
              have k02 : IHeap.keep H.next H G2 := by
                rw [hG2]
                exact ((hle.keep (Nat.le_refl _)).trans (kGA.keep nH)).set (by omega) _
              have hux3 : ¬ inB u2 x := fun h => (bu2 h).elim hux fun h => by omega
              have su2 : SlW G2 4 u2 (A'.L.map rowV) := by
                rw [hG2]
                exact (su1.le q1A).kept (Nat.le_refl _) fun y hy => by rw [YT, if_neg (fun e : y = x => hux3 (e ▸ hy))]
              simp -implicitDefEqProofs [J0,J1,J2,J3,J4,J5,J6,J7,J8,J9,Ja,Jb,Jc,Jd,Je,Jf,Jg,Jh,Ji,Jj,Jk,Jl,Jm,Jn,Jo,Jp,Jq,Jr,Js,Jt,Ju,Jv,Jw,Jx,Jy,Jz,JA,JB,JC,JD,JE,JF,JG,JH,JI,JJ,JK,JL,JM,JN,JO,JP,stillI,IOp.kind,JQ,JR,JS,JT,JU,JV,JW,JX,JY,JZ,Y0,Y1,Y2,Y3,Y4,Y5,Y6,Y7,Y8,Y9,Ya,Yb,Yc,Yd,Ye,Yf,Yg,Yh,Yi,Yj,Yk,Yl,Ym,Yn,ial,Yo,Yp,Yq,Yr,Ys,Yt,Yu,Yv,ires,iresL,ires1,Yw,Yx,Yy,Yz,YA,YB,bin2,YC,YD,YE,YF,YG,YH,YI,YJ,YK,YL,YM,YN,YO,YP,YQ,YR,un1,shOk,eqL,eq1,fillL,putAt,IHeap.load1,IHeap.loadL,IHeap.storeL,YS,YT,YU,YV,YW,YX,YY,YZ,B0,B1,B2,B3,B4,B5,B6,B7,B8,B9,Ba,Bb,Bc,Bd,Be,Bf,Bg,Bh,Bi,Bj,Bk,Bl,Bm, t0, t3, t4, t5, aV, gxA, g8, hx1, hu1, ← hGA, ← hG2, gv2]
              refine call_of (hPr st2 _ fun H3 k3 st3 => ?_)
              have m3 := k3.1
              have gx3 := (k3.2 x (.inl (.inr (.inl rfl)))).trans gx2
              have gv3 := (k3.2 H'.next (.inr ⟨Nat.le_refl _, by omega⟩)).trans gv2
              have k03 : IHeap.keep H.next H H3 := k02.trans ⟨m3, fun b hb => k3.2 b (.inl (.inl hb))⟩
              have bu3 : ∀ y, inB u2 y → (y < H.next ∨ y = x ∨ inB u' y) ∨ (H'.next ≤ y ∧ y < GA.next) := fun y hy => (bu2 hy).elim (fun h => .inl (.inr (.inr h))) fun h => .inr (by omega)
              have su3 := su2.kept m3 fun b hb => k3.2 b (bu3 b hb)
              have st3 := st3.sub (S' := fun b => b < H.next ∨ b = x ∨ inB u2 b) fun b hb => by
                rcases hb with h | h | h
                · exact .inl (.inl h)
                · exact .inl (.inr (.inl h))
                · exact bu3 b h
              simp -implicitDefEqProofs [J0,J1,J2,J3,J4,J5,J6,J7,J8,J9,Ja,Jb,Jc,Jd,Je,Jf,Jg,Jh,Ji,Jj,Jk,Jl,Jm,Jn,Jo,Jp,Jq,Jr,Js,Jt,Ju,Jv,Jw,Jx,Jy,Jz,JA,JB,JC,JD,JE,JF,JG,JH,JI,JJ,JK,JL,JM,JN,JO,JP,stillI,IOp.kind,JQ,JR,JS,JT,JU,JV,JW,JX,JY,JZ,Y0,Y1,Y2,Y3,Y4,Y5,Y6,Y7,Y8,Y9,Ya,Yb,Yc,Yd,Ye,Yf,Yg,Yh,Yi,Yj,Yk,Yl,Ym,Yn,ial,Yo,Yp,Yq,Yr,Ys,Yt,Yu,Yv,ires,iresL,ires1,Yw,Yx,Yy,Yz,YA,YB,bin2,YC,YD,YE,YF,YG,YH,YI,YJ,YK,YL,YM,YN,YO,YP,YQ,YR,un1,shOk,eqL,eq1,fillL,putAt,IHeap.load1,IHeap.loadL,IHeap.storeL,YS,YT,YU,YV,YW,YX,YY,YZ,B0,B1,B2,B3,B4,B5,B6,B7,B8,B9,Ba,Bb,Bc,Bd,Be,Bf,Bg,Bh,Bi,Bj,Bk,Bl,Bm, t0, t3, t4, t5, gx3]
              have hA'l : A'.L.length ≤ i + 1 := by rw [hA']; exact Nat.le_trans (deedA_len A d) (by omega)
              have hG' : GoodA A' := by rw [hA']; exact deedA_good hG d
              refine dcall_of c.mono (Promised_st c hc st3 fun H4 k4 => ?_)
              have n4 := k4.next
              have gx4 := (k4.get x (by omega)).trans gx3
              have gv4 := (k4.get H'.next (by omega)).trans gv3
              simp -implicitDefEqProofs [J0,J1,J2,J3,J4,J5,J6,J7,J8,J9,Ja,Jb,Jc,Jd,Je,Jf,Jg,Jh,Ji,Jj,Jk,Jl,Jm,Jn,Jo,Jp,Jq,Jr,Js,Jt,Ju,Jv,Jw,Jx,Jy,Jz,JA,JB,JC,JD,JE,JF,JG,JH,JI,JJ,JK,JL,JM,JN,JO,JP,stillI,IOp.kind,JQ,JR,JS,JT,JU,JV,JW,JX,JY,JZ,Y0,Y1,Y2,Y3,Y4,Y5,Y6,Y7,Y8,Y9,Ya,Yb,Yc,Yd,Ye,Yf,Yg,Yh,Yi,Yj,Yk,Yl,Ym,Yn,ial,Yo,Yp,Yq,Yr,Ys,Yt,Yu,Yv,ires,iresL,ires1,Yw,Yx,Yy,Yz,YA,YB,bin2,YC,YD,YE,YF,YG,YH,YI,YJ,YK,YL,YM,YN,YO,YP,YQ,YR,un1,shOk,eqL,eq1,fillL,putAt,IHeap.load1,IHeap.loadL,IHeap.storeL,YS,YT,YU,YV,YW,YX,YY,YZ,B0,B1,B2,B3,B4,B5,B6,B7,B8,B9,Ba,Bb,Bc,Bd,Be,Bf,Bg,Bh,Bi,Bj,Bk,Bl,Bm, vB, gx4, stillI, t0, t3, t4, t5]
              refine dcall_of c.mono (Base_st c hc (st3.le k4) ?_)
              simp -implicitDefEqProofs [J0,J1,J2,J3,J4,J5,J6,J7,J8,J9,Ja,Jb,Jc,Jd,Je,Jf,Jg,Jh,Ji,Jj,Jk,Jl,Jm,Jn,Jo,Jp,Jq,Jr,Js,Jt,Ju,Jv,Jw,Jx,Jy,Jz,JA,JB,JC,JD,JE,JF,JG,JH,JI,JJ,JK,JL,JM,JN,JO,JP,stillI,IOp.kind,JQ,JR,JS,JT,JU,JV,JW,JX,JY,JZ,Y0,Y1,Y2,Y3,Y4,Y5,Y6,Y7,Y8,Y9,Ya,Yb,Yc,Yd,Ye,Yf,Yg,Yh,Yi,Yj,Yk,Yl,Ym,Yn,ial,Yo,Yp,Yq,Yr,Ys,Yt,Yu,Yv,ires,iresL,ires1,Yw,Yx,Yy,Yz,YA,YB,bin2,YC,YD,YE,YF,YG,YH,YI,YJ,YK,YL,YM,YN,YO,YP,YQ,YR,un1,shOk,eqL,eq1,fillL,putAt,IHeap.load1,IHeap.loadL,IHeap.storeL,YS,YT,YU,YV,YW,YX,YY,YZ,B0,B1,B2,B3,B4,B5,B6,B7,B8,B9,Ba,Bb,Bc,Bd,Be,Bf,Bg,Bh,Bi,Bj,Bk,Bl,Bm, gx4, gv4, stillI, t0, t3, t4, t5]
              refine dcall_of c.mono (Votes_st c hc (s := d.v.slot) (st3.le k4) (by omega) fun w5 H5 k5 s5 f5 => ?_)
              have n5 := k5.next
              have gx5 := (k5.get x (by omega)).trans gx4
              have gv5 := (k5.get H'.next (by omega)).trans gv4
              have su5 := (su3.le k4).le k5
              simp -implicitDefEqProofs [J0,J1,J2,J3,J4,J5,J6,J7,J8,J9,Ja,Jb,Jc,Jd,Je,Jf,Jg,Jh,Ji,Jj,Jk,Jl,Jm,Jn,Jo,Jp,Jq,Jr,Js,Jt,Ju,Jv,Jw,Jx,Jy,Jz,JA,JB,JC,JD,JE,JF,JG,JH,JI,JJ,JK,JL,JM,JN,JO,JP,stillI,IOp.kind,JQ,JR,JS,JT,JU,JV,JW,JX,JY,JZ,Y0,Y1,Y2,Y3,Y4,Y5,Y6,Y7,Y8,Y9,Ya,Yb,Yc,Yd,Ye,Yf,Yg,Yh,Yi,Yj,Yk,Yl,Ym,Yn,ial,Yo,Yp,Yq,Yr,Ys,Yt,Yu,Yv,ires,iresL,ires1,Yw,Yx,Yy,Yz,YA,YB,bin2,YC,YD,YE,YF,YG,YH,YI,YJ,YK,YL,YM,YN,YO,YP,YQ,YR,un1,shOk,eqL,eq1,fillL,putAt,IHeap.load1,IHeap.loadL,IHeap.storeL,YS,YT,YU,YV,YW,YX,YY,YZ,B0,B1,B2,B3,B4,B5,B6,B7,B8,B9,Ba,Bb,Bc,Bd,Be,Bf,Bg,Bh,Bi,Bj,Bk,Bl,Bm, gx5, gv5, stillI, t0, t3, t4, t5]
              refine dcall_of c.mono (RVotes_ok17 c hR (L := A'.L) (pa := A'.pa) (pn := A'.pn) (base := A'.base) (s := d.v.slot) su5.1 (by omega) fun w6 H6 k6 gr6 => ?_)
              have hfl := fromV_len A'.L d.v.slot
              have k36 := (k4.trans k5).trans k6
              have n6 := k6.next
              simp -implicitDefEqProofs [J0,J1,J2,J3,J4,J5,J6,J7,J8,J9,Ja,Jb,Jc,Jd,Je,Jf,Jg,Jh,Ji,Jj,Jk,Jl,Jm,Jn,Jo,Jp,Jq,Jr,Js,Jt,Ju,Jv,Jw,Jx,Jy,Jz,JA,JB,JC,JD,JE,JF,JG,JH,JI,JJ,JK,JL,JM,JN,JO,JP,stillI,IOp.kind,JQ,JR,JS,JT,JU,JV,JW,JX,JY,JZ,Y0,Y1,Y2,Y3,Y4,Y5,Y6,Y7,Y8,Y9,Ya,Yb,Yc,Yd,Ye,Yf,Yg,Yh,Yi,Yj,Yk,Yl,Ym,Yn,ial,Yo,Yp,Yq,Yr,Ys,Yt,Yu,Yv,ires,iresL,ires1,Yw,Yx,Yy,Yz,YA,YB,bin2,YC,YD,YE,YF,YG,YH,YI,YJ,YK,YL,YM,YN,YO,YP,YQ,YR,un1,shOk,eqL,eq1,fillL,putAt,IHeap.load1,IHeap.loadL,IHeap.storeL,YS,YT,YU,YV,YW,YX,YY,YZ,B0,B1,B2,B3,B4,B5,B6,B7,B8,B9,Ba,Bb,Bc,Bd,Be,Bf,Bg,Bh,Bi,Bj,Bk,Bl,Bm, t0, t3, t4, t5]
              refine dcall_of c.mono (SameV_ok c hR (s5.le k6).1 gr6.slr (by omega) ?_)
              simp -implicitDefEqProofs [J0,J1,J2,J3,J4,J5,J6,J7,J8,J9,Ja,Jb,Jc,Jd,Je,Jf,Jg,Jh,Ji,Jj,Jk,Jl,Jm,Jn,Jo,Jp,Jq,Jr,Js,Jt,Ju,Jv,Jw,Jx,Jy,Jz,JA,JB,JC,JD,JE,JF,JG,JH,JI,JJ,JK,JL,JM,JN,JO,JP,stillI,IOp.kind,JQ,JR,JS,JT,JU,JV,JW,JX,JY,JZ,Y0,Y1,Y2,Y3,Y4,Y5,Y6,Y7,Y8,Y9,Ya,Yb,Yc,Yd,Ye,Yf,Yg,Yh,Yi,Yj,Yk,Yl,Ym,Yn,ial,Yo,Yp,Yq,Yr,Ys,Yt,Yu,Yv,ires,iresL,ires1,Yw,Yx,Yy,Yz,YA,YB,bin2,YC,YD,YE,YF,YG,YH,YI,YJ,YK,YL,YM,YN,YO,YP,YQ,YR,un1,shOk,eqL,eq1,fillL,putAt,IHeap.load1,IHeap.loadL,IHeap.storeL,YS,YT,YU,YV,YW,YX,YY,YZ,B0,B1,B2,B3,B4,B5,B6,B7,B8,B9,Ba,Bb,Bc,Bd,Be,Bf,Bg,Bh,Bi,Bj,Bk,Bl,Bm, hw, t0, t3, t4, t5]
              refine ⟨l.length - (i + 1), by omega, i + 1, by omega, rfl, by simp, ?_, A', u2, hA'l, hG', (st3.le k36), (k36.get x (by omega)).trans gx3, su3.le k36, hux3⟩
              exact (k03.trans (k36.keep (by omega))).le (Nat.le_refl _)
            · simp -implicitDefEqProofs [J0,J1,J2,J3,J4,J5,J6,J7,J8,J9,Ja,Jb,Jc,Jd,Je,Jf,Jg,Jh,Ji,Jj,Jk,Jl,Jm,Jn,Jo,Jp,Jq,Jr,Js,Jt,Ju,Jv,Jw,Jx,Jy,Jz,JA,JB,JC,JD,JE,JF,JG,JH,JI,JJ,JK,JL,JM,JN,JO,JP,stillI,IOp.kind,JQ,JR,JS,JT,JU,JV,JW,JX,JY,JZ,Y0,Y1,Y2,Y3,Y4,Y5,Y6,Y7,Y8,Y9,Ya,Yb,Yc,Yd,Ye,Yf,Yg,Yh,Yi,Yj,Yk,Yl,Ym,Yn,ial,Yo,Yp,Yq,Yr,Ys,Yt,Yu,Yv,ires,iresL,ires1,Yw,Yx,Yy,Yz,YA,YB,bin2,YC,YD,YE,YF,YG,YH,YI,YJ,YK,YL,YM,YN,YO,YP,YQ,YR,un1,shOk,eqL,eq1,fillL,putAt,IHeap.load1,IHeap.loadL,IHeap.storeL,YS,YT,YU,YV,YW,YX,YY,YZ,B0,B1,B2,B3,B4,B5,B6,B7,B8,B9,Ba,Bb,Bc,Bd,Be,Bf,Bg,Bh,Bi,Bj,Bk,Bl,Bm, t0, t3, t4, t5, h0, h1, h2, gxV, gV]
              obtain ⟨A', hA'⟩ : ∃ A', A' = deedA A d := ⟨_, rfl⟩
              have eA : A' = A := by rw [hA', deedA, if_neg h0, if_neg h1, if_neg h2]
              obtain ⟨H3, hH3⟩ : ∃ X : IHeap, X = HV := ⟨_, rfl⟩
              rw [← hH3] at kV nV gV gxV ⊢
              rw [← eA] at hst gxV su ⊢
              have m3 := kV.next
              have gx3 := gxV
              have gv3 := gV
              have k03 : IHeap.keep H.next H H3 := (hle.keep (Nat.le_refl _)).trans (kV.keep nH)
              have su3 := su.le kV
              have st3 := hst.le kV
              have hux3 := hux
              have hA'l : A'.L.length ≤ i + 1 := by rw [eA]; omega
              have hG' : GoodA A' := by rw [eA]; exact hG
              refine dcall_of c.mono (Promised_st c hc st3 fun H4 k4 => ?_)
              have n4 := k4.next
              have gx4 := (k4.get x (by omega)).trans gx3
              have gv4 := (k4.get H'.next (by omega)).trans gv3
              simp -implicitDefEqProofs [J0,J1,J2,J3,J4,J5,J6,J7,J8,J9,Ja,Jb,Jc,Jd,Je,Jf,Jg,Jh,Ji,Jj,Jk,Jl,Jm,Jn,Jo,Jp,Jq,Jr,Js,Jt,Ju,Jv,Jw,Jx,Jy,Jz,JA,JB,JC,JD,JE,JF,JG,JH,JI,JJ,JK,JL,JM,JN,JO,JP,stillI,IOp.kind,JQ,JR,JS,JT,JU,JV,JW,JX,JY,JZ,Y0,Y1,Y2,Y3,Y4,Y5,Y6,Y7,Y8,Y9,Ya,Yb,Yc,Yd,Ye,Yf,Yg,Yh,Yi,Yj,Yk,Yl,Ym,Yn,ial,Yo,Yp,Yq,Yr,Ys,Yt,Yu,Yv,ires,iresL,ires1,Yw,Yx,Yy,Yz,YA,YB,bin2,YC,YD,YE,YF,YG,YH,YI,YJ,YK,YL,YM,YN,YO,YP,YQ,YR,un1,shOk,eqL,eq1,fillL,putAt,IHeap.load1,IHeap.loadL,IHeap.storeL,YS,YT,YU,YV,YW,YX,YY,YZ,B0,B1,B2,B3,B4,B5,B6,B7,B8,B9,Ba,Bb,Bc,Bd,Be,Bf,Bg,Bh,Bi,Bj,Bk,Bl,Bm, vB, gx4, stillI, t0, t3, t4, t5]
              refine dcall_of c.mono (Base_st c hc (st3.le k4) ?_)
              simp -implicitDefEqProofs [J0,J1,J2,J3,J4,J5,J6,J7,J8,J9,Ja,Jb,Jc,Jd,Je,Jf,Jg,Jh,Ji,Jj,Jk,Jl,Jm,Jn,Jo,Jp,Jq,Jr,Js,Jt,Ju,Jv,Jw,Jx,Jy,Jz,JA,JB,JC,JD,JE,JF,JG,JH,JI,JJ,JK,JL,JM,JN,JO,JP,stillI,IOp.kind,JQ,JR,JS,JT,JU,JV,JW,JX,JY,JZ,Y0,Y1,Y2,Y3,Y4,Y5,Y6,Y7,Y8,Y9,Ya,Yb,Yc,Yd,Ye,Yf,Yg,Yh,Yi,Yj,Yk,Yl,Ym,Yn,ial,Yo,Yp,Yq,Yr,Ys,Yt,Yu,Yv,ires,iresL,ires1,Yw,Yx,Yy,Yz,YA,YB,bin2,YC,YD,YE,YF,YG,YH,YI,YJ,YK,YL,YM,YN,YO,YP,YQ,YR,un1,shOk,eqL,eq1,fillL,putAt,IHeap.load1,IHeap.loadL,IHeap.storeL,YS,YT,YU,YV,YW,YX,YY,YZ,B0,B1,B2,B3,B4,B5,B6,B7,B8,B9,Ba,Bb,Bc,Bd,Be,Bf,Bg,Bh,Bi,Bj,Bk,Bl,Bm, gx4, gv4, stillI, t0, t3, t4, t5]
              refine dcall_of c.mono (Votes_st c hc (s := d.v.slot) (st3.le k4) (by omega) fun w5 H5 k5 s5 f5 => ?_)
              have n5 := k5.next
              have gx5 := (k5.get x (by omega)).trans gx4
              have gv5 := (k5.get H'.next (by omega)).trans gv4
              have su5 := (su3.le k4).le k5
              simp -implicitDefEqProofs [J0,J1,J2,J3,J4,J5,J6,J7,J8,J9,Ja,Jb,Jc,Jd,Je,Jf,Jg,Jh,Ji,Jj,Jk,Jl,Jm,Jn,Jo,Jp,Jq,Jr,Js,Jt,Ju,Jv,Jw,Jx,Jy,Jz,JA,JB,JC,JD,JE,JF,JG,JH,JI,JJ,JK,JL,JM,JN,JO,JP,stillI,IOp.kind,JQ,JR,JS,JT,JU,JV,JW,JX,JY,JZ,Y0,Y1,Y2,Y3,Y4,Y5,Y6,Y7,Y8,Y9,Ya,Yb,Yc,Yd,Ye,Yf,Yg,Yh,Yi,Yj,Yk,Yl,Ym,Yn,ial,Yo,Yp,Yq,Yr,Ys,Yt,Yu,Yv,ires,iresL,ires1,Yw,Yx,Yy,Yz,YA,YB,bin2,YC,YD,YE,YF,YG,YH,YI,YJ,YK,YL,YM,YN,YO,YP,YQ,YR,un1,shOk,eqL,eq1,fillL,putAt,IHeap.load1,IHeap.loadL,IHeap.storeL,YS,YT,YU,YV,YW,YX,YY,YZ,B0,B1,B2,B3,B4,B5,B6,B7,B8,B9,Ba,Bb,Bc,Bd,Be,Bf,Bg,Bh,Bi,Bj,Bk,Bl,Bm, gx5, gv5, stillI, t0, t3, t4, t5]
              refine dcall_of c.mono (RVotes_ok17 c hR (L := A'.L) (pa := A'.pa) (pn := A'.pn) (base := A'.base) (s := d.v.slot) su5.1 (by omega) fun w6 H6 k6 gr6 => ?_)
              have hfl := fromV_len A'.L d.v.slot
              have k36 := (k4.trans k5).trans k6
              have n6 := k6.next
              simp -implicitDefEqProofs [J0,J1,J2,J3,J4,J5,J6,J7,J8,J9,Ja,Jb,Jc,Jd,Je,Jf,Jg,Jh,Ji,Jj,Jk,Jl,Jm,Jn,Jo,Jp,Jq,Jr,Js,Jt,Ju,Jv,Jw,Jx,Jy,Jz,JA,JB,JC,JD,JE,JF,JG,JH,JI,JJ,JK,JL,JM,JN,JO,JP,stillI,IOp.kind,JQ,JR,JS,JT,JU,JV,JW,JX,JY,JZ,Y0,Y1,Y2,Y3,Y4,Y5,Y6,Y7,Y8,Y9,Ya,Yb,Yc,Yd,Ye,Yf,Yg,Yh,Yi,Yj,Yk,Yl,Ym,Yn,ial,Yo,Yp,Yq,Yr,Ys,Yt,Yu,Yv,ires,iresL,ires1,Yw,Yx,Yy,Yz,YA,YB,bin2,YC,YD,YE,YF,YG,YH,YI,YJ,YK,YL,YM,YN,YO,YP,YQ,YR,un1,shOk,eqL,eq1,fillL,putAt,IHeap.load1,IHeap.loadL,IHeap.storeL,YS,YT,YU,YV,YW,YX,YY,YZ,B0,B1,B2,B3,B4,B5,B6,B7,B8,B9,Ba,Bb,Bc,Bd,Be,Bf,Bg,Bh,Bi,Bj,Bk,Bl,Bm, t0, t3, t4, t5]
              refine dcall_of c.mono (SameV_ok c hR (s5.le k6).1 gr6.slr (by omega) ?_)
              simp -implicitDefEqProofs [J0,J1,J2,J3,J4,J5,J6,J7,J8,J9,Ja,Jb,Jc,Jd,Je,Jf,Jg,Jh,Ji,Jj,Jk,Jl,Jm,Jn,Jo,Jp,Jq,Jr,Js,Jt,Ju,Jv,Jw,Jx,Jy,Jz,JA,JB,JC,JD,JE,JF,JG,JH,JI,JJ,JK,JL,JM,JN,JO,JP,stillI,IOp.kind,JQ,JR,JS,JT,JU,JV,JW,JX,JY,JZ,Y0,Y1,Y2,Y3,Y4,Y5,Y6,Y7,Y8,Y9,Ya,Yb,Yc,Yd,Ye,Yf,Yg,Yh,Yi,Yj,Yk,Yl,Ym,Yn,ial,Yo,Yp,Yq,Yr,Ys,Yt,Yu,Yv,ires,iresL,ires1,Yw,Yx,Yy,Yz,YA,YB,bin2,YC,YD,YE,YF,YG,YH,YI,YJ,YK,YL,YM,YN,YO,YP,YQ,YR,un1,shOk,eqL,eq1,fillL,putAt,IHeap.load1,IHeap.loadL,IHeap.storeL,YS,YT,YU,YV,YW,YX,YY,YZ,B0,B1,B2,B3,B4,B5,B6,B7,B8,B9,Ba,Bb,Bc,Bd,Be,Bf,Bg,Bh,Bi,Bj,Bk,Bl,Bm, hw, t0, t3, t4, t5]
              refine ⟨l.length - (i + 1), by omega, i + 1, by omega, rfl, by simp, ?_, A', u', hA'l, hG', (st3.le k36), (k36.get x (by omega)).trans gx3, su3.le k36, hux3⟩
              exact (k03.trans (k36.keep (by omega))).le (Nat.le_refl _)
      · have hil' : ¬ (i : Int) < (l.length : Int) := by omega
        simp -implicitDefEqProofs [J0,J1,J2,J3,J4,J5,J6,J7,J8,J9,Ja,Jb,Jc,Jd,Je,Jf,Jg,Jh,Ji,Jj,Jk,Jl,Jm,Jn,Jo,Jp,Jq,Jr,Js,Jt,Ju,Jv,Jw,Jx,Jy,Jz,JA,JB,JC,JD,JE,JF,JG,JH,JI,JJ,JK,JL,JM,JN,JO,JP,stillI,IOp.kind,JQ,JR,JS,JT,JU,JV,JW,JX,JY,JZ,Y0,Y1,Y2,Y3,Y4,Y5,Y6,Y7,Y8,Y9,Ya,Yb,Yc,Yd,Ye,Yf,Yg,Yh,Yi,Yj,Yk,Yl,Ym,Yn,ial,Yo,Yp,Yq,Yr,Ys,Yt,Yu,Yv,ires,iresL,ires1,Yw,Yx,Yy,Yz,YA,YB,bin2,YC,YD,YE,YF,YG,YH,YI,YJ,YK,YL,YM,YN,YO,YP,YQ,YR,un1,shOk,eqL,eq1,fillL,putAt,IHeap.load1,IHeap.loadL,IHeap.storeL,YS,YT,YU,YV,YW,YX,YY,YZ,B0,B1,B2,B3,B4,B5,B6,B7,B8,B9,Ba,Bb,Bc,Bd,Be,Bf,Bg,Bh,Bi,Bj,Bk,Bl,Bm, t0, t3, t4, t5, hil, hil', gx]
        refine dcall_of c.mono (Votes_st c hc (s := 0) hst (by omega) fun w5 H5 k5 s5 f5 => ?_)
        have hxl : x < H'.next := hst.1 x (.inr (.inl rfl))
        have gx5 := (k5.get x hxl).trans gx
        have e0 := fromV_all hG hG.1
        rw [e0] at s5
        simp -implicitDefEqProofs [J0,J1,J2,J3,J4,J5,J6,J7,J8,J9,Ja,Jb,Jc,Jd,Je,Jf,Jg,Jh,Ji,Jj,Jk,Jl,Jm,Jn,Jo,Jp,Jq,Jr,Js,Jt,Ju,Jv,Jw,Jx,Jy,Jz,JA,JB,JC,JD,JE,JF,JG,JH,JI,JJ,JK,JL,JM,JN,JO,JP,stillI,IOp.kind,JQ,JR,JS,JT,JU,JV,JW,JX,JY,JZ,Y0,Y1,Y2,Y3,Y4,Y5,Y6,Y7,Y8,Y9,Ya,Yb,Yc,Yd,Ye,Yf,Yg,Yh,Yi,Yj,Yk,Yl,Ym,Yn,ial,Yo,Yp,Yq,Yr,Ys,Yt,Yu,Yv,ires,iresL,ires1,Yw,Yx,Yy,Yz,YA,YB,bin2,YC,YD,YE,YF,YG,YH,YI,YJ,YK,YL,YM,YN,YO,YP,YQ,YR,un1,shOk,eqL,eq1,fillL,putAt,IHeap.load1,IHeap.loadL,IHeap.storeL,YS,YT,YU,YV,YW,YX,YY,YZ,B0,B1,B2,B3,B4,B5,B6,B7,B8,B9,Ba,Bb,Bc,Bd,Be,Bf,Bg,Bh,Bi,Bj,Bk,Bl,Bm, t0, t3, t4, t5, gx5, stillI]
        refine dcall_of c.mono (SameV_ok c hR s5.1 (su.le k5).1 (by omega) ?_)
        simp -implicitDefEqProofs [J0,J1,J2,J3,J4,J5,J6,J7,J8,J9,Ja,Jb,Jc,Jd,Je,Jf,Jg,Jh,Ji,Jj,Jk,Jl,Jm,Jn,Jo,Jp,Jq,Jr,Js,Jt,Ju,Jv,Jw,Jx,Jy,Jz,JA,JB,JC,JD,JE,JF,JG,JH,JI,JJ,JK,JL,JM,JN,JO,JP,stillI,IOp.kind,JQ,JR,JS,JT,JU,JV,JW,JX,JY,JZ,Y0,Y1,Y2,Y3,Y4,Y5,Y6,Y7,Y8,Y9,Ya,Yb,Yc,Yd,Ye,Yf,Yg,Yh,Yi,Yj,Yk,Yl,Ym,Yn,ial,Yo,Yp,Yq,Yr,Ys,Yt,Yu,Yv,ires,iresL,ires1,Yw,Yx,Yy,Yz,YA,YB,bin2,YC,YD,YE,YF,YG,YH,YI,YJ,YK,YL,YM,YN,YO,YP,YQ,YR,un1,shOk,eqL,eq1,fillL,putAt,IHeap.load1,IHeap.loadL,IHeap.storeL,YS,YT,YU,YV,YW,YX,YY,YZ,B0,B1,B2,B3,B4,B5,B6,B7,B8,B9,Ba,Bb,Bc,Bd,Be,Bf,Bg,Bh,Bi,Bj,Bk,Bl,Bm]
        refine dcall_of c.mono (hA _ _ fun H6 => ?_)
        simp -implicitDefEqProofs [J0,J1,J2,J3,J4,J5,J6,J7,J8,J9,Ja,Jb,Jc,Jd,Je,Jf,Jg,Jh,Ji,Jj,Jk,Jl,Jm,Jn,Jo,Jp,Jq,Jr,Js,Jt,Ju,Jv,Jw,Jx,Jy,Jz,JA,JB,JC,JD,JE,JF,JG,JH,JI,JJ,JK,JL,JM,JN,JO,JP,stillI,IOp.kind,JQ,JR,JS,JT,JU,JV,JW,JX,JY,JZ,Y0,Y1,Y2,Y3,Y4,Y5,Y6,Y7,Y8,Y9,Ya,Yb,Yc,Yd,Ye,Yf,Yg,Yh,Yi,Yj,Yk,Yl,Ym,Yn,ial,Yo,Yp,Yq,Yr,Ys,Yt,Yu,Yv,ires,iresL,ires1,Yw,Yx,Yy,Yz,YA,YB,bin2,YC,YD,YE,YF,YG,YH,YI,YJ,YK,YL,YM,YN,YO,YP,YQ,YR,un1,shOk,eqL,eq1,fillL,putAt,IHeap.load1,IHeap.loadL,IHeap.storeL,YS,YT,YU,YV,YW,YX,YY,YZ,B0,B1,B2,B3,B4,B5,B6,B7,B8,B9,Ba,Bb,Bc,Bd,Be,Bf,Bg,Bh,Bi,Bj,Bk,Bl,Bm]
        exact hK _

end
end Go.Proofs.YtkgfnelapcpibaaI
