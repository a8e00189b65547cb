/- Directories: the document reads. -/
import Derived.Test.YtfegliplajdgmaaDirH
namespace Go.Proofs.YtfegliplajdgmaaI
set_option linter.unusedSimpArgs false
set_option linter.unusedVariables false
open Go

theorem lastE_at {L : List EntD} {j : Nat} {x : EntD} (hl : L.length = j + 1) (hx : L[j]? = some x) : lastE L = x.nm := by
  have hne : L ≠ [] := by rintro rfl; simp at hl
  unfold lastE
  rw [List.getLast?_eq_getElem?, hl, Nat.add_sub_cancel, hx]
theorem takeText_shr (r : Rd) : (rdS (takeText r).1).length ≤ (rdS r).length := by
  have h := takeInt_shr r
  unfold takeText takeN
  repeat' split
  all_goals simp_all [rdS]
  all_goals omega
/-- Reading, under way. -/
def RdJ (N X i : Nat) (v : Value) (r0 : Rd) (H' : IHeap) : Prop := ∃ (r' : Rd) (L : List EntD), SlW H' 2 v (L.map rowE) ∧ L.length = i ∧ SortedE L ∧ (∀ e ∈ L, okE e) ∧ H'.get X = some (.cells (rdC r') false) ∧ X < H'.next ∧ (rdS r').length ≤ 1000000 ∧ ¬ inB v X ∧ readN N (r0, []) = readN (N - i) (r', L)

section
variable (c : Ctx) (hR : HasRef37 c) (h3 : HasRef03 c) {H : IHeap} {K : Value → IHeap → Prop}

include hR h3 in
theorem RRead_ok {s : List UInt8} (hs : s.length ≤ 1000000)
    (hK0 : readE s = none → ∀ H', H.le H' → K (.tuple #[.slice none 0 0, .int .i64 3]) H')
    (hK1 : ∀ L v H', readE s = some L → H.le H' → L.length ≤ s.length → SlW H' 2 v (L.map rowE) → K (.tuple #[v, .int .i64 0]) H') :
    c.C (c.F n_hurdleref37_Read) [strV s] H K := by
  refine c.enter hR.hurdleref37_Read rfl ?_
  simp -implicitDefEqProofs [J0,J1,J2,J3,J4,J5,J6,J7,J8,J9,Ja,Jb,Jc,Jd,Je,Jf,Jg,Jh,Ji,Jj,Jk,Jl,Jm,Jn,Jo,Jp,Jq,Jr,Js,Jt,Ju,Jv,Jw,Jx,Jy,Jz,JA,JB,JC,JD,JE,JF,JG,JH,JI,JJ,JK,JL,JM,JN,JO,JP,stillI,IOp.kind,JQ,JR,JS,JT,JU,JV,JW,JX,JY,JZ,Y0,Y1,Y2,Y3,Y4,Y5,Y6,Y7,Y8,Y9,Ya,Yb,Yc,Yd,Ye,Yf,Yg,Yh,Yi,Yj,Yk,Yl,Ym,Yn,ial,Yo,Yp,Yq,Yr,Ys,Yt,Yu,Yv,ires,iresL,ires1,Yw,Yx,Yy,Yz,YA,YB,bin2,YC,YD,YE,YF,YG,YH,YI,YJ,YK,YL,YM,YN,YO,YP,YQ,YR,un1,shOk,eqL,eq1,fillL,putAt,IHeap.load1,IHeap.loadL,IHeap.storeL,YS,YT,YU,YV,YW,YX,YY,YZ,B0,B1,B2,B3,B4,B5,B6,B7,B8,B9,Ba,Bb,Bc,Bd,Be,Bf,Bg,Bh,Bi,Bj,Bk,Bl,Bm, c_hurdleref37_Read]
  refine call_of (refTakeInt_ok c h3 (r := some s) hs fun H1 k1 => ?_)
  unfold readE at hK0 hK1
  have hnr := takeInt_dle (r := some s) hs
  have hnr2 := takeInt_shr (some s)
  rcases htt : takeInt (some s) with ⟨r, n⟩
  rw [htt] at hK0 hK1 hnr hnr2
  simp only at hK0 hK1 hnr hnr2 ⊢
  have hnr2 : (rdS r).length ≤ s.length := hnr2
  obtain ⟨bd, hbd⟩ : ∃ bd, bd = r.isNone := ⟨_, rfl⟩
  have hrv : rV r = .agg #[strV (rdS r), .bool bd] := by rw [hbd]; rfl
  obtain ⟨H2, hH2⟩ : ∃ X : IHeap, X = (H1.alloc (.cells [.string ⟨#[]⟩, .bool false] false)).set H1.next (.cells [strV (rdS r), .bool bd] false) := ⟨_, rfl⟩
  have k2 : H1.le H2 := by rw [hH2]; exact (H1.le_alloc _).set (Nat.le_refl _) _
  have n2 : H2.next = H1.next + 1 := by rw [hH2]; rfl
  have g2 : H2.get H1.next = some (.cells [strV (rdS r), .bool bd] false) := by rw [hH2, YT, if_pos rfl]
  obtain ⟨X, hX⟩ : ∃ X, X = H1.next := ⟨_, rfl⟩
  have hHX : H.next ≤ X := by rw [hX]; exact k1.next
  have k02 : H.le H2 := k1.trans k2
  simp -implicitDefEqProofs [J0,J1,J2,J3,J4,J5,J6,J7,J8,J9,Ja,Jb,Jc,Jd,Je,Jf,Jg,Jh,Ji,Jj,Jk,Jl,Jm,Jn,Jo,Jp,Jq,Jr,Js,Jt,Ju,Jv,Jw,Jx,Jy,Jz,JA,JB,JC,JD,JE,JF,JG,JH,JI,JJ,JK,JL,JM,JN,JO,JP,stillI,IOp.kind,JQ,JR,JS,JT,JU,JV,JW,JX,JY,JZ,Y0,Y1,Y2,Y3,Y4,Y5,Y6,Y7,Y8,Y9,Ya,Yb,Yc,Yd,Ye,Yf,Yg,Yh,Yi,Yj,Yk,Yl,Ym,Yn,ial,Yo,Yp,Yq,Yr,Ys,Yt,Yu,Yv,ires,iresL,ires1,Yw,Yx,Yy,Yz,YA,YB,bin2,YC,YD,YE,YF,YG,YH,YI,YJ,YK,YL,YM,YN,YO,YP,YQ,YR,un1,shOk,eqL,eq1,fillL,putAt,IHeap.load1,IHeap.loadL,IHeap.storeL,YS,YT,YU,YV,YW,YX,YY,YZ,B0,B1,B2,B3,B4,B5,B6,B7,B8,B9,Ba,Bb,Bc,Bd,Be,Bf,Bg,Bh,Bi,Bj,Bk,Bl,Bm, hrv, ← hH2, g2]
  cases bd with
  | true =>
    have hr0 : r = none := by cases r with | none => rfl | some _ => cases hbd
    have h0 : n = 0 := by
      have := takeInt_none (r := some s) (by rw [htt]; exact hr0)
      rw [htt] at this; exact this
    simp -implicitDefEqProofs [J0,J1,J2,J3,J4,J5,J6,J7,J8,J9,Ja,Jb,Jc,Jd,Je,Jf,Jg,Jh,Ji,Jj,Jk,Jl,Jm,Jn,Jo,Jp,Jq,Jr,Js,Jt,Ju,Jv,Jw,Jx,Jy,Jz,JA,JB,JC,JD,JE,JF,JG,JH,JI,JJ,JK,JL,JM,JN,JO,JP,stillI,IOp.kind,JQ,JR,JS,JT,JU,JV,JW,JX,JY,JZ,Y0,Y1,Y2,Y3,Y4,Y5,Y6,Y7,Y8,Y9,Ya,Yb,Yc,Yd,Ye,Yf,Yg,Yh,Yi,Yj,Yk,Yl,Ym,Yn,ial,Yo,Yp,Yq,Yr,Ys,Yt,Yu,Yv,ires,iresL,ires1,Yw,Yx,Yy,Yz,YA,YB,bin2,YC,YD,YE,YF,YG,YH,YI,YJ,YK,YL,YM,YN,YO,YP,YQ,YR,un1,shOk,eqL,eq1,fillL,putAt,IHeap.load1,IHeap.loadL,IHeap.storeL,YS,YT,YU,YV,YW,YX,YY,YZ,B0,B1,B2,B3,B4,B5,B6,B7,B8,B9,Ba,Bb,Bc,Bd,Be,Bf,Bg,Bh,Bi,Bj,Bk,Bl,Bm]
    refine hK0 ?_ _ k02
    rw [hr0, h0]
    rfl
  | false =>
    by_cases hn : n < 0
    · simp only [hn, true_or, if_true] at hK0
      simp -implicitDefEqProofs [J0,J1,J2,J3,J4,J5,J6,J7,J8,J9,Ja,Jb,Jc,Jd,Je,Jf,Jg,Jh,Ji,Jj,Jk,Jl,Jm,Jn,Jo,Jp,Jq,Jr,Js,Jt,Ju,Jv,Jw,Jx,Jy,Jz,JA,JB,JC,JD,JE,JF,JG,JH,JI,JJ,JK,JL,JM,JN,JO,JP,stillI,IOp.kind,JQ,JR,JS,JT,JU,JV,JW,JX,JY,JZ,Y0,Y1,Y2,Y3,Y4,Y5,Y6,Y7,Y8,Y9,Ya,Yb,Yc,Yd,Ye,Yf,Yg,Yh,Yi,Yj,Yk,Yl,Ym,Yn,ial,Yo,Yp,Yq,Yr,Ys,Yt,Yu,Yv,ires,iresL,ires1,Yw,Yx,Yy,Yz,YA,YB,bin2,YC,YD,YE,YF,YG,YH,YI,YJ,YK,YL,YM,YN,YO,YP,YQ,YR,un1,shOk,eqL,eq1,fillL,putAt,IHeap.load1,IHeap.loadL,IHeap.storeL,YS,YT,YU,YV,YW,YX,YY,YZ,B0,B1,B2,B3,B4,B5,B6,B7,B8,B9,Ba,Bb,Bc,Bd,Be,Bf,Bg,Bh,Bi,Bj,Bk,Bl,Bm, hn]
      exact hK0 trivial _ k02
    · by_cases hn2 : ((rdS r).length : Int) < n
      · simp only [hn2, or_true, if_true] at hK0
        simp -implicitDefEqProofs [J0,J1,J2,J3,J4,J5,J6,J7,J8,J9,Ja,Jb,Jc,Jd,Je,Jf,Jg,Jh,Ji,Jj,Jk,Jl,Jm,Jn,Jo,Jp,Jq,Jr,Js,Jt,Ju,Jv,Jw,Jx,Jy,Jz,JA,JB,JC,JD,JE,JF,JG,JH,JI,JJ,JK,JL,JM,JN,JO,JP,stillI,IOp.kind,JQ,JR,JS,JT,JU,JV,JW,JX,JY,JZ,Y0,Y1,Y2,Y3,Y4,Y5,Y6,Y7,Y8,Y9,Ya,Yb,Yc,Yd,Ye,Yf,Yg,Yh,Yi,Yj,Yk,Yl,Ym,Yn,ial,Yo,Yp,Yq,Yr,Ys,Yt,Yu,Yv,ires,iresL,ires1,Yw,Yx,Yy,Yz,YA,YB,bin2,YC,YD,YE,YF,YG,YH,YI,YJ,YK,YL,YM,YN,YO,YP,YQ,YR,un1,shOk,eqL,eq1,fillL,putAt,IHeap.load1,IHeap.loadL,IHeap.storeL,YS,YT,YU,YV,YW,YX,YY,YZ,B0,B1,B2,B3,B4,B5,B6,B7,B8,B9,Ba,Bb,Bc,Bd,Be,Bf,Bg,Bh,Bi,Bj,Bk,Bl,Bm, hn, hn2, g2, strV]
        exact hK0 trivial _ k02
      · rw [if_neg (by omega)] at hK0
        rw [if_neg (by omega)] at hK1
        obtain ⟨N, hN⟩ : ∃ N : Nat, n = N := ⟨n.toNat, by omega⟩
        subst hN
        simp only [Int.toNat_natCast] at hK0 hK1
        have hNl : N ≤ s.length := by omega
        have hn2' : ¬ (rdS r).length < N := by omega
        simp -implicitDefEqProofs [J0,J1,J2,J3,J4,J5,J6,J7,J8,J9,Ja,Jb,Jc,Jd,Je,Jf,Jg,Jh,Ji,Jj,Jk,Jl,Jm,Jn,Jo,Jp,Jq,Jr,Js,Jt,Ju,Jv,Jw,Jx,Jy,Jz,JA,JB,JC,JD,JE,JF,JG,JH,JI,JJ,JK,JL,JM,JN,JO,JP,stillI,IOp.kind,JQ,JR,JS,JT,JU,JV,JW,JX,JY,JZ,Y0,Y1,Y2,Y3,Y4,Y5,Y6,Y7,Y8,Y9,Ya,Yb,Yc,Yd,Ye,Yf,Yg,Yh,Yi,Yj,Yk,Yl,Ym,Yn,ial,Yo,Yp,Yq,Yr,Ys,Yt,Yu,Yv,ires,iresL,ires1,Yw,Yx,Yy,Yz,YA,YB,bin2,YC,YD,YE,YF,YG,YH,YI,YJ,YK,YL,YM,YN,YO,YP,YQ,YR,un1,shOk,eqL,eq1,fillL,putAt,IHeap.load1,IHeap.loadL,IHeap.storeL,YS,YT,YU,YV,YW,YX,YY,YZ,B0,B1,B2,B3,B4,B5,B6,B7,B8,B9,Ba,Bb,Bc,Bd,Be,Bf,Bg,Bh,Bi,Bj,Bk,Bl,Bm, hn, hn2, hn2', g2, strV]
        rw [← hX] at g2 ⊢
        refine loop_nat c.mono (fun k T H' => ∃ i : Nat, i ≤ N ∧ k = N - i ∧ T 4 = .pointer (some ⟨X, 0, none⟩) ∧ T 5 = .int .i64 N ∧ T 7 = .int .i64 i ∧ H.le H' ∧ RdJ N X i (T 6) r H') N ?_ ?_
        · refine ⟨0, by omega, rfl, ?_⟩
          simp -implicitDefEqProofs [J0,J1,J2,J3,J4,J5,J6,J7,J8,J9,Ja,Jb,Jc,Jd,Je,Jf,Jg,Jh,Ji,Jj,Jk,Jl,Jm,Jn,Jo,Jp,Jq,Jr,Js,Jt,Ju,Jv,Jw,Jx,Jy,Jz,JA,JB,JC,JD,JE,JF,JG,JH,JI,JJ,JK,JL,JM,JN,JO,JP,stillI,IOp.kind,JQ,JR,JS,JT,JU,JV,JW,JX,JY,JZ,Y0,Y1,Y2,Y3,Y4,Y5,Y6,Y7,Y8,Y9,Ya,Yb,Yc,Yd,Ye,Yf,Yg,Yh,Yi,Yj,Yk,Yl,Ym,Yn,ial,Yo,Yp,Yq,Yr,Ys,Yt,Yu,Yv,ires,iresL,ires1,Yw,Yx,Yy,Yz,YA,YB,bin2,YC,YD,YE,YF,YG,YH,YI,YJ,YK,YL,YM,YN,YO,YP,YQ,YR,un1,shOk,eqL,eq1,fillL,putAt,IHeap.load1,IHeap.loadL,IHeap.storeL,YS,YT,YU,YV,YW,YX,YY,YZ,B0,B1,B2,B3,B4,B5,B6,B7,B8,B9,Ba,Bb,Bc,Bd,Be,Bf,Bg,Bh,Bi,Bj,Bk,Bl,Bm]
          exact ⟨k02, r, [], SlW.nil _ _, rfl, List.Pairwise.nil, by simp, by rw [rdC_eq, ← hbd]; exact g2, by omega, hnr, inB_nil _, rfl⟩
        · rintro k T H' ⟨i, hi, rfl, t4, t5, t7, hle, r', L, hsl, hLi, hso, hok, hg, hXl, hrl, hnX, heq⟩
          by_cases hil : i < N
          · have hil' : (i : Int) < (N : Int) := by omega
            have hw : IntKind.i64.wrap ((i : Int) + 1) = (i : Int) + 1 := wrap64 (by omega) (by omega)
            rw [show N - i = N - (i + 1) + 1 by omega, readN] at heq
            have hbad := fun h => stepE_bad (r := r') (L := L) h
            have hnl : (takeText r').2.length ≤ 1000000 := Nat.le_trans (takeText_len r') hrl
            have hrl1 := takeText_le hrl
            have hrl2 := takeInt_dle hrl1
            rw [rdC_eq] at hg
            simp -implicitDefEqProofs [J0,J1,J2,J3,J4,J5,J6,J7,J8,J9,Ja,Jb,Jc,Jd,Je,Jf,Jg,Jh,Ji,Jj,Jk,Jl,Jm,Jn,Jo,Jp,Jq,Jr,Js,Jt,Ju,Jv,Jw,Jx,Jy,Jz,JA,JB,JC,JD,JE,JF,JG,JH,JI,JJ,JK,JL,JM,JN,JO,JP,stillI,IOp.kind,JQ,JR,JS,JT,JU,JV,JW,JX,JY,JZ,Y0,Y1,Y2,Y3,Y4,Y5,Y6,Y7,Y8,Y9,Ya,Yb,Yc,Yd,Ye,Yf,Yg,Yh,Yi,Yj,Yk,Yl,Ym,Yn,ial,Yo,Yp,Yq,Yr,Ys,Yt,Yu,Yv,ires,iresL,ires1,Yw,Yx,Yy,Yz,YA,YB,bin2,YC,YD,YE,YF,YG,YH,YI,YJ,YK,YL,YM,YN,YO,YP,YQ,YR,un1,shOk,eqL,eq1,fillL,putAt,IHeap.load1,IHeap.loadL,IHeap.storeL,YS,YT,YU,YV,YW,YX,YY,YZ,B0,B1,B2,B3,B4,B5,B6,B7,B8,B9,Ba,Bb,Bc,Bd,Be,Bf,Bg,Bh,Bi,Bj,Bk,Bl,Bm, t4, t5, t7, hil, hil', hg]
            refine call_of (refTakeText_ok c h3 (r := r') hrl fun H3 k3 => ?_)
            have n3 := k3.next
            obtain ⟨r1, hr1⟩ : ∃ r1, r1 = (takeText r').1 := ⟨_, rfl⟩
            obtain ⟨nm, hnm⟩ : ∃ nm, nm = (takeText r').2 := ⟨_, rfl⟩
            obtain ⟨b1d, hb1d⟩ : ∃ bd, bd = r1.isNone := ⟨_, rfl⟩
            have hrv1 : rV r1 = .agg #[strV (rdS r1), .bool b1d] := by rw [hb1d]; rfl
            obtain ⟨H4, hH4⟩ : ∃ X : IHeap, X = (H3.alloc (.cells [.string ⟨#[]⟩, .bool false] false)).set H3.next (.cells [strV (rdS r1), .bool b1d] false) := ⟨_, rfl⟩
            have k4 : H3.le H4 := by rw [hH4]; exact (H3.le_alloc _).set (Nat.le_refl _) _
            have n4 : H4.next = H3.next + 1 := by rw [hH4]; rfl
            have g4 : H4.get H3.next = some (.cells [strV (rdS r1), .bool b1d] false) := by rw [hH4, YT, if_pos rfl]
            unfold stepE at heq hbad
            simp only at heq hbad
            rw [← hr1, ← hnm] at heq hbad
            rw [← hr1] at hrl1 hrl2
            rw [← hnm] at hnl
            rw [← hr1, ← hnm]
            simp -implicitDefEqProofs [J0,J1,J2,J3,J4,J5,J6,J7,J8,J9,Ja,Jb,Jc,Jd,Je,Jf,Jg,Jh,Ji,Jj,Jk,Jl,Jm,Jn,Jo,Jp,Jq,Jr,Js,Jt,Ju,Jv,Jw,Jx,Jy,Jz,JA,JB,JC,JD,JE,JF,JG,JH,JI,JJ,JK,JL,JM,JN,JO,JP,stillI,IOp.kind,JQ,JR,JS,JT,JU,JV,JW,JX,JY,JZ,Y0,Y1,Y2,Y3,Y4,Y5,Y6,Y7,Y8,Y9,Ya,Yb,Yc,Yd,Ye,Yf,Yg,Yh,Yi,Yj,Yk,Yl,Ym,Yn,ial,Yo,Yp,Yq,Yr,Ys,Yt,Yu,Yv,ires,iresL,ires1,Yw,Yx,Yy,Yz,YA,YB,bin2,YC,YD,YE,YF,YG,YH,YI,YJ,YK,YL,YM,YN,YO,YP,YQ,YR,un1,shOk,eqL,eq1,fillL,putAt,IHeap.load1,IHeap.loadL,IHeap.storeL,YS,YT,YU,YV,YW,YX,YY,YZ,B0,B1,B2,B3,B4,B5,B6,B7,B8,B9,Ba,Bb,Bc,Bd,Be,Bf,Bg,Bh,Bi,Bj,Bk,Bl,Bm, hrv1, ← hH4, g4, t4, t5, t7]
            rw [← hrv1]
            refine call_of (refTakeInt_ok c h3 (r := r1) hrl1 fun H5 k5 => ?_)
            have n5 := k5.next
            obtain ⟨r2, hr2⟩ : ∃ r2, r2 = (takeInt r1).1 := ⟨_, rfl⟩
            obtain ⟨ino, hino⟩ : ∃ ino, ino = (takeInt r1).2 := ⟨_, rfl⟩
            rw [← hr2, ← hino] at heq hbad
            rw [← hr2] at hrl2
            rw [← hr2, ← hino]
            have g5 := (k5.get H3.next (by omega)).trans g4
            obtain ⟨bd2, hb2⟩ : ∃ bd, bd = r2.isNone := ⟨_, rfl⟩
            have hrv2 : rV r2 = .agg #[strV (rdS r2), .bool bd2] := by rw [hb2]; rfl
            obtain ⟨H6, hH6⟩ : ∃ X : IHeap, X = H5.set H3.next (.cells [strV (rdS r2), .bool bd2] false) := ⟨_, rfl⟩
            have g6 : H6.get H3.next = some (.cells [strV (rdS r2), .bool bd2] false) := by rw [hH6, YT, if_pos rfl]
            have n6 : H6.next = H5.next := by rw [hH6]; rfl
            have k36 : H'.le H6 := by rw [hH6]; exact ((k3.trans k4).trans k5).set n3 _
            have hgX6 := (k36.get X hXl).trans hg
            simp -implicitDefEqProofs [J0,J1,J2,J3,J4,J5,J6,J7,J8,J9,Ja,Jb,Jc,Jd,Je,Jf,Jg,Jh,Ji,Jj,Jk,Jl,Jm,Jn,Jo,Jp,Jq,Jr,Js,Jt,Ju,Jv,Jw,Jx,Jy,Jz,JA,JB,JC,JD,JE,JF,JG,JH,JI,JJ,JK,JL,JM,JN,JO,JP,stillI,IOp.kind,JQ,JR,JS,JT,JU,JV,JW,JX,JY,JZ,Y0,Y1,Y2,Y3,Y4,Y5,Y6,Y7,Y8,Y9,Ya,Yb,Yc,Yd,Ye,Yf,Yg,Yh,Yi,Yj,Yk,Yl,Ym,Yn,ial,Yo,Yp,Yq,Yr,Ys,Yt,Yu,Yv,ires,iresL,ires1,Yw,Yx,Yy,Yz,YA,YB,bin2,YC,YD,YE,YF,YG,YH,YI,YJ,YK,YL,YM,YN,YO,YP,YQ,YR,un1,shOk,eqL,eq1,fillL,putAt,IHeap.load1,IHeap.loadL,IHeap.storeL,YS,YT,YU,YV,YW,YX,YY,YZ,B0,B1,B2,B3,B4,B5,B6,B7,B8,B9,Ba,Bb,Bc,Bd,Be,Bf,Bg,Bh,Bi,Bj,Bk,Bl,Bm, hrv2, t4, t5, t7, g5, ← hH6]
            refine call_of (RAdd_ok c hR (s := nm) (ino := ino) (hsl.le k36) (by omega) hnl fun m H7 k7 sw7 bl7 => ?_)
            have n7 := k7.next
            have g7 := (k7.get H3.next (by omega)).trans g6
            have k07 := (hle.trans k36).trans k7
            cases bd2 with
            | true =>
              have hr2n : r2 = none := by cases r2 with | none => rfl | some _ => cases hb2
              have := hbad hr2n
              rw [this] at heq
              simp only at heq
              rw [heq] at hK0
              simp -implicitDefEqProofs [J0,J1,J2,J3,J4,J5,J6,J7,J8,J9,Ja,Jb,Jc,Jd,Je,Jf,Jg,Jh,Ji,Jj,Jk,Jl,Jm,Jn,Jo,Jp,Jq,Jr,Js,Jt,Ju,Jv,Jw,Jx,Jy,Jz,JA,JB,JC,JD,JE,JF,JG,JH,JI,JJ,JK,JL,JM,JN,JO,JP,stillI,IOp.kind,JQ,JR,JS,JT,JU,JV,JW,JX,JY,JZ,Y0,Y1,Y2,Y3,Y4,Y5,Y6,Y7,Y8,Y9,Ya,Yb,Yc,Yd,Ye,Yf,Yg,Yh,Yi,Yj,Yk,Yl,Ym,Yn,ial,Yo,Yp,Yq,Yr,Ys,Yt,Yu,Yv,ires,iresL,ires1,Yw,Yx,Yy,Yz,YA,YB,bin2,YC,YD,YE,YF,YG,YH,YI,YJ,YK,YL,YM,YN,YO,YP,YQ,YR,un1,shOk,eqL,eq1,fillL,putAt,IHeap.load1,IHeap.loadL,IHeap.storeL,YS,YT,YU,YV,YW,YX,YY,YZ,B0,B1,B2,B3,B4,B5,B6,B7,B8,B9,Ba,Bb,Bc,Bd,Be,Bf,Bg,Bh,Bi,Bj,Bk,Bl,Bm, t4, t5, t7, g7]
              exact hK0 (by simp) _ k07
            | false =>
              by_cases h0 : (addE L nm ino).2 = 0
              · have hfin : Op.bytesLess (lastE L) nm = true → RdJ N X (i + 1) m r (H7.set X (.cells [strV (rdS r2), .bool false] false)) := by
                  intro hlt
                  rw [if_pos ⟨hlt, h0⟩] at heq
                  simp only at heq
                  have hend := addE_end hso (.inr hlt) h0
                  obtain ⟨z1, z2, z3⟩ := addE_name h0
                  have hs7 := addE_sorted (s := nm) (ino := ino) hso
                  have hmX : ¬ inB m X := by
                    rcases bl7 with rfl | bl7
                    · exact hnX
                    · intro h; have := bl7.in h; have := k36.next; omega
                  refine ⟨r2, _, sw7.kept (Nat.le_refl _) fun y hy => by rw [YT, if_neg (fun e : y = X => hmX (e ▸ hy))], by rw [hend]; simp [hLi], hs7, ?_, by rw [rdC_eq, ← hb2, YT, if_pos rfl], by simp only [YV]; have := k36.next; omega, hrl2, hmX, heq⟩
                  rw [hend]
                  intro e he
                  rcases List.mem_append.1 he with he | he
                  · exact hok e he
                  · simp only [List.mem_singleton] at he; subst he; exact ⟨z1, z2, z3⟩
                have hgX7 := (k7.get X (by have := k36.next; omega)).trans hgX6
                have hset : H.le (H7.set X (.cells [strV (rdS r2), .bool false] false)) := k07.set hHX _
                cases i with
                | zero =>
                  have hL0 : L = [] := List.length_eq_zero_iff.1 hLi
                  have hlt : Op.bytesLess (lastE L) nm = true := by rw [hL0]; exact bl_nil (nameB_ne (addE_name h0).1)
                  have hh := hfin hlt
                  have hw1 : IntKind.i64.wrap 1 = 1 := by decide
                  simp -implicitDefEqProofs [J0,J1,J2,J3,J4,J5,J6,J7,J8,J9,Ja,Jb,Jc,Jd,Je,Jf,Jg,Jh,Ji,Jj,Jk,Jl,Jm,Jn,Jo,Jp,Jq,Jr,Js,Jt,Ju,Jv,Jw,Jx,Jy,Jz,JA,JB,JC,JD,JE,JF,JG,JH,JI,JJ,JK,JL,JM,JN,JO,JP,stillI,IOp.kind,JQ,JR,JS,JT,JU,JV,JW,JX,JY,JZ,Y0,Y1,Y2,Y3,Y4,Y5,Y6,Y7,Y8,Y9,Ya,Yb,Yc,Yd,Ye,Yf,Yg,Yh,Yi,Yj,Yk,Yl,Ym,Yn,ial,Yo,Yp,Yq,Yr,Ys,Yt,Yu,Yv,ires,iresL,ires1,Yw,Yx,Yy,Yz,YA,YB,bin2,YC,YD,YE,YF,YG,YH,YI,YJ,YK,YL,YM,YN,YO,YP,YQ,YR,un1,shOk,eqL,eq1,fillL,putAt,IHeap.load1,IHeap.loadL,IHeap.storeL,YS,YT,YU,YV,YW,YX,YY,YZ,B0,B1,B2,B3,B4,B5,B6,B7,B8,B9,Ba,Bb,Bc,Bd,Be,Bf,Bg,Bh,Bi,Bj,Bk,Bl,Bm, t4, t5, t7, g7, h0, hgX7, hw1]
                  exact ⟨N - 1, by omega, 1, by omega, rfl, (by first | rfl | simp), hset, hh⟩
                | succ j =>
                  obtain ⟨x, hx⟩ : ∃ x, L[j]? = some x := ⟨_, List.getElem?_eq_getElem (by omega)⟩
                  have hla := lastE_at hLi hx
                  obtain ⟨b, o, cp, cs, ro, e1, hb1, hget, _, hrow, hbd⟩ := hsl.1.at (i := j) (r := rowE x) (by simp [hx])
                  have q0 := row_get2 hrow 0 (by omega)
                  simp only [rowE, List.getElem?_cons_zero, Nat.add_zero, strV] at q0
                  rw [List.length_map, hLi] at e1
                  have hget7 := ((k36.trans k7).get b hb1).trans hget
                  have hwj : IntKind.i64.wrap (j : Int) = (j : Int) := wrap64 (by omega) (by omega)
                  have hw2 : IntKind.i64.wrap ((j : Int) + 1 + 1) = (j : Int) + 1 + 1 := wrap64 (by omega) (by omega)
                  have hj1 : (j : Int) < (j : Int) + 1 := by omega
                  have hj2 : (0 : Int) < (j : Int) + 1 := by omega
                  rw [hla] at hfin heq
                  cases hlt : Op.bytesLess x.nm nm with
                  | true =>
                    have hh := hfin hlt
                    rw [e1] at hsl
                    simp -implicitDefEqProofs [J0,J1,J2,J3,J4,J5,J6,J7,J8,J9,Ja,Jb,Jc,Jd,Je,Jf,Jg,Jh,Ji,Jj,Jk,Jl,Jm,Jn,Jo,Jp,Jq,Jr,Js,Jt,Ju,Jv,Jw,Jx,Jy,Jz,JA,JB,JC,JD,JE,JF,JG,JH,JI,JJ,JK,JL,JM,JN,JO,JP,stillI,IOp.kind,JQ,JR,JS,JT,JU,JV,JW,JX,JY,JZ,Y0,Y1,Y2,Y3,Y4,Y5,Y6,Y7,Y8,Y9,Ya,Yb,Yc,Yd,Ye,Yf,Yg,Yh,Yi,Yj,Yk,Yl,Ym,Yn,ial,Yo,Yp,Yq,Yr,Ys,Yt,Yu,Yv,ires,iresL,ires1,Yw,Yx,Yy,Yz,YA,YB,bin2,YC,YD,YE,YF,YG,YH,YI,YJ,YK,YL,YM,YN,YO,YP,YQ,YR,un1,shOk,eqL,eq1,fillL,putAt,IHeap.load1,IHeap.loadL,IHeap.storeL,YS,YT,YU,YV,YW,YX,YY,YZ,B0,B1,B2,B3,B4,B5,B6,B7,B8,B9,Ba,Bb,Bc,Bd,Be,Bf,Bg,Bh,Bi,Bj,Bk,Bl,Bm, t4, t5, t7, e1, g7, h0, hgX7, hwj, hj1, hj2, hget7, q0, strV, str2, hlt, hw2]
                    exact ⟨N - (j + 1 + 1), by omega, j + 1 + 1, by omega, rfl, by simp, hset, hh⟩
                  | false =>
                    rw [if_neg (by rw [hlt]; simp)] at heq
                    simp only at heq
                    rw [heq] at hK0
                    simp -implicitDefEqProofs [J0,J1,J2,J3,J4,J5,J6,J7,J8,J9,Ja,Jb,Jc,Jd,Je,Jf,Jg,Jh,Ji,Jj,Jk,Jl,Jm,Jn,Jo,Jp,Jq,Jr,Js,Jt,Ju,Jv,Jw,Jx,Jy,Jz,JA,JB,JC,JD,JE,JF,JG,JH,JI,JJ,JK,JL,JM,JN,JO,JP,stillI,IOp.kind,JQ,JR,JS,JT,JU,JV,JW,JX,JY,JZ,Y0,Y1,Y2,Y3,Y4,Y5,Y6,Y7,Y8,Y9,Ya,Yb,Yc,Yd,Ye,Yf,Yg,Yh,Yi,Yj,Yk,Yl,Ym,Yn,ial,Yo,Yp,Yq,Yr,Ys,Yt,Yu,Yv,ires,iresL,ires1,Yw,Yx,Yy,Yz,YA,YB,bin2,YC,YD,YE,YF,YG,YH,YI,YJ,YK,YL,YM,YN,YO,YP,YQ,YR,un1,shOk,eqL,eq1,fillL,putAt,IHeap.load1,IHeap.loadL,IHeap.storeL,YS,YT,YU,YV,YW,YX,YY,YZ,B0,B1,B2,B3,B4,B5,B6,B7,B8,B9,Ba,Bb,Bc,Bd,Be,Bf,Bg,Bh,Bi,Bj,Bk,Bl,Bm, t4, t5, t7, e1, g7, h0, hgX7, hwj, hj1, hj2, hget7, q0, strV, str2, hlt]
                    exact hK0 (by simp) _ k07
              · rw [if_neg (fun h => h0 h.2)] at heq
                simp only at heq
                rw [heq] at hK0
                simp -implicitDefEqProofs [J0,J1,J2,J3,J4,J5,J6,J7,J8,J9,Ja,Jb,Jc,Jd,Je,Jf,Jg,Jh,Ji,Jj,Jk,Jl,Jm,Jn,Jo,Jp,Jq,Jr,Js,Jt,Ju,Jv,Jw,Jx,Jy,Jz,JA,JB,JC,JD,JE,JF,JG,JH,JI,JJ,JK,JL,JM,JN,JO,JP,stillI,IOp.kind,JQ,JR,JS,JT,JU,JV,JW,JX,JY,JZ,Y0,Y1,Y2,Y3,Y4,Y5,Y6,Y7,Y8,Y9,Ya,Yb,Yc,Yd,Ye,Yf,Yg,Yh,Yi,Yj,Yk,Yl,Ym,Yn,ial,Yo,Yp,Yq,Yr,Ys,Yt,Yu,Yv,ires,iresL,ires1,Yw,Yx,Yy,Yz,YA,YB,bin2,YC,YD,YE,YF,YG,YH,YI,YJ,YK,YL,YM,YN,YO,YP,YQ,YR,un1,shOk,eqL,eq1,fillL,putAt,IHeap.load1,IHeap.loadL,IHeap.storeL,YS,YT,YU,YV,YW,YX,YY,YZ,B0,B1,B2,B3,B4,B5,B6,B7,B8,B9,Ba,Bb,Bc,Bd,Be,Bf,Bg,Bh,Bi,Bj,Bk,Bl,Bm, t4, t5, t7, g7, h0]
                exact hK0 (by simp) _ k07
          · have hil' : ¬ (i : Int) < (N : Int) := by omega
            rw [show N - i = 0 by omega, readN] at heq
            rw [heq] at hK0 hK1
            rw [rdC_eq] at hg
            simp -implicitDefEqProofs [J0,J1,J2,J3,J4,J5,J6,J7,J8,J9,Ja,Jb,Jc,Jd,Je,Jf,Jg,Jh,Ji,Jj,Jk,Jl,Jm,Jn,Jo,Jp,Jq,Jr,Js,Jt,Ju,Jv,Jw,Jx,Jy,Jz,JA,JB,JC,JD,JE,JF,JG,JH,JI,JJ,JK,JL,JM,JN,JO,JP,stillI,IOp.kind,JQ,JR,JS,JT,JU,JV,JW,JX,JY,JZ,Y0,Y1,Y2,Y3,Y4,Y5,Y6,Y7,Y8,Y9,Ya,Yb,Yc,Yd,Ye,Yf,Yg,Yh,Yi,Yj,Yk,Yl,Ym,Yn,ial,Yo,Yp,Yq,Yr,Ys,Yt,Yu,Yv,ires,iresL,ires1,Yw,Yx,Yy,Yz,YA,YB,bin2,YC,YD,YE,YF,YG,YH,YI,YJ,YK,YL,YM,YN,YO,YP,YQ,YR,un1,shOk,eqL,eq1,fillL,putAt,IHeap.load1,IHeap.loadL,IHeap.storeL,YS,YT,YU,YV,YW,YX,YY,YZ,B0,B1,B2,B3,B4,B5,B6,B7,B8,B9,Ba,Bb,Bc,Bd,Be,Bf,Bg,Bh,Bi,Bj,Bk,Bl,Bm, t4, t5, t7, hil, hil', hg]
            refine call_of (refEnd_ok c h3 (r := r') fun H8 k8 => ?_)
            by_cases he : rdE r' = 0
            · simp only [he, if_true] at hK1
              simp -implicitDefEqProofs [J0,J1,J2,J3,J4,J5,J6,J7,J8,J9,Ja,Jb,Jc,Jd,Je,Jf,Jg,Jh,Ji,Jj,Jk,Jl,Jm,Jn,Jo,Jp,Jq,Jr,Js,Jt,Ju,Jv,Jw,Jx,Jy,Jz,JA,JB,JC,JD,JE,JF,JG,JH,JI,JJ,JK,JL,JM,JN,JO,JP,stillI,IOp.kind,JQ,JR,JS,JT,JU,JV,JW,JX,JY,JZ,Y0,Y1,Y2,Y3,Y4,Y5,Y6,Y7,Y8,Y9,Ya,Yb,Yc,Yd,Ye,Yf,Yg,Yh,Yi,Yj,Yk,Yl,Ym,Yn,ial,Yo,Yp,Yq,Yr,Ys,Yt,Yu,Yv,ires,iresL,ires1,Yw,Yx,Yy,Yz,YA,YB,bin2,YC,YD,YE,YF,YG,YH,YI,YJ,YK,YL,YM,YN,YO,YP,YQ,YR,un1,shOk,eqL,eq1,fillL,putAt,IHeap.load1,IHeap.loadL,IHeap.storeL,YS,YT,YU,YV,YW,YX,YY,YZ,B0,B1,B2,B3,B4,B5,B6,B7,B8,B9,Ba,Bb,Bc,Bd,Be,Bf,Bg,Bh,Bi,Bj,Bk,Bl,Bm, he]
              exact hK1 L _ _ rfl (hle.trans k8) (by omega) (hsl.le k8)
            · simp only [he, if_false] at hK0
              simp -implicitDefEqProofs [J0,J1,J2,J3,J4,J5,J6,J7,J8,J9,Ja,Jb,Jc,Jd,Je,Jf,Jg,Jh,Ji,Jj,Jk,Jl,Jm,Jn,Jo,Jp,Jq,Jr,Js,Jt,Ju,Jv,Jw,Jx,Jy,Jz,JA,JB,JC,JD,JE,JF,JG,JH,JI,JJ,JK,JL,JM,JN,JO,JP,stillI,IOp.kind,JQ,JR,JS,JT,JU,JV,JW,JX,JY,JZ,Y0,Y1,Y2,Y3,Y4,Y5,Y6,Y7,Y8,Y9,Ya,Yb,Yc,Yd,Ye,Yf,Yg,Yh,Yi,Yj,Yk,Yl,Ym,Yn,ial,Yo,Yp,Yq,Yr,Ys,Yt,Yu,Yv,ires,iresL,ires1,Yw,Yx,Yy,Yz,YA,YB,bin2,YC,YD,YE,YF,YG,YH,YI,YJ,YK,YL,YM,YN,YO,YP,YQ,YR,un1,shOk,eqL,eq1,fillL,putAt,IHeap.load1,IHeap.loadL,IHeap.storeL,YS,YT,YU,YV,YW,YX,YY,YZ,B0,B1,B2,B3,B4,B5,B6,B7,B8,B9,Ba,Bb,Bc,Bd,Be,Bf,Bg,Bh,Bi,Bj,Bk,Bl,Bm, he]
              exact hK0 (by simp) _ (hle.trans k8)

end
end Go.Proofs.YtfegliplajdgmaaI
