/- Directories: what bytes tell. -/
import Derived.Test.YtfegliplajdgmaaDirE
namespace Go.Proofs.YtfegliplajdgmaaI
set_option linter.unusedSimpArgs false
set_option linter.unusedVariables false
open Go

def lastE (L : List EntD) : List UInt8 := match L.getLast? with | some e => e.nm | none => []
def stepE (st : Rd × List EntD) : Option (Rd × List EntD) :=
  if Op.bytesLess (lastE st.2) (takeText st.1).2 = true ∧ (addE st.2 (takeText st.1).2 (takeInt (takeText st.1).1).2).2 = 0 then
    some ((takeInt (takeText st.1).1).1, (addE st.2 (takeText st.1).2 (takeInt (takeText st.1).1).2).1) else none
def readN : Nat → Rd × List EntD → Option (Rd × List EntD)
  | 0, st => some st
  | k + 1, st => match stepE st with | some st' => readN k st' | none => none
def readE (s : List UInt8) : Option (List EntD) :=
  if (takeInt (some s)).2 < 0 ∨ ((rdS (takeInt (some s)).1).length : Int) < (takeInt (some s)).2 then none
  else match readN (takeInt (some s)).2.toNat ((takeInt (some s)).1, []) with
    | some (r, L) => if rdE r = 0 then some L else none
    | none => none
theorem takeN_none {n : Int} {r : Rd} (h : (takeN n r).1 = none) : (takeN n r).2.1 = [] := by
  unfold takeN at h ⊢
  split at h
  · rfl
  · split at h
    · rename_i hc; rw [if_pos hc]
    · cases h
theorem takeText_none {r : Rd} (h : (takeText r).1 = none) : (takeText r).2 = [] := takeN_none h
theorem takeInt_none {r : Rd} (h : (takeInt r).1 = none) : (takeInt r).2 = 0 := by
  unfold takeInt at h ⊢
  split at h
  · rfl
  · split at h
    · cases h
    · rfl
theorem takeInt_shr (r : Rd) : (rdS (takeInt r).1).length ≤ (rdS r).length := by
  unfold takeInt
  repeat' split
  all_goals simp [rdS]
theorem takeText_len (r : Rd) : (takeText r).2.length ≤ (rdS r).length := by
  have h := takeInt_shr r
  unfold takeText takeN
  repeat' split
  all_goals simp_all [rdS]
  all_goals omega
theorem stepE_bad {r : Rd} {L : List EntD} (h : (takeInt (takeText r).1).1 = none) : stepE (r, L) = none := by
  unfold stepE
  rw [if_neg]
  rintro ⟨h1, h2⟩
  simp only at h1 h2
  cases ht : (takeText r).1 with
  | none =>
    rw [takeText_none ht] at h1
    cases hl : lastE L <;> rw [hl] at h1 <;> cases h1
  | some t =>
    rw [takeInt_none h] at h2
    unfold addE at h2
    rw [if_pos (.inl (by omega))] at h2
    cases h2
/-- A name behind all: it stands at the end. -/
theorem posE_end {L : List EntD} {s : List UInt8} (hs : SortedE L) (h : L = [] ∨ Op.bytesLess (lastE L) s = true) : posE s L = L.length := by
  rcases h with rfl | h
  · rfl
  · refine Nat.le_antisymm (posE_le _ _) (Nat.le_of_not_lt fun hlt => ?_)
    have h0 := posE_at (List.getElem?_eq_getElem hlt)
    have hne : L ≠ [] := by rintro rfl; simp at hlt
    have hl : L.getLast? = some (L.getLast hne) := List.getLast?_eq_some_getLast hne
    unfold lastE at h
    rw [hl] at h
    simp only at h
    rw [List.getLast_eq_getElem] at h
    by_cases e : posE s L = L.length - 1
    · simp only [e] at h0; rw [h] at h0; cases h0
    · have := List.pairwise_iff_getElem.1 hs (posE s L) (L.length - 1) hlt (by omega) (by omega)
      rw [bl_trans this h] at h0; cases h0
theorem addE_end {L : List EntD} {s : List UInt8} {ino : Int} (hs : SortedE L) (h : L = [] ∨ Op.bytesLess (lastE L) s = true) (h0 : (addE L s ino).2 = 0) : (addE L s ino).1 = L ++ [⟨s, ino⟩] := by
  unfold addE at h0 ⊢
  split at h0
  · cases h0
  · rename_i h1
    rw [if_neg h1]
    split at h0
    · cases h0
    · rename_i h2
      rw [if_neg h2]
      split at h0
      · cases h0
      · rename_i h3
        rw [if_neg h3, posE_end hs h]
        simp
theorem lastE_snoc (L : List EntD) (e : EntD) : lastE (L ++ [e]) = e.nm := by simp [lastE]
theorem bl_nil {s : List UInt8} (h : s ≠ []) : Op.bytesLess [] s = true := by cases s with | nil => exact absurd rfl h | cons => rfl
theorem addE_name {L : List EntD} {s : List UInt8} {ino : Int} (h0 : (addE L s ino).2 = 0) : nameB s = true ∧ 1 ≤ ino ∧ ino < 256 := by
  unfold addE at h0
  split at h0
  · cases h0
  · rename_i h1
    split at h0
    · cases h0
    · rename_i h2
      exact ⟨by simpa using h2, by omega, by omega⟩
theorem nameB_ne {s : List UInt8} (h : nameB s = true) : s ≠ [] := by
  simp only [nameB, decide_eq_true_eq] at h
  exact h.1

/-- Reading, under way. -/
def RdI (N w p i : Nat) (v : Value) (r0 : Rd) (H' : IHeap) : Prop := ∃ (q : Nat) (r' : Rd) (L : List EntD), v = strV (lastE L) ∧ L.length = i ∧ p < q ∧ IsR H' w r' ∧ IsD H' p q L ∧ (∀ e ∈ L, okE e) ∧ readN N (r0, []) = readN (N - i) (r', L)

section
variable (c : Ctx) (hc : HasDirs c) (hC : HasCodec c) (hX : IdxOk c) (hI : InsOk2 c) {H : IHeap} {K : Value → IHeap → Prop}

theorem takeInt_dle {r : Rd} (h : (rdS r).length ≤ 1000000) : (rdS (takeInt r).1).length ≤ 1000000 := by
  unfold takeInt
  repeat' split
  all_goals simp_all [rdS]
  all_goals omega

include hc hC hX hI in
theorem DRead_ok {s : List UInt8} (hs : s.length ≤ 1000000)
    (hK0 : readE s = none → ∀ H', H.le H' → K (.tuple #[.pointer none, .int .i64 3]) H')
    (hK1 : ∀ L p q H', readE s = some L → H.le H' → H.next ≤ p → H.next ≤ q → L.length ≤ s.length → (∀ e ∈ L, okE e) → IsD H' p q L → K (.tuple #[.pointer (some ⟨p, 0, none⟩), .int .i64 0]) H') :
    c.C (c.F n_dirs_Read) [strV s] H K := by
  refine c.enter hc.dirs_Read rfl ?_
  simp -implicitDefEqProofs [J0,J1,J2,J3,J4,J5,J6,J7,J8,J9,Ja,Jb,Jc,Jd,Je,Jf,Jg,Jh,Ji,Jj,Jk,Jl,Jm,Jn,Jo,Jp,Jq,Jr,Js,Jt,Ju,Jv,Jw,Jx,Jy,Jz,JA,JB,JC,JD,JE,JF,JG,JH,JI,JJ,JK,JL,JM,JN,JO,JP,stillI,IOp.kind,JQ,JR,JS,JT,JU,JV,JW,JX,JY,JZ,Y0,Y1,Y2,Y3,Y4,Y5,Y6,Y7,Y8,Y9,Ya,Yb,Yc,Yd,Ye,Yf,Yg,Yh,Yi,Yj,Yk,Yl,Ym,Yn,ial,Yo,Yp,Yq,Yr,Ys,Yt,Yu,Yv,ires,iresL,ires1,Yw,Yx,Yy,Yz,YA,YB,bin2,YC,YD,YE,YF,YG,YH,YI,YJ,YK,YL,YM,YN,YO,YP,YQ,YR,un1,shOk,eqL,eq1,fillL,putAt,IHeap.load1,IHeap.loadL,IHeap.storeL,YS,YT,YU,YV,YW,YX,YY,YZ,B0,B1,B2,B3,B4,B5,B6,B7,B8,B9,Ba,Bb,Bc,Bd,Be,Bf,Bg,Bh,Bi,Bj,Bk,Bl,Bm, c_dirs_Read]
  refine call_of (NewReader_ok c hC hs fun w H1 p1 k1 r1 => ?_)
  simp -implicitDefEqProofs [J0,J1,J2,J3,J4,J5,J6,J7,J8,J9,Ja,Jb,Jc,Jd,Je,Jf,Jg,Jh,Ji,Jj,Jk,Jl,Jm,Jn,Jo,Jp,Jq,Jr,Js,Jt,Ju,Jv,Jw,Jx,Jy,Jz,JA,JB,JC,JD,JE,JF,JG,JH,JI,JJ,JK,JL,JM,JN,JO,JP,stillI,IOp.kind,JQ,JR,JS,JT,JU,JV,JW,JX,JY,JZ,Y0,Y1,Y2,Y3,Y4,Y5,Y6,Y7,Y8,Y9,Ya,Yb,Yc,Yd,Ye,Yf,Yg,Yh,Yi,Yj,Yk,Yl,Ym,Yn,ial,Yo,Yp,Yq,Yr,Ys,Yt,Yu,Yv,ires,iresL,ires1,Yw,Yx,Yy,Yz,YA,YB,bin2,YC,YD,YE,YF,YG,YH,YI,YJ,YK,YL,YM,YN,YO,YP,YQ,YR,un1,shOk,eqL,eq1,fillL,putAt,IHeap.load1,IHeap.loadL,IHeap.storeL,YS,YT,YU,YV,YW,YX,YY,YZ,B0,B1,B2,B3,B4,B5,B6,B7,B8,B9,Ba,Bb,Bc,Bd,Be,Bf,Bg,Bh,Bi,Bj,Bk,Bl,Bm]
  refine call_of (DNew_ok c hc fun H2 k2 d2 => ?_)
  have r2 := r1.le k2
  have hwp : w < H1.next := r1.1
  obtain ⟨p, hp⟩ : ∃ p, p = H1.next := ⟨_, rfl⟩
  rw [← hp] at d2 hwp ⊢
  have d2 := d2 (p + 1) (by omega)
  simp -implicitDefEqProofs [J0,J1,J2,J3,J4,J5,J6,J7,J8,J9,Ja,Jb,Jc,Jd,Je,Jf,Jg,Jh,Ji,Jj,Jk,Jl,Jm,Jn,Jo,Jp,Jq,Jr,Js,Jt,Ju,Jv,Jw,Jx,Jy,Jz,JA,JB,JC,JD,JE,JF,JG,JH,JI,JJ,JK,JL,JM,JN,JO,JP,stillI,IOp.kind,JQ,JR,JS,JT,JU,JV,JW,JX,JY,JZ,Y0,Y1,Y2,Y3,Y4,Y5,Y6,Y7,Y8,Y9,Ya,Yb,Yc,Yd,Ye,Yf,Yg,Yh,Yi,Yj,Yk,Yl,Ym,Yn,ial,Yo,Yp,Yq,Yr,Ys,Yt,Yu,Yv,ires,iresL,ires1,Yw,Yx,Yy,Yz,YA,YB,bin2,YC,YD,YE,YF,YG,YH,YI,YJ,YK,YL,YM,YN,YO,YP,YQ,YR,un1,shOk,eqL,eq1,fillL,putAt,IHeap.load1,IHeap.loadL,IHeap.storeL,YS,YT,YU,YV,YW,YX,YY,YZ,B0,B1,B2,B3,B4,B5,B6,B7,B8,B9,Ba,Bb,Bc,Bd,Be,Bf,Bg,Bh,Bi,Bj,Bk,Bl,Bm]
  refine call_of (RInt_ok c hC r2 fun H3 u3 r3 => ?_)
  have d3 := d2.upd u3 (by simp; omega) (by simp; omega)
  have k03 : H.le H3 := (k1.trans k2).updLe u3 (by simpa using p1)
  unfold readE at hK0 hK1
  have hnr := takeInt_dle (r := some s) hs
  have hnr2 : (rdS (takeInt (some s)).1).length ≤ s.length := by
    unfold takeInt
    repeat' split
    all_goals simp_all [rdS]
    all_goals omega
  rcases htt : takeInt (some s) with ⟨r, n⟩
  rw [htt] at hK0 hK1 r3 hnr hnr2
  simp only at hK0 hK1 r3 hnr hnr2 ⊢
  by_cases hn : n < 0
  · rw [if_pos (.inl hn)] at hK0
    simp -implicitDefEqProofs [J0,J1,J2,J3,J4,J5,J6,J7,J8,J9,Ja,Jb,Jc,Jd,Je,Jf,Jg,Jh,Ji,Jj,Jk,Jl,Jm,Jn,Jo,Jp,Jq,Jr,Js,Jt,Ju,Jv,Jw,Jx,Jy,Jz,JA,JB,JC,JD,JE,JF,JG,JH,JI,JJ,JK,JL,JM,JN,JO,JP,stillI,IOp.kind,JQ,JR,JS,JT,JU,JV,JW,JX,JY,JZ,Y0,Y1,Y2,Y3,Y4,Y5,Y6,Y7,Y8,Y9,Ya,Yb,Yc,Yd,Ye,Yf,Yg,Yh,Yi,Yj,Yk,Yl,Ym,Yn,ial,Yo,Yp,Yq,Yr,Ys,Yt,Yu,Yv,ires,iresL,ires1,Yw,Yx,Yy,Yz,YA,YB,bin2,YC,YD,YE,YF,YG,YH,YI,YJ,YK,YL,YM,YN,YO,YP,YQ,YR,un1,shOk,eqL,eq1,fillL,putAt,IHeap.load1,IHeap.loadL,IHeap.storeL,YS,YT,YU,YV,YW,YX,YY,YZ,B0,B1,B2,B3,B4,B5,B6,B7,B8,B9,Ba,Bb,Bc,Bd,Be,Bf,Bg,Bh,Bi,Bj,Bk,Bl,Bm, hn]
    exact hK0 rfl _ k03
  · simp -implicitDefEqProofs [J0,J1,J2,J3,J4,J5,J6,J7,J8,J9,Ja,Jb,Jc,Jd,Je,Jf,Jg,Jh,Ji,Jj,Jk,Jl,Jm,Jn,Jo,Jp,Jq,Jr,Js,Jt,Ju,Jv,Jw,Jx,Jy,Jz,JA,JB,JC,JD,JE,JF,JG,JH,JI,JJ,JK,JL,JM,JN,JO,JP,stillI,IOp.kind,JQ,JR,JS,JT,JU,JV,JW,JX,JY,JZ,Y0,Y1,Y2,Y3,Y4,Y5,Y6,Y7,Y8,Y9,Ya,Yb,Yc,Yd,Ye,Yf,Yg,Yh,Yi,Yj,Yk,Yl,Ym,Yn,ial,Yo,Yp,Yq,Yr,Ys,Yt,Yu,Yv,ires,iresL,ires1,Yw,Yx,Yy,Yz,YA,YB,bin2,YC,YD,YE,YF,YG,YH,YI,YJ,YK,YL,YM,YN,YO,YP,YQ,YR,un1,shOk,eqL,eq1,fillL,putAt,IHeap.load1,IHeap.loadL,IHeap.storeL,YS,YT,YU,YV,YW,YX,YY,YZ,B0,B1,B2,B3,B4,B5,B6,B7,B8,B9,Ba,Bb,Bc,Bd,Be,Bf,Bg,Bh,Bi,Bj,Bk,Bl,Bm, hn]
    refine call_of (RLeft_ok c hC r3 ?_)
    by_cases hn2 : ((rdS r).length : Int) < n
    · rw [if_pos (.inr hn2)] at hK0
      simp -implicitDefEqProofs [J0,J1,J2,J3,J4,J5,J6,J7,J8,J9,Ja,Jb,Jc,Jd,Je,Jf,Jg,Jh,Ji,Jj,Jk,Jl,Jm,Jn,Jo,Jp,Jq,Jr,Js,Jt,Ju,Jv,Jw,Jx,Jy,Jz,JA,JB,JC,JD,JE,JF,JG,JH,JI,JJ,JK,JL,JM,JN,JO,JP,stillI,IOp.kind,JQ,JR,JS,JT,JU,JV,JW,JX,JY,JZ,Y0,Y1,Y2,Y3,Y4,Y5,Y6,Y7,Y8,Y9,Ya,Yb,Yc,Yd,Ye,Yf,Yg,Yh,Yi,Yj,Yk,Yl,Ym,Yn,ial,Yo,Yp,Yq,Yr,Ys,Yt,Yu,Yv,ires,iresL,ires1,Yw,Yx,Yy,Yz,YA,YB,bin2,YC,YD,YE,YF,YG,YH,YI,YJ,YK,YL,YM,YN,YO,YP,YQ,YR,un1,shOk,eqL,eq1,fillL,putAt,IHeap.load1,IHeap.loadL,IHeap.storeL,YS,YT,YU,YV,YW,YX,YY,YZ,B0,B1,B2,B3,B4,B5,B6,B7,B8,B9,Ba,Bb,Bc,Bd,Be,Bf,Bg,Bh,Bi,Bj,Bk,Bl,Bm, hn2]
      exact hK0 rfl _ k03
    · rw [if_neg (by omega)] at hK0
      rw [if_neg (by omega)] at hK1
      obtain ⟨N, hN⟩ : ∃ N : Nat, n = N := ⟨n.toNat, by omega⟩
      subst hN
      simp only [Int.toNat_natCast] at hK0 hK1
      simp -implicitDefEqProofs [J0,J1,J2,J3,J4,J5,J6,J7,J8,J9,Ja,Jb,Jc,Jd,Je,Jf,Jg,Jh,Ji,Jj,Jk,Jl,Jm,Jn,Jo,Jp,Jq,Jr,Js,Jt,Ju,Jv,Jw,Jx,Jy,Jz,JA,JB,JC,JD,JE,JF,JG,JH,JI,JJ,JK,JL,JM,JN,JO,JP,stillI,IOp.kind,JQ,JR,JS,JT,JU,JV,JW,JX,JY,JZ,Y0,Y1,Y2,Y3,Y4,Y5,Y6,Y7,Y8,Y9,Ya,Yb,Yc,Yd,Ye,Yf,Yg,Yh,Yi,Yj,Yk,Yl,Ym,Yn,ial,Yo,Yp,Yq,Yr,Ys,Yt,Yu,Yv,ires,iresL,ires1,Yw,Yx,Yy,Yz,YA,YB,bin2,YC,YD,YE,YF,YG,YH,YI,YJ,YK,YL,YM,YN,YO,YP,YQ,YR,un1,shOk,eqL,eq1,fillL,putAt,IHeap.load1,IHeap.loadL,IHeap.storeL,YS,YT,YU,YV,YW,YX,YY,YZ,B0,B1,B2,B3,B4,B5,B6,B7,B8,B9,Ba,Bb,Bc,Bd,Be,Bf,Bg,Bh,Bi,Bj,Bk,Bl,Bm, hn2]
      have hNl : N ≤ s.length := by omega
      refine loop_nat c.mono (fun k T H' => ∃ i : Nat, i ≤ N ∧ k = N - i ∧ T 4 = .pointer (some ⟨w, 0, none⟩) ∧ T 5 = .pointer (some ⟨p, 0, none⟩) ∧ T 23 = .int .i64 N ∧ T 24 = .int .i64 i ∧ H.le H' ∧ RdI N w p i (T 7) r H') N ?_ ?_
      · refine ⟨0, by omega, rfl, ?_⟩
        simp -implicitDefEqProofs [J0,J1,J2,J3,J4,J5,J6,J7,J8,J9,Ja,Jb,Jc,Jd,Je,Jf,Jg,Jh,Ji,Jj,Jk,Jl,Jm,Jn,Jo,Jp,Jq,Jr,Js,Jt,Ju,Jv,Jw,Jx,Jy,Jz,JA,JB,JC,JD,JE,JF,JG,JH,JI,JJ,JK,JL,JM,JN,JO,JP,stillI,IOp.kind,JQ,JR,JS,JT,JU,JV,JW,JX,JY,JZ,Y0,Y1,Y2,Y3,Y4,Y5,Y6,Y7,Y8,Y9,Ya,Yb,Yc,Yd,Ye,Yf,Yg,Yh,Yi,Yj,Yk,Yl,Ym,Yn,ial,Yo,Yp,Yq,Yr,Ys,Yt,Yu,Yv,ires,iresL,ires1,Yw,Yx,Yy,Yz,YA,YB,bin2,YC,YD,YE,YF,YG,YH,YI,YJ,YK,YL,YM,YN,YO,YP,YQ,YR,un1,shOk,eqL,eq1,fillL,putAt,IHeap.load1,IHeap.loadL,IHeap.storeL,YS,YT,YU,YV,YW,YX,YY,YZ,B0,B1,B2,B3,B4,B5,B6,B7,B8,B9,Ba,Bb,Bc,Bd,Be,Bf,Bg,Bh,Bi,Bj,Bk,Bl,Bm]
        exact ⟨k03, p + 1, r, [], rfl, rfl, by omega, r3, d3, by simp, rfl⟩
      · rintro k T H' ⟨i, hi, rfl, t4, t5, t23, t24, hle, q, r', L, t7, hLi, hpq, hr, hd, hok, heq⟩
        by_cases hil : i < N
        · have hil' : (i : Int) < (N : Int) := by omega
          have hw : IntKind.i64.wrap ((i : Int) + 1) = (i : Int) + 1 := wrap64 (by omega) (by omega)
          rw [show N - i = N - (i + 1) + 1 by omega, readN] at heq
          have hbad := fun h => stepE_bad (r := r') (L := L) h
          simp -implicitDefEqProofs [J0,J1,J2,J3,J4,J5,J6,J7,J8,J9,Ja,Jb,Jc,Jd,Je,Jf,Jg,Jh,Ji,Jj,Jk,Jl,Jm,Jn,Jo,Jp,Jq,Jr,Js,Jt,Ju,Jv,Jw,Jx,Jy,Jz,JA,JB,JC,JD,JE,JF,JG,JH,JI,JJ,JK,JL,JM,JN,JO,JP,stillI,IOp.kind,JQ,JR,JS,JT,JU,JV,JW,JX,JY,JZ,Y0,Y1,Y2,Y3,Y4,Y5,Y6,Y7,Y8,Y9,Ya,Yb,Yc,Yd,Ye,Yf,Yg,Yh,Yi,Yj,Yk,Yl,Ym,Yn,ial,Yo,Yp,Yq,Yr,Ys,Yt,Yu,Yv,ires,iresL,ires1,Yw,Yx,Yy,Yz,YA,YB,bin2,YC,YD,YE,YF,YG,YH,YI,YJ,YK,YL,YM,YN,YO,YP,YQ,YR,un1,shOk,eqL,eq1,fillL,putAt,IHeap.load1,IHeap.loadL,IHeap.storeL,YS,YT,YU,YV,YW,YX,YY,YZ,B0,B1,B2,B3,B4,B5,B6,B7,B8,B9,Ba,Bb,Bc,Bd,Be,Bf,Bg,Bh,Bi,Bj,Bk,Bl,Bm, t4, t5, t7, t23, t24, hil, hil']
          refine call_of (RText_ok c hC hr fun H4 u4 r4 => ?_)
          simp -implicitDefEqProofs [J0,J1,J2,J3,J4,J5,J6,J7,J8,J9,Ja,Jb,Jc,Jd,Je,Jf,Jg,Jh,Ji,Jj,Jk,Jl,Jm,Jn,Jo,Jp,Jq,Jr,Js,Jt,Ju,Jv,Jw,Jx,Jy,Jz,JA,JB,JC,JD,JE,JF,JG,JH,JI,JJ,JK,JL,JM,JN,JO,JP,stillI,IOp.kind,JQ,JR,JS,JT,JU,JV,JW,JX,JY,JZ,Y0,Y1,Y2,Y3,Y4,Y5,Y6,Y7,Y8,Y9,Ya,Yb,Yc,Yd,Ye,Yf,Yg,Yh,Yi,Yj,Yk,Yl,Ym,Yn,ial,Yo,Yp,Yq,Yr,Ys,Yt,Yu,Yv,ires,iresL,ires1,Yw,Yx,Yy,Yz,YA,YB,bin2,YC,YD,YE,YF,YG,YH,YI,YJ,YK,YL,YM,YN,YO,YP,YQ,YR,un1,shOk,eqL,eq1,fillL,putAt,IHeap.load1,IHeap.loadL,IHeap.storeL,YS,YT,YU,YV,YW,YX,YY,YZ,B0,B1,B2,B3,B4,B5,B6,B7,B8,B9,Ba,Bb,Bc,Bd,Be,Bf,Bg,Bh,Bi,Bj,Bk,Bl,Bm, t4, t5, t7, t23, t24]
          refine call_of (RInt_ok c hC r4 fun H5 u5 r5 => ?_)
          have d5 := (hd.upd u4 (by simp; omega) (by simp; omega)).upd u5 (by simp; omega) (by simp; omega)
          have k05 : H.le H5 := (hle.updLe u4 (by simpa using p1)).updLe u5 (by simpa using p1)
          have hnl : (takeText r').2.length ≤ 1000000 := Nat.le_trans (takeText_len r') hr.2.1
          unfold stepE at heq
          simp only at heq
          obtain ⟨nm, hnm⟩ : ∃ nm, nm = (takeText r').2 := ⟨_, rfl⟩
          obtain ⟨ino, hino⟩ : ∃ ino, ino = (takeInt (takeText r').1).2 := ⟨_, rfl⟩
          obtain ⟨r6, hr6⟩ : ∃ r6, r6 = (takeInt (takeText r').1).1 := ⟨_, rfl⟩
          rw [← hnm] at heq hnl ⊢
          rw [← hino] at heq ⊢
          rw [← hr6] at heq r5
          cases hlt : Op.bytesLess (lastE L) nm with
          | false =>
            rw [if_neg (by rw [hlt]; simp)] at heq
            simp only at heq
            rw [heq] at hK0
            have hle2 : (Op.bytesLess nm (lastE L) || decide (nm = lastE L)) = true := by
              rcases bl_total nm (lastE L) with h | h | h
              · rw [h]; rfl
              · rw [decide_eq_true h]; simp
              · rw [h] at hlt; cases hlt
            obtain ⟨la, hla⟩ : ∃ la, la = lastE L := ⟨_, rfl⟩
            rw [← hla] at hle2 t7
            rcases Bool.or_eq_true_iff.1 hle2 with h | h
            · simp -implicitDefEqProofs [J0,J1,J2,J3,J4,J5,J6,J7,J8,J9,Ja,Jb,Jc,Jd,Je,Jf,Jg,Jh,Ji,Jj,Jk,Jl,Jm,Jn,Jo,Jp,Jq,Jr,Js,Jt,Ju,Jv,Jw,Jx,Jy,Jz,JA,JB,JC,JD,JE,JF,JG,JH,JI,JJ,JK,JL,JM,JN,JO,JP,stillI,IOp.kind,JQ,JR,JS,JT,JU,JV,JW,JX,JY,JZ,Y0,Y1,Y2,Y3,Y4,Y5,Y6,Y7,Y8,Y9,Ya,Yb,Yc,Yd,Ye,Yf,Yg,Yh,Yi,Yj,Yk,Yl,Ym,Yn,ial,Yo,Yp,Yq,Yr,Ys,Yt,Yu,Yv,ires,iresL,ires1,Yw,Yx,Yy,Yz,YA,YB,bin2,YC,YD,YE,YF,YG,YH,YI,YJ,YK,YL,YM,YN,YO,YP,YQ,YR,un1,shOk,eqL,eq1,fillL,putAt,IHeap.load1,IHeap.loadL,IHeap.storeL,YS,YT,YU,YV,YW,YX,YY,YZ,B0,B1,B2,B3,B4,B5,B6,B7,B8,B9,Ba,Bb,Bc,Bd,Be,Bf,Bg,Bh,Bi,Bj,Bk,Bl,Bm, t4, t5, t7, t23, t24, strV, str2, h]
              exact hK0 (by simp) _ k05
            · simp only [decide_eq_true_eq] at h
              simp -implicitDefEqProofs [J0,J1,J2,J3,J4,J5,J6,J7,J8,J9,Ja,Jb,Jc,Jd,Je,Jf,Jg,Jh,Ji,Jj,Jk,Jl,Jm,Jn,Jo,Jp,Jq,Jr,Js,Jt,Ju,Jv,Jw,Jx,Jy,Jz,JA,JB,JC,JD,JE,JF,JG,JH,JI,JJ,JK,JL,JM,JN,JO,JP,stillI,IOp.kind,JQ,JR,JS,JT,JU,JV,JW,JX,JY,JZ,Y0,Y1,Y2,Y3,Y4,Y5,Y6,Y7,Y8,Y9,Ya,Yb,Yc,Yd,Ye,Yf,Yg,Yh,Yi,Yj,Yk,Yl,Ym,Yn,ial,Yo,Yp,Yq,Yr,Ys,Yt,Yu,Yv,ires,iresL,ires1,Yw,Yx,Yy,Yz,YA,YB,bin2,YC,YD,YE,YF,YG,YH,YI,YJ,YK,YL,YM,YN,YO,YP,YQ,YR,un1,shOk,eqL,eq1,fillL,putAt,IHeap.load1,IHeap.loadL,IHeap.storeL,YS,YT,YU,YV,YW,YX,YY,YZ,B0,B1,B2,B3,B4,B5,B6,B7,B8,B9,Ba,Bb,Bc,Bd,Be,Bf,Bg,Bh,Bi,Bj,Bk,Bl,Bm, t4, t5, t7, t23, t24, strV, str2, h]
              exact hK0 (by simp) _ k05
          | true =>
            have hle2 : Op.bytesLess nm (lastE L) = false := bl_asymm hlt
            have hle3 : ¬ nm = lastE L := fun e => bl_ne hlt e.symm
            simp -implicitDefEqProofs [J0,J1,J2,J3,J4,J5,J6,J7,J8,J9,Ja,Jb,Jc,Jd,Je,Jf,Jg,Jh,Ji,Jj,Jk,Jl,Jm,Jn,Jo,Jp,Jq,Jr,Js,Jt,Ju,Jv,Jw,Jx,Jy,Jz,JA,JB,JC,JD,JE,JF,JG,JH,JI,JJ,JK,JL,JM,JN,JO,JP,stillI,IOp.kind,JQ,JR,JS,JT,JU,JV,JW,JX,JY,JZ,Y0,Y1,Y2,Y3,Y4,Y5,Y6,Y7,Y8,Y9,Ya,Yb,Yc,Yd,Ye,Yf,Yg,Yh,Yi,Yj,Yk,Yl,Ym,Yn,ial,Yo,Yp,Yq,Yr,Ys,Yt,Yu,Yv,ires,iresL,ires1,Yw,Yx,Yy,Yz,YA,YB,bin2,YC,YD,YE,YF,YG,YH,YI,YJ,YK,YL,YM,YN,YO,YP,YQ,YR,un1,shOk,eqL,eq1,fillL,putAt,IHeap.load1,IHeap.loadL,IHeap.storeL,YS,YT,YU,YV,YW,YX,YY,YZ,B0,B1,B2,B3,B4,B5,B6,B7,B8,B9,Ba,Bb,Bc,Bd,Be,Bf,Bg,Bh,Bi,Bj,Bk,Bl,Bm, t4, t5, t7, t23, t24, strV, str2, hle2, hle3]
            refine call_of (DAdd_ok c hc hX hI (s := nm) (ino := ino) d5 (by omega) hnl fun q' H6 u6 hq' d6 => ?_)
            have n5 := u5.next
            have n4 := u4.next
            have hwl := hr.1
            have k06 : H.le H6 := k05.updLe u6 (by simp; omega)
            by_cases h0 : (addE L nm ino).2 = 0
            · rw [if_pos ⟨hlt, h0⟩] at heq
              simp only at heq
              have hend := addE_end hd.sorted (.inr hlt) h0
              obtain ⟨z1, z2, z3⟩ := addE_name h0
              rw [hend] at heq d6
              have hpl := hd.lt
              have r6' : IsR H6 w r6 := ⟨Nat.lt_of_lt_of_le r5.1 u6.next, r5.2.1, (u6.get w r5.1 (by simp; omega)).trans r5.2.2⟩
              simp -implicitDefEqProofs [J0,J1,J2,J3,J4,J5,J6,J7,J8,J9,Ja,Jb,Jc,Jd,Je,Jf,Jg,Jh,Ji,Jj,Jk,Jl,Jm,Jn,Jo,Jp,Jq,Jr,Js,Jt,Ju,Jv,Jw,Jx,Jy,Jz,JA,JB,JC,JD,JE,JF,JG,JH,JI,JJ,JK,JL,JM,JN,JO,JP,stillI,IOp.kind,JQ,JR,JS,JT,JU,JV,JW,JX,JY,JZ,Y0,Y1,Y2,Y3,Y4,Y5,Y6,Y7,Y8,Y9,Ya,Yb,Yc,Yd,Ye,Yf,Yg,Yh,Yi,Yj,Yk,Yl,Ym,Yn,ial,Yo,Yp,Yq,Yr,Ys,Yt,Yu,Yv,ires,iresL,ires1,Yw,Yx,Yy,Yz,YA,YB,bin2,YC,YD,YE,YF,YG,YH,YI,YJ,YK,YL,YM,YN,YO,YP,YQ,YR,un1,shOk,eqL,eq1,fillL,putAt,IHeap.load1,IHeap.loadL,IHeap.storeL,YS,YT,YU,YV,YW,YX,YY,YZ,B0,B1,B2,B3,B4,B5,B6,B7,B8,B9,Ba,Bb,Bc,Bd,Be,Bf,Bg,Bh,Bi,Bj,Bk,Bl,Bm, t4, t5, t7, t23, t24, h0, hw]
              exact ⟨N - (i + 1), by omega, i + 1, by omega, rfl, by simp, k06, q', r6, L ++ [⟨nm, ino⟩], by rw [lastE_snoc]; rfl, by simp [hLi], by omega, r6', d6, fun e he => by
                rcases List.mem_append.1 he with he | he
                · exact hok e he
                · simp only [List.mem_singleton] at he; subst he; exact ⟨z1, z2, z3⟩, heq⟩
            · rw [if_neg (fun h => h0 h.2)] at heq
              simp only at heq
              rw [heq] at hK0
              simp -implicitDefEqProofs [J0,J1,J2,J3,J4,J5,J6,J7,J8,J9,Ja,Jb,Jc,Jd,Je,Jf,Jg,Jh,Ji,Jj,Jk,Jl,Jm,Jn,Jo,Jp,Jq,Jr,Js,Jt,Ju,Jv,Jw,Jx,Jy,Jz,JA,JB,JC,JD,JE,JF,JG,JH,JI,JJ,JK,JL,JM,JN,JO,JP,stillI,IOp.kind,JQ,JR,JS,JT,JU,JV,JW,JX,JY,JZ,Y0,Y1,Y2,Y3,Y4,Y5,Y6,Y7,Y8,Y9,Ya,Yb,Yc,Yd,Ye,Yf,Yg,Yh,Yi,Yj,Yk,Yl,Ym,Yn,ial,Yo,Yp,Yq,Yr,Ys,Yt,Yu,Yv,ires,iresL,ires1,Yw,Yx,Yy,Yz,YA,YB,bin2,YC,YD,YE,YF,YG,YH,YI,YJ,YK,YL,YM,YN,YO,YP,YQ,YR,un1,shOk,eqL,eq1,fillL,putAt,IHeap.load1,IHeap.loadL,IHeap.storeL,YS,YT,YU,YV,YW,YX,YY,YZ,B0,B1,B2,B3,B4,B5,B6,B7,B8,B9,Ba,Bb,Bc,Bd,Be,Bf,Bg,Bh,Bi,Bj,Bk,Bl,Bm, t4, t5, t7, t23, t24, h0]
              exact hK0 (by simp) _ k06
        · have hil' : ¬ (i : Int) < (N : Int) := by omega
          rw [show N - i = 0 by omega, readN] at heq
          rw [heq] at hK0 hK1
          simp -implicitDefEqProofs [J0,J1,J2,J3,J4,J5,J6,J7,J8,J9,Ja,Jb,Jc,Jd,Je,Jf,Jg,Jh,Ji,Jj,Jk,Jl,Jm,Jn,Jo,Jp,Jq,Jr,Js,Jt,Ju,Jv,Jw,Jx,Jy,Jz,JA,JB,JC,JD,JE,JF,JG,JH,JI,JJ,JK,JL,JM,JN,JO,JP,stillI,IOp.kind,JQ,JR,JS,JT,JU,JV,JW,JX,JY,JZ,Y0,Y1,Y2,Y3,Y4,Y5,Y6,Y7,Y8,Y9,Ya,Yb,Yc,Yd,Ye,Yf,Yg,Yh,Yi,Yj,Yk,Yl,Ym,Yn,ial,Yo,Yp,Yq,Yr,Ys,Yt,Yu,Yv,ires,iresL,ires1,Yw,Yx,Yy,Yz,YA,YB,bin2,YC,YD,YE,YF,YG,YH,YI,YJ,YK,YL,YM,YN,YO,YP,YQ,YR,un1,shOk,eqL,eq1,fillL,putAt,IHeap.load1,IHeap.loadL,IHeap.storeL,YS,YT,YU,YV,YW,YX,YY,YZ,B0,B1,B2,B3,B4,B5,B6,B7,B8,B9,Ba,Bb,Bc,Bd,Be,Bf,Bg,Bh,Bi,Bj,Bk,Bl,Bm, t4, t5, t7, t23, t24, hil, hil']
          refine call_of (RDone_ok c hC hr ?_)
          by_cases he : rdE r' = 0
          · simp only [he, if_true] at hK1
            simp -implicitDefEqProofs [J0,J1,J2,J3,J4,J5,J6,J7,J8,J9,Ja,Jb,Jc,Jd,Je,Jf,Jg,Jh,Ji,Jj,Jk,Jl,Jm,Jn,Jo,Jp,Jq,Jr,Js,Jt,Ju,Jv,Jw,Jx,Jy,Jz,JA,JB,JC,JD,JE,JF,JG,JH,JI,JJ,JK,JL,JM,JN,JO,JP,stillI,IOp.kind,JQ,JR,JS,JT,JU,JV,JW,JX,JY,JZ,Y0,Y1,Y2,Y3,Y4,Y5,Y6,Y7,Y8,Y9,Ya,Yb,Yc,Yd,Ye,Yf,Yg,Yh,Yi,Yj,Yk,Yl,Ym,Yn,ial,Yo,Yp,Yq,Yr,Ys,Yt,Yu,Yv,ires,iresL,ires1,Yw,Yx,Yy,Yz,YA,YB,bin2,YC,YD,YE,YF,YG,YH,YI,YJ,YK,YL,YM,YN,YO,YP,YQ,YR,un1,shOk,eqL,eq1,fillL,putAt,IHeap.load1,IHeap.loadL,IHeap.storeL,YS,YT,YU,YV,YW,YX,YY,YZ,B0,B1,B2,B3,B4,B5,B6,B7,B8,B9,Ba,Bb,Bc,Bd,Be,Bf,Bg,Bh,Bi,Bj,Bk,Bl,Bm, he, t5]
            exact hK1 L p q _ rfl hle (by omega) (by omega) (by omega) hok hd
          · simp only [he, if_false] at hK0
            simp -implicitDefEqProofs [J0,J1,J2,J3,J4,J5,J6,J7,J8,J9,Ja,Jb,Jc,Jd,Je,Jf,Jg,Jh,Ji,Jj,Jk,Jl,Jm,Jn,Jo,Jp,Jq,Jr,Js,Jt,Ju,Jv,Jw,Jx,Jy,Jz,JA,JB,JC,JD,JE,JF,JG,JH,JI,JJ,JK,JL,JM,JN,JO,JP,stillI,IOp.kind,JQ,JR,JS,JT,JU,JV,JW,JX,JY,JZ,Y0,Y1,Y2,Y3,Y4,Y5,Y6,Y7,Y8,Y9,Ya,Yb,Yc,Yd,Ye,Yf,Yg,Yh,Yi,Yj,Yk,Yl,Ym,Yn,ial,Yo,Yp,Yq,Yr,Ys,Yt,Yu,Yv,ires,iresL,ires1,Yw,Yx,Yy,Yz,YA,YB,bin2,YC,YD,YE,YF,YG,YH,YI,YJ,YK,YL,YM,YN,YO,YP,YQ,YR,un1,shOk,eqL,eq1,fillL,putAt,IHeap.load1,IHeap.loadL,IHeap.storeL,YS,YT,YU,YV,YW,YX,YY,YZ,B0,B1,B2,B3,B4,B5,B6,B7,B8,B9,Ba,Bb,Bc,Bd,Be,Bf,Bg,Bh,Bi,Bj,Bk,Bl,Bm, he, t5]
            exact hK0 (by simp) _ hle

end
end Go.Proofs.YtfegliplajdgmaaI
