/- Stripes that are known: of bytes. -/
import Derived.Test.YtmdkkhnenciknaaSmH
namespace Go.Proofs.YtmdkkhnenciknaaI
set_option linter.unusedSimpArgs false
set_option linter.unusedVariables false
open Go

def sA (r : Rd) : Rd × Int := takeByte r
def sB (r : Rd) : Rd × Int := takeInt (sA r).1
def sC (r : Rd) : Rd × Int := takeInt (sB r).1
def sD (r : Rd) : Rd × Int := takeInt (sC r).1
def sE (r : Rd) : Rd × List Int := takeList takeInt (sD r).1
def stR (r : Rd) : St := ⟨(sA r).2, (sB r).2, (sC r).2, (sD r).2, (sE r).2⟩
def okR (r : Rd) : Bool := (stR r).may && (decide (1 ≤ (sA r).2) && decide ((sA r).2 ≤ 3))
def rdL : Nat → List St → Rd → Option (Rd × List St)
  | 0, acc, r => some (r, acc)
  | k + 1, acc, r => if okR r then rdL k (acc ++ [stR r]) (sE r).1 else none
def readS (s : List UInt8) : Option (List St) :=
  if (takeInt (some s)).2 < 0 ∨ 4096 < (takeInt (some s)).2 then none else
  match rdL (takeInt (some s)).2.toNat [] (takeInt (some s)).1 with
  | none => none
  | some (r', L) => if rdE r' = 0 ∧ opn L ≤ 256 then some L else none
theorem unzz_lt (u : Nat) (h : u < 18446744073709551616) : unzz u < 9223372036854775808 := by unfold unzz; split <;> omega
theorem takeInt_lt (r : Rd) : (takeInt r).2 < 9223372036854775808 := by
  rw [takeInt_eq]
  cases hd : dec 0 0 (rdS r) with
  | none => simp
  | some y => exact unzz_lt _ (dec_bound _ 0 0 _ _ (by omega) (by simp) hd).1
theorem okR_ok {r : Rd} (h : okR r = true) : (stR r).ok := by
  simp only [okR, Bool.and_eq_true, decide_eq_true_eq] at h
  exact ⟨h.1, h.2.1, h.2.2, takeInt_lt _⟩

theorem IsS.grow {HC H5 HF : IHeap} {p q b : Nat} {bs : Nat → Nat} {L : List St} {x : St} (h : IsS HC p q bs L) (hx : x.ok) (hl : L.length < 4096) (hb : b < HC.next) (hgb : HC.get b = some (.cells (x.sv.map iV) false)) (hbp : b ≠ p) (hbq : b ≠ q) (hbb : ∀ i, i < L.length → bs i ≠ b)
    (g5 : H5.get HC.next = some (.cells (rowsB bs L ++ [rowSt L.length x (slS b x.sv.length)]).flatten false)) (n5 : H5.next = HC.next + 1) (u5 : IHeap.upd [q] HC H5) (uF : IHeap.upd [p] H5 HF) (gF : HF.get p = some (.cells [.slice (some ⟨HC.next, 0, none⟩) (L.length + 1) (UNK + 6), .int .i64 (opn (L ++ [x]))] false)) :
    IsS HF p HC.next (fun i => if i = L.length then b else bs i) (L ++ [x]) := by
  have hpl := h.lt
  have hql := h.ltq
  have nF := uF.next
  have hin : ∀ b', b' < HC.next → b' ≠ p → b' ≠ q → HF.get b' = HC.get b' := fun b' h1 h2 h3 => (uF.get b' (by omega) (by simpa using h2)).trans (u5.get b' h1 (by simpa using h3))
  refine ⟨by omega, by omega, ⟨_, gF, .inr ⟨by simp, by omega, by simp, ?_⟩⟩, ?_, ?_, ?_, ?_⟩
  · rw [uF.get _ (by omega) (by simp; omega), g5, rowsB_snoc]
  · intro z hz
    rcases List.mem_append.1 hz with h1 | h1
    · exact h.ok z h1
    · simp only [List.mem_singleton] at h1
      subst h1; exact hx
  · simp only [List.length_append, List.length_singleton]; omega
  · intro i y hy
    by_cases hi : i < L.length
    · rw [List.getElem?_append_left hi] at hy
      obtain ⟨c1, c2, c3, c4⟩ := h.bl i y hy
      rw [if_neg (by omega)]
      exact ⟨by omega, (hin _ c1 c3 c4).trans c2, c3, by omega⟩
    · have hi2 : i = L.length := by
        have := (List.getElem?_eq_some_iff.1 hy).1
        simp only [List.length_append, List.length_singleton] at this; omega
      subst hi2
      rw [List.getElem?_append_right (Nat.le_refl _)] at hy
      simp only [Nat.sub_self, List.getElem?_cons_zero, Option.some.injEq] at hy
      subst hy
      rw [if_pos rfl]
      exact ⟨by omega, (hin _ hb hbp hbq).trans hgb, hbp, by omega⟩
  · intro i j hi hj
    simp only [List.length_append, List.length_singleton] at hi hj
    split <;> split
    · intro _; omega
    · intro e; exact absurd e.symm (hbb j (by omega))
    · intro e; exact absurd e (hbb i (by omega))
    · exact h.inj i j (by omega) (by omega)

theorem takeMany_lenS {α : Type} (one : Rd → Rd × α) : ∀ (k : Nat) (acc : List α) (r : Rd), (takeMany one k acc r).2.length ≤ acc.length + k
  | 0, acc, r => by simp [takeMany]
  | k + 1, acc, r => by
    rw [takeMany]
    split
    · simp
    · rename_i s a _
      have := takeMany_lenS one k (acc ++ [a]) (some s)
      simp only [List.length_append, List.length_singleton] at this; omega
theorem takeList_lenS {α : Type} {one : Rd → Rd × α} {r : Rd} (h : (rdS r).length ≤ 1000000) : (takeList one r).2.length ≤ 1000000 := by
  have h1 := takeInt_le h
  unfold takeList
  rcases hx : takeInt r with ⟨x, n⟩
  rw [hx] at h1
  cases x with
  | none => simp
  | some s =>
    simp only [rdS] at h1 ⊢
    split
    · simp
    · rename_i hc
      have := takeMany_lenS one n.toNat [] (some s)
      simp only [List.length_nil] at this; omega

section
variable (c : Ctx) (hc : HasSmap c) (hC : HasCodec c) {H : IHeap} {K : Value → IHeap → Prop}

include hc hC in
theorem SRead_ok {s : List UInt8} (hs : s.length ≤ 1000000) (h0 : readS s = none → ∀ H', H.le H' → K (.tuple #[.pointer none, .int .i64 3]) H')
    (h1 : ∀ L, readS s = some L → ∀ p q bs H', H.le H' → IsS H' p q bs L → (∀ b ∈ foot p q bs L, H.next ≤ b) → K (.tuple #[.pointer (some ⟨p, 0, none⟩), .int .i64 0]) H') :
    c.C (c.F n_smap_Read) [strV s] H K := by
  refine c.enter hc.smap_Read rfl ?_
  simp -implicitDefEqProofs [J0,J1,J2,J3,J4,J5,J6,J7,J8,J9,Ja,Jb,Jc,Jd,Je,Jf,Jg,Jh,Ji,Jj,Jk,Jl,Jm,Jn,Jo,Jp,Jq,Jr,Js,Jt,Ju,Jv,Jw,Jx,Jy,Jz,JA,JB,JC,JD,JE,JF,JG,JH,JI,JJ,JK,JL,JM,JN,JO,JP,stillI,IOp.kind,JQ,JR,JS,JT,JU,JV,JW,JX,JY,JZ,Y0,Y1,Y2,Y3,Y4,Y5,Y6,Y7,Y8,Y9,Ya,Yb,Yc,Yd,Ye,Yf,Yg,Yh,Yi,Yj,Yk,Yl,Ym,Yn,ial,Yo,Yp,Yq,Yr,Ys,Yt,Yu,Yv,ires,iresL,ires1,Yw,Yx,Yy,Yz,YA,YB,bin2,YC,YD,YE,YF,YG,YH,YI,YJ,YK,YL,YM,YN,YO,YP,YQ,YR,un1,shOk,eqL,eq1,fillL,putAt,IHeap.load1,IHeap.loadL,IHeap.storeL,YS,YT,YU,YV,YW,YX,YY,YZ,B0,B1,B2,B3,B4,B5,B6,B7,B8,B9,Ba,Bb,Bc,Bd,Be,Bf,Bg,Bh,Bi,Bj,Bk,Bl,Bm, c_smap_Read]
  refine call_of (NewReader_ok c hC hs fun pr H1 p1 k1 r1 => ?_)
  simp -implicitDefEqProofs [J0,J1,J2,J3,J4,J5,J6,J7,J8,J9,Ja,Jb,Jc,Jd,Je,Jf,Jg,Jh,Ji,Jj,Jk,Jl,Jm,Jn,Jo,Jp,Jq,Jr,Js,Jt,Ju,Jv,Jw,Jx,Jy,Jz,JA,JB,JC,JD,JE,JF,JG,JH,JI,JJ,JK,JL,JM,JN,JO,JP,stillI,IOp.kind,JQ,JR,JS,JT,JU,JV,JW,JX,JY,JZ,Y0,Y1,Y2,Y3,Y4,Y5,Y6,Y7,Y8,Y9,Ya,Yb,Yc,Yd,Ye,Yf,Yg,Yh,Yi,Yj,Yk,Yl,Ym,Yn,ial,Yo,Yp,Yq,Yr,Ys,Yt,Yu,Yv,ires,iresL,ires1,Yw,Yx,Yy,Yz,YA,YB,bin2,YC,YD,YE,YF,YG,YH,YI,YJ,YK,YL,YM,YN,YO,YP,YQ,YR,un1,shOk,eqL,eq1,fillL,putAt,IHeap.load1,IHeap.loadL,IHeap.storeL,YS,YT,YU,YV,YW,YX,YY,YZ,B0,B1,B2,B3,B4,B5,B6,B7,B8,B9,Ba,Bb,Bc,Bd,Be,Bf,Bg,Bh,Bi,Bj,Bk,Bl,Bm]
  refine call_of (SNew_ok c hc fun H2 k2 m2 => ?_)
  have r2 := r1.le k2
  have hpr := r1.1
  have n1 := k1.next
  have n2 := k2.next
  obtain ⟨p, hp⟩ : ∃ p, p = H1.next := ⟨_, rfl⟩
  rw [← hp] at m2 ⊢
  simp -implicitDefEqProofs [J0,J1,J2,J3,J4,J5,J6,J7,J8,J9,Ja,Jb,Jc,Jd,Je,Jf,Jg,Jh,Ji,Jj,Jk,Jl,Jm,Jn,Jo,Jp,Jq,Jr,Js,Jt,Ju,Jv,Jw,Jx,Jy,Jz,JA,JB,JC,JD,JE,JF,JG,JH,JI,JJ,JK,JL,JM,JN,JO,JP,stillI,IOp.kind,JQ,JR,JS,JT,JU,JV,JW,JX,JY,JZ,Y0,Y1,Y2,Y3,Y4,Y5,Y6,Y7,Y8,Y9,Ya,Yb,Yc,Yd,Ye,Yf,Yg,Yh,Yi,Yj,Yk,Yl,Ym,Yn,ial,Yo,Yp,Yq,Yr,Ys,Yt,Yu,Yv,ires,iresL,ires1,Yw,Yx,Yy,Yz,YA,YB,bin2,YC,YD,YE,YF,YG,YH,YI,YJ,YK,YL,YM,YN,YO,YP,YQ,YR,un1,shOk,eqL,eq1,fillL,putAt,IHeap.load1,IHeap.loadL,IHeap.storeL,YS,YT,YU,YV,YW,YX,YY,YZ,B0,B1,B2,B3,B4,B5,B6,B7,B8,B9,Ba,Bb,Bc,Bd,Be,Bf,Bg,Bh,Bi,Bj,Bk,Bl,Bm]
  refine call_of (RInt_ok c hC r2 fun H3 u3 r3 => ?_)
  have m3 := m2.upd u3 (by simp; omega) (by simp; omega) (by simp)
  obtain ⟨n, hn⟩ : ∃ n, n = (takeInt (some s)).2 := ⟨_, rfl⟩
  obtain ⟨r0, hr0⟩ : ∃ r, r = (takeInt (some s)).1 := ⟨_, rfl⟩
  unfold readS at h0 h1
  rw [← hn, ← hr0] at h0 h1
  rw [← hn]
  rw [← hr0] at r3
  have k3 : H.le H3 := (k1.trans k2).updLe u3 (by simp; omega)
  by_cases hbad : n < 0 ∨ 4096 < n
  · rw [if_pos hbad] at h0
    by_cases hb1 : n < 0
    · simp -implicitDefEqProofs [J0,J1,J2,J3,J4,J5,J6,J7,J8,J9,Ja,Jb,Jc,Jd,Je,Jf,Jg,Jh,Ji,Jj,Jk,Jl,Jm,Jn,Jo,Jp,Jq,Jr,Js,Jt,Ju,Jv,Jw,Jx,Jy,Jz,JA,JB,JC,JD,JE,JF,JG,JH,JI,JJ,JK,JL,JM,JN,JO,JP,stillI,IOp.kind,JQ,JR,JS,JT,JU,JV,JW,JX,JY,JZ,Y0,Y1,Y2,Y3,Y4,Y5,Y6,Y7,Y8,Y9,Ya,Yb,Yc,Yd,Ye,Yf,Yg,Yh,Yi,Yj,Yk,Yl,Ym,Yn,ial,Yo,Yp,Yq,Yr,Ys,Yt,Yu,Yv,ires,iresL,ires1,Yw,Yx,Yy,Yz,YA,YB,bin2,YC,YD,YE,YF,YG,YH,YI,YJ,YK,YL,YM,YN,YO,YP,YQ,YR,un1,shOk,eqL,eq1,fillL,putAt,IHeap.load1,IHeap.loadL,IHeap.storeL,YS,YT,YU,YV,YW,YX,YY,YZ,B0,B1,B2,B3,B4,B5,B6,B7,B8,B9,Ba,Bb,Bc,Bd,Be,Bf,Bg,Bh,Bi,Bj,Bk,Bl,Bm, hb1]
      exact h0 rfl _ k3
    · have hb2 : 4096 < n := by omega
      simp -implicitDefEqProofs [J0,J1,J2,J3,J4,J5,J6,J7,J8,J9,Ja,Jb,Jc,Jd,Je,Jf,Jg,Jh,Ji,Jj,Jk,Jl,Jm,Jn,Jo,Jp,Jq,Jr,Js,Jt,Ju,Jv,Jw,Jx,Jy,Jz,JA,JB,JC,JD,JE,JF,JG,JH,JI,JJ,JK,JL,JM,JN,JO,JP,stillI,IOp.kind,JQ,JR,JS,JT,JU,JV,JW,JX,JY,JZ,Y0,Y1,Y2,Y3,Y4,Y5,Y6,Y7,Y8,Y9,Ya,Yb,Yc,Yd,Ye,Yf,Yg,Yh,Yi,Yj,Yk,Yl,Ym,Yn,ial,Yo,Yp,Yq,Yr,Ys,Yt,Yu,Yv,ires,iresL,ires1,Yw,Yx,Yy,Yz,YA,YB,bin2,YC,YD,YE,YF,YG,YH,YI,YJ,YK,YL,YM,YN,YO,YP,YQ,YR,un1,shOk,eqL,eq1,fillL,putAt,IHeap.load1,IHeap.loadL,IHeap.storeL,YS,YT,YU,YV,YW,YX,YY,YZ,B0,B1,B2,B3,B4,B5,B6,B7,B8,B9,Ba,Bb,Bc,Bd,Be,Bf,Bg,Bh,Bi,Bj,Bk,Bl,Bm, hb1, hb2]
      exact h0 rfl _ k3
  · rw [if_neg hbad] at h0
    rw [if_neg hbad] at h1
    have hb1 : ¬ n < 0 := by omega
    have hb2 : ¬ 4096 < n := by omega
    have hnt : (n.toNat : Int) = n := by omega
    simp -implicitDefEqProofs [J0,J1,J2,J3,J4,J5,J6,J7,J8,J9,Ja,Jb,Jc,Jd,Je,Jf,Jg,Jh,Ji,Jj,Jk,Jl,Jm,Jn,Jo,Jp,Jq,Jr,Js,Jt,Ju,Jv,Jw,Jx,Jy,Jz,JA,JB,JC,JD,JE,JF,JG,JH,JI,JJ,JK,JL,JM,JN,JO,JP,stillI,IOp.kind,JQ,JR,JS,JT,JU,JV,JW,JX,JY,JZ,Y0,Y1,Y2,Y3,Y4,Y5,Y6,Y7,Y8,Y9,Ya,Yb,Yc,Yd,Ye,Yf,Yg,Yh,Yi,Yj,Yk,Yl,Ym,Yn,ial,Yo,Yp,Yq,Yr,Ys,Yt,Yu,Yv,ires,iresL,ires1,Yw,Yx,Yy,Yz,YA,YB,bin2,YC,YD,YE,YF,YG,YH,YI,YJ,YK,YL,YM,YN,YO,YP,YQ,YR,un1,shOk,eqL,eq1,fillL,putAt,IHeap.load1,IHeap.loadL,IHeap.storeL,YS,YT,YU,YV,YW,YX,YY,YZ,B0,B1,B2,B3,B4,B5,B6,B7,B8,B9,Ba,Bb,Bc,Bd,Be,Bf,Bg,Bh,Bi,Bj,Bk,Bl,Bm, hb1, hb2]
    refine loop_nat c.mono (fun k T H' => ∃ (i : Nat) (q : Nat) (bs : Nat → Nat) (L : List St) (r : Rd), i + k = n.toNat ∧ L.length = i ∧ T 4 = .pointer (some ⟨pr, 0, none⟩) ∧ T 5 = .pointer (some ⟨p, 0, none⟩) ∧ T 20 = .int .i64 n ∧ T 21 = .int .i64 i ∧
      H.le H' ∧ IsS H' p q bs L ∧ IsR H' pr r ∧ (∀ b ∈ foot p q bs L, H.next ≤ b ∧ b ≠ pr) ∧ rdL n.toNat [] r0 = rdL k L r) n.toNat ?_ ?_
    · refine ⟨0, p, fun _ => 0, [], r0, by omega, rfl, ?_⟩
      simp -implicitDefEqProofs [J0,J1,J2,J3,J4,J5,J6,J7,J8,J9,Ja,Jb,Jc,Jd,Je,Jf,Jg,Jh,Ji,Jj,Jk,Jl,Jm,Jn,Jo,Jp,Jq,Jr,Js,Jt,Ju,Jv,Jw,Jx,Jy,Jz,JA,JB,JC,JD,JE,JF,JG,JH,JI,JJ,JK,JL,JM,JN,JO,JP,stillI,IOp.kind,JQ,JR,JS,JT,JU,JV,JW,JX,JY,JZ,Y0,Y1,Y2,Y3,Y4,Y5,Y6,Y7,Y8,Y9,Ya,Yb,Yc,Yd,Ye,Yf,Yg,Yh,Yi,Yj,Yk,Yl,Ym,Yn,ial,Yo,Yp,Yq,Yr,Ys,Yt,Yu,Yv,ires,iresL,ires1,Yw,Yx,Yy,Yz,YA,YB,bin2,YC,YD,YE,YF,YG,YH,YI,YJ,YK,YL,YM,YN,YO,YP,YQ,YR,un1,shOk,eqL,eq1,fillL,putAt,IHeap.load1,IHeap.loadL,IHeap.storeL,YS,YT,YU,YV,YW,YX,YY,YZ,B0,B1,B2,B3,B4,B5,B6,B7,B8,B9,Ba,Bb,Bc,Bd,Be,Bf,Bg,Bh,Bi,Bj,Bk,Bl,Bm]
      exact ⟨k3, m3, r3, by rw [foot]; simp; omega⟩
    · rintro k T H' ⟨i, q, bs, L, r, hik, hLi, t4, t5, t20, t21, hle, hS, hr, hft, hrd⟩
      by_cases hil : (i : Int) < n
      · obtain ⟨k', rfl⟩ : ∃ k', k = k' + 1 := ⟨k - 1, by omega⟩
        simp -implicitDefEqProofs [J0,J1,J2,J3,J4,J5,J6,J7,J8,J9,Ja,Jb,Jc,Jd,Je,Jf,Jg,Jh,Ji,Jj,Jk,Jl,Jm,Jn,Jo,Jp,Jq,Jr,Js,Jt,Ju,Jv,Jw,Jx,Jy,Jz,JA,JB,JC,JD,JE,JF,JG,JH,JI,JJ,JK,JL,JM,JN,JO,JP,stillI,IOp.kind,JQ,JR,JS,JT,JU,JV,JW,JX,JY,JZ,Y0,Y1,Y2,Y3,Y4,Y5,Y6,Y7,Y8,Y9,Ya,Yb,Yc,Yd,Ye,Yf,Yg,Yh,Yi,Yj,Yk,Yl,Ym,Yn,ial,Yo,Yp,Yq,Yr,Ys,Yt,Yu,Yv,ires,iresL,ires1,Yw,Yx,Yy,Yz,YA,YB,bin2,YC,YD,YE,YF,YG,YH,YI,YJ,YK,YL,YM,YN,YO,YP,YQ,YR,un1,shOk,eqL,eq1,fillL,putAt,IHeap.load1,IHeap.loadL,IHeap.storeL,YS,YT,YU,YV,YW,YX,YY,YZ,B0,B1,B2,B3,B4,B5,B6,B7,B8,B9,Ba,Bb,Bc,Bd,Be,Bf,Bg,Bh,Bi,Bj,Bk,Bl,Bm, t4, t5, t20, t21, hil]
        have hlen : L.length < 4096 := by omega
        refine call_of (RByte_ok c hC hr fun A1 ua ra => ?_)
        rw [show takeByte r = sA r from rfl] at ra ⊢
        simp -implicitDefEqProofs [J0,J1,J2,J3,J4,J5,J6,J7,J8,J9,Ja,Jb,Jc,Jd,Je,Jf,Jg,Jh,Ji,Jj,Jk,Jl,Jm,Jn,Jo,Jp,Jq,Jr,Js,Jt,Ju,Jv,Jw,Jx,Jy,Jz,JA,JB,JC,JD,JE,JF,JG,JH,JI,JJ,JK,JL,JM,JN,JO,JP,stillI,IOp.kind,JQ,JR,JS,JT,JU,JV,JW,JX,JY,JZ,Y0,Y1,Y2,Y3,Y4,Y5,Y6,Y7,Y8,Y9,Ya,Yb,Yc,Yd,Ye,Yf,Yg,Yh,Yi,Yj,Yk,Yl,Ym,Yn,ial,Yo,Yp,Yq,Yr,Ys,Yt,Yu,Yv,ires,iresL,ires1,Yw,Yx,Yy,Yz,YA,YB,bin2,YC,YD,YE,YF,YG,YH,YI,YJ,YK,YL,YM,YN,YO,YP,YQ,YR,un1,shOk,eqL,eq1,fillL,putAt,IHeap.load1,IHeap.loadL,IHeap.storeL,YS,YT,YU,YV,YW,YX,YY,YZ,B0,B1,B2,B3,B4,B5,B6,B7,B8,B9,Ba,Bb,Bc,Bd,Be,Bf,Bg,Bh,Bi,Bj,Bk,Bl,Bm, t4, t5, t20, t21]
        refine call_of (RInt_ok c hC ra fun A2 ub rb => ?_)
        rw [show takeInt (sA r).1 = sB r from rfl] at rb ⊢
        simp -implicitDefEqProofs [J0,J1,J2,J3,J4,J5,J6,J7,J8,J9,Ja,Jb,Jc,Jd,Je,Jf,Jg,Jh,Ji,Jj,Jk,Jl,Jm,Jn,Jo,Jp,Jq,Jr,Js,Jt,Ju,Jv,Jw,Jx,Jy,Jz,JA,JB,JC,JD,JE,JF,JG,JH,JI,JJ,JK,JL,JM,JN,JO,JP,stillI,IOp.kind,JQ,JR,JS,JT,JU,JV,JW,JX,JY,JZ,Y0,Y1,Y2,Y3,Y4,Y5,Y6,Y7,Y8,Y9,Ya,Yb,Yc,Yd,Ye,Yf,Yg,Yh,Yi,Yj,Yk,Yl,Ym,Yn,ial,Yo,Yp,Yq,Yr,Ys,Yt,Yu,Yv,ires,iresL,ires1,Yw,Yx,Yy,Yz,YA,YB,bin2,YC,YD,YE,YF,YG,YH,YI,YJ,YK,YL,YM,YN,YO,YP,YQ,YR,un1,shOk,eqL,eq1,fillL,putAt,IHeap.load1,IHeap.loadL,IHeap.storeL,YS,YT,YU,YV,YW,YX,YY,YZ,B0,B1,B2,B3,B4,B5,B6,B7,B8,B9,Ba,Bb,Bc,Bd,Be,Bf,Bg,Bh,Bi,Bj,Bk,Bl,Bm, t4, t5, t20, t21]
        refine call_of (RInt_ok c hC rb fun A3 uc rc => ?_)
        rw [show takeInt (sB r).1 = sC r from rfl] at rc ⊢
        simp -implicitDefEqProofs [J0,J1,J2,J3,J4,J5,J6,J7,J8,J9,Ja,Jb,Jc,Jd,Je,Jf,Jg,Jh,Ji,Jj,Jk,Jl,Jm,Jn,Jo,Jp,Jq,Jr,Js,Jt,Ju,Jv,Jw,Jx,Jy,Jz,JA,JB,JC,JD,JE,JF,JG,JH,JI,JJ,JK,JL,JM,JN,JO,JP,stillI,IOp.kind,JQ,JR,JS,JT,JU,JV,JW,JX,JY,JZ,Y0,Y1,Y2,Y3,Y4,Y5,Y6,Y7,Y8,Y9,Ya,Yb,Yc,Yd,Ye,Yf,Yg,Yh,Yi,Yj,Yk,Yl,Ym,Yn,ial,Yo,Yp,Yq,Yr,Ys,Yt,Yu,Yv,ires,iresL,ires1,Yw,Yx,Yy,Yz,YA,YB,bin2,YC,YD,YE,YF,YG,YH,YI,YJ,YK,YL,YM,YN,YO,YP,YQ,YR,un1,shOk,eqL,eq1,fillL,putAt,IHeap.load1,IHeap.loadL,IHeap.storeL,YS,YT,YU,YV,YW,YX,YY,YZ,B0,B1,B2,B3,B4,B5,B6,B7,B8,B9,Ba,Bb,Bc,Bd,Be,Bf,Bg,Bh,Bi,Bj,Bk,Bl,Bm, t4, t5, t20, t21]
        refine call_of (RInt_ok c hC rc fun A4 ud rd => ?_)
        rw [show takeInt (sC r).1 = sD r from rfl] at rd ⊢
        simp -implicitDefEqProofs [J0,J1,J2,J3,J4,J5,J6,J7,J8,J9,Ja,Jb,Jc,Jd,Je,Jf,Jg,Jh,Ji,Jj,Jk,Jl,Jm,Jn,Jo,Jp,Jq,Jr,Js,Jt,Ju,Jv,Jw,Jx,Jy,Jz,JA,JB,JC,JD,JE,JF,JG,JH,JI,JJ,JK,JL,JM,JN,JO,JP,stillI,IOp.kind,JQ,JR,JS,JT,JU,JV,JW,JX,JY,JZ,Y0,Y1,Y2,Y3,Y4,Y5,Y6,Y7,Y8,Y9,Ya,Yb,Yc,Yd,Ye,Yf,Yg,Yh,Yi,Yj,Yk,Yl,Ym,Yn,ial,Yo,Yp,Yq,Yr,Ys,Yt,Yu,Yv,ires,iresL,ires1,Yw,Yx,Yy,Yz,YA,YB,bin2,YC,YD,YE,YF,YG,YH,YI,YJ,YK,YL,YM,YN,YO,YP,YQ,YR,un1,shOk,eqL,eq1,fillL,putAt,IHeap.load1,IHeap.loadL,IHeap.storeL,YS,YT,YU,YV,YW,YX,YY,YZ,B0,B1,B2,B3,B4,B5,B6,B7,B8,B9,Ba,Bb,Bc,Bd,Be,Bf,Bg,Bh,Bi,Bj,Bk,Bl,Bm, t4, t5, t20, t21]
        refine call_of (RInts_ok c hC rd fun v5 A5 ue re gr => ?_)
        rw [show takeList takeInt (sD r).1 = sE r from rfl] at re gr
        have u15 := (((ua.trans ub).trans uc).trans ud).trans ue
        have hnp : pr ∉ foot p q bs L := fun hm => (hft pr hm).2 rfl
        have hpf : ∀ b, b ∈ foot p q bs L → b ∉ [pr] := fun b hb hm => by simp only [List.mem_singleton] at hm; exact (hft b hb).2 hm
        have mA := hS.upd u15 (hpf _ (p_foot ..)) (hpf _ (q_foot ..)) fun j hj => hpf _ (b_foot hj)
        have n15 := u15.next
        have nle := hle.next
        have hprl := hr.1
        have kA : H.le A5 := hle.updLe u15 (by simp; omega)
        have hsvl : (sE r).2.length ≤ 1000000 := by
          rw [show sE r = takeList takeInt (sD r).1 from rfl]
          exact takeList_lenS rd.2.1
        have grr := gr
        obtain ⟨a5, c5, rfl⟩ := gr.len
        simp only [List.length_map] at grr
        simp -implicitDefEqProofs [J0,J1,J2,J3,J4,J5,J6,J7,J8,J9,Ja,Jb,Jc,Jd,Je,Jf,Jg,Jh,Ji,Jj,Jk,Jl,Jm,Jn,Jo,Jp,Jq,Jr,Js,Jt,Ju,Jv,Jw,Jx,Jy,Jz,JA,JB,JC,JD,JE,JF,JG,JH,JI,JJ,JK,JL,JM,JN,JO,JP,stillI,IOp.kind,JQ,JR,JS,JT,JU,JV,JW,JX,JY,JZ,Y0,Y1,Y2,Y3,Y4,Y5,Y6,Y7,Y8,Y9,Ya,Yb,Yc,Yd,Ye,Yf,Yg,Yh,Yi,Yj,Yk,Yl,Ym,Yn,ial,Yo,Yp,Yq,Yr,Ys,Yt,Yu,Yv,ires,iresL,ires1,Yw,Yx,Yy,Yz,YA,YB,bin2,YC,YD,YE,YF,YG,YH,YI,YJ,YK,YL,YM,YN,YO,YP,YQ,YR,un1,shOk,eqL,eq1,fillL,putAt,IHeap.load1,IHeap.loadL,IHeap.storeL,YS,YT,YU,YV,YW,YX,YY,YZ,B0,B1,B2,B3,B4,B5,B6,B7,B8,B9,Ba,Bb,Bc,Bd,Be,Bf,Bg,Bh,Bi,Bj,Bk,Bl,Bm, t4, t5, t20, t21, List.length_map]
        obtain ⟨HB1, hB1⟩ : ∃ X : IHeap, X = (A5.alloc (.cells [.int .i64 0, .int .i64 0, .int .i64 0, .int .i64 0, .int .i64 0, .slice none 0 0] false)).set A5.next (.cells [.int .i64 i, .int .i64 (sA r).2, .int .i64 (sB r).2, .int .i64 (sC r).2, .int .i64 (sD r).2, .slice a5 (sE r).2.length c5] false) := ⟨_, rfl⟩
        rw [← hB1]
        have kB : A5.le HB1 := by rw [hB1]; exact (A5.le_alloc _).set (Nat.le_refl _) _
        have nB : HB1.next = A5.next + 1 := by rw [hB1]; rfl
        have gB : HB1.get A5.next = some (.cells [.int .i64 i, .int .i64 (sA r).2, .int .i64 (sB r).2, .int .i64 (sC r).2, .int .i64 (sD r).2, .slice a5 (sE r).2.length c5] false) := by rw [hB1, YT, if_pos rfl]
        refine call_of (may_okS c hc (x := stR r) (grr.slw.le kB) (by show (sE r).2.length ≤ _; omega) fun HB2 kB2 => ?_)
        have nB2 := kB2.next
        have gB2 := (kB2.get A5.next (by omega)).trans gB
        have k5 : H.le HB2 := (kA.trans kB).trans kB2
        simp only [rdL] at hrd
        cases hm : (stR r).may with
        | false =>
          have hok : okR r = false := by simp [okR, hm]
          rw [hrd, hok] at h0
          simp -implicitDefEqProofs [J0,J1,J2,J3,J4,J5,J6,J7,J8,J9,Ja,Jb,Jc,Jd,Je,Jf,Jg,Jh,Ji,Jj,Jk,Jl,Jm,Jn,Jo,Jp,Jq,Jr,Js,Jt,Ju,Jv,Jw,Jx,Jy,Jz,JA,JB,JC,JD,JE,JF,JG,JH,JI,JJ,JK,JL,JM,JN,JO,JP,stillI,IOp.kind,JQ,JR,JS,JT,JU,JV,JW,JX,JY,JZ,Y0,Y1,Y2,Y3,Y4,Y5,Y6,Y7,Y8,Y9,Ya,Yb,Yc,Yd,Ye,Yf,Yg,Yh,Yi,Yj,Yk,Yl,Ym,Yn,ial,Yo,Yp,Yq,Yr,Ys,Yt,Yu,Yv,ires,iresL,ires1,Yw,Yx,Yy,Yz,YA,YB,bin2,YC,YD,YE,YF,YG,YH,YI,YJ,YK,YL,YM,YN,YO,YP,YQ,YR,un1,shOk,eqL,eq1,fillL,putAt,IHeap.load1,IHeap.loadL,IHeap.storeL,YS,YT,YU,YV,YW,YX,YY,YZ,B0,B1,B2,B3,B4,B5,B6,B7,B8,B9,Ba,Bb,Bc,Bd,Be,Bf,Bg,Bh,Bi,Bj,Bk,Bl,Bm]
          exact h0 rfl _ k5
        | true =>
          by_cases hs1 : (sA r).2 < 1
          · have hok : okR r = false := by simp [okR]; omega
            rw [hrd, hok] at h0
            simp -implicitDefEqProofs [J0,J1,J2,J3,J4,J5,J6,J7,J8,J9,Ja,Jb,Jc,Jd,Je,Jf,Jg,Jh,Ji,Jj,Jk,Jl,Jm,Jn,Jo,Jp,Jq,Jr,Js,Jt,Ju,Jv,Jw,Jx,Jy,Jz,JA,JB,JC,JD,JE,JF,JG,JH,JI,JJ,JK,JL,JM,JN,JO,JP,stillI,IOp.kind,JQ,JR,JS,JT,JU,JV,JW,JX,JY,JZ,Y0,Y1,Y2,Y3,Y4,Y5,Y6,Y7,Y8,Y9,Ya,Yb,Yc,Yd,Ye,Yf,Yg,Yh,Yi,Yj,Yk,Yl,Ym,Yn,ial,Yo,Yp,Yq,Yr,Ys,Yt,Yu,Yv,ires,iresL,ires1,Yw,Yx,Yy,Yz,YA,YB,bin2,YC,YD,YE,YF,YG,YH,YI,YJ,YK,YL,YM,YN,YO,YP,YQ,YR,un1,shOk,eqL,eq1,fillL,putAt,IHeap.load1,IHeap.loadL,IHeap.storeL,YS,YT,YU,YV,YW,YX,YY,YZ,B0,B1,B2,B3,B4,B5,B6,B7,B8,B9,Ba,Bb,Bc,Bd,Be,Bf,Bg,Bh,Bi,Bj,Bk,Bl,Bm, gB2, hs1]
            exact h0 rfl _ k5
          · by_cases hs3 : 3 < (sA r).2
            · have hok : okR r = false := by simp [okR]; omega
              rw [hrd, hok] at h0
              simp -implicitDefEqProofs [J0,J1,J2,J3,J4,J5,J6,J7,J8,J9,Ja,Jb,Jc,Jd,Je,Jf,Jg,Jh,Ji,Jj,Jk,Jl,Jm,Jn,Jo,Jp,Jq,Jr,Js,Jt,Ju,Jv,Jw,Jx,Jy,Jz,JA,JB,JC,JD,JE,JF,JG,JH,JI,JJ,JK,JL,JM,JN,JO,JP,stillI,IOp.kind,JQ,JR,JS,JT,JU,JV,JW,JX,JY,JZ,Y0,Y1,Y2,Y3,Y4,Y5,Y6,Y7,Y8,Y9,Ya,Yb,Yc,Yd,Ye,Yf,Yg,Yh,Yi,Yj,Yk,Yl,Ym,Yn,ial,Yo,Yp,Yq,Yr,Ys,Yt,Yu,Yv,ires,iresL,ires1,Yw,Yx,Yy,Yz,YA,YB,bin2,YC,YD,YE,YF,YG,YH,YI,YJ,YK,YL,YM,YN,YO,YP,YQ,YR,un1,shOk,eqL,eq1,fillL,putAt,IHeap.load1,IHeap.loadL,IHeap.storeL,YS,YT,YU,YV,YW,YX,YY,YZ,B0,B1,B2,B3,B4,B5,B6,B7,B8,B9,Ba,Bb,Bc,Bd,Be,Bf,Bg,Bh,Bi,Bj,Bk,Bl,Bm, gB2, hs1, hs3]
              exact h0 rfl _ k5
            · have hok : okR r = true := by simp [okR, hm]; omega
              rw [hok, if_pos rfl] at hrd
              have mB := mA.le (kB.trans kB2)
              obtain ⟨u0, hg, hrep⟩ := mB.rep
              have hua : ∃ a cp, u0 = .slice a L.length cp := by
                rcases hrep with ⟨rfl, rfl⟩ | ⟨_, _, rfl, _⟩
                · exact ⟨_, _, rfl⟩
                · exact ⟨_, _, rfl⟩
              obtain ⟨a, cp, rfl⟩ := hua
              have hxm := St.may_iff.1 hm
              have hx2 : 2 ≤ (sE r).2.length := hxm.2.2.2.2.2.1
              obtain ⟨b, hb1, hb2, e1, hb3⟩ : ∃ b, A4.next ≤ b ∧ b < A5.next ∧ Value.slice a5 (sE r).2.length c5 = .slice (some ⟨b, 0, none⟩) (sE r).2.length (UNK + 1) ∧ A5.get b = some (.cells ((sE r).2.map iV) false) := by
                rcases grr with ⟨e, _⟩ | ⟨_, b, q1, q2, q3, q4⟩
                · exfalso
                  rw [List.map_eq_nil_iff] at e
                  rw [e] at hx2; simp at hx2
                · exact ⟨b, q1, q2, by simpa using q3, by rw [q4, flat_rowI]⟩
              simp only [Value.slice.injEq, true_and] at e1
              obtain ⟨rfl, rfl⟩ := e1
              obtain ⟨HC, hHC⟩ : ∃ X : IHeap, X = HB2.alloc (.cells [.int .i64 i, .int .i64 (sA r).2, .int .i64 (sB r).2, .int .i64 (sC r).2, .int .i64 (sD r).2, .slice (some ⟨b, 0, none⟩) (sE r).2.length (UNK + 1)] false) := ⟨_, rfl⟩
              have kC : HB2.le HC := by rw [hHC]; exact HB2.le_alloc _
              have nC : HC.next = HB2.next + 1 := by rw [hHC]; rfl
              have gC : HC.get HB2.next = some (.cells [.int .i64 i, .int .i64 (sA r).2, .int .i64 (sB r).2, .int .i64 (sC r).2, .int .i64 (sD r).2, .slice (some ⟨b, 0, none⟩) (sE r).2.length (UNK + 1)] false) := by rw [hHC, YS, if_pos rfl]
              have f1 : firstI HC 6 1 (.slice (some ⟨HB2.next, 0, none⟩) 1 1) = some [.int .i64 i, .int .i64 (sA r).2, .int .i64 (sB r).2, .int .i64 (sC r).2, .int .i64 (sD r).2, .slice (some ⟨b, 0, none⟩) (sE r).2.length (UNK + 1)] := by simp [firstI, IHeap.loadL, gC]
              have mC := mB.le kC
              have hgC : HC.get p = _ := (kC.get p mB.lt).trans hg
              obtain ⟨H5, e5, g5, n5, u5, z5⟩ := push_ok (H := HC) (q := q) (size := 6) (bytes := 64) (u := .slice a L.length cp) (rows := rowsB bs L) (new := rowSt L.length (stR r) (slS b (stR r).sv.length)) (by
                rcases hrep with ⟨r1, r2⟩ | ⟨r1, r2, r3, r4⟩
                · left; subst r1; exact ⟨rfl, r2⟩
                · right
                  refine ⟨fun e => r1 (by have := congrArg List.length e; rw [rowsB_len] at this; simpa using this), by rw [rowsB_len]; exact r3, (kC.get q mB.ltq).trans r4⟩) (rowsB_six bs L) (by omega) (by omega) rfl rfl (by rw [rowsB_len]; omega) (by rw [rowsB_len]; omega)
              rw [rowsB_len] at e5
              simp only [rowSt, slS, stR] at e5
              rw [show ((L.length : Nat) : Int) = (i : Int) from by rw [hLi]] at e5
              have gp5 : H5.get p = _ := (by
                rcases hrep with ⟨r1, r2⟩ | ⟨r1, r2, r3, r4⟩
                · subst r1; exact (z5 rfl).get p mC.lt
                · exact u5.get p mC.lt (by simpa using r2) : H5.get p = HC.get p).trans hgC
              have mql := mB.ltq
              have mpl := mA.lt
              have mqA := mA.ltq
              have gx5 : H5.get A5.next = _ := (u5.get A5.next (by omega) (by simp; omega)).trans ((kC.get A5.next (by omega)).trans gB2)
              have hpA : p ≠ A5.next := by omega
              have hbA : ∀ j, j < L.length → bs j < A4.next := fun j hj => by
                have := (hS.bl j L[j] (List.getElem?_eq_getElem hj)).1
                have h1 := (((ua.trans ub).trans uc).trans ud).next
                omega
              have h14 := (((ua.trans ub).trans uc).trans ud).next
              have hpS := hS.lt
              have hqS := hS.ltq
              have hgb : HC.get b = some (.cells ((stR r).sv.map iV) false) := (kC.get b (by omega)).trans ((kB2.get b (by omega)).trans ((kB.get b hb2).trans hb3))
              have hw : IntKind.i64.wrap ((i : Int) + 1) = (i : Int) + 1 := wrap64 (by omega) (by omega)
              have hopl := opn_le L
              have hw2 : IntKind.i64.wrap ((opn L : Int) + 1) = (opn L : Int) + 1 := wrap64 (by omega) (by omega)
              have hon : opn (L ++ [stR r]) = opn L + (if isOpen (stR r) then 1 else 0) := by unfold opn; rw [List.countP_append, List.countP_cons]; simp
              have fin : ∀ HF, IHeap.upd [p] H5 HF → HF.get p = some (.cells [.slice (some ⟨HC.next, 0, none⟩) (L.length + 1) (UNK + 6), .int .i64 (opn (L ++ [stR r]))] false) →
                  ∃ m, m < k' + 1 ∧ ∃ i', i' + m = n.toNat ∧ ∃ q' bs' L', L'.length = i' ∧ (i : Int) + 1 = (i' : Int) ∧ H.le HF ∧ IsS HF p q' bs' L' ∧ ∃ r', IsR HF pr r' ∧ (∀ b ∈ foot p q' bs' L', H.next ≤ b ∧ ¬ b = pr) ∧ rdL n.toNat [] r0 = rdL m L' r' := by
                intro HF uF gF
                have nF := uF.next
                refine ⟨k', by omega, i + 1, by omega, HC.next, _, L ++ [stR r], by simp [hLi], by simp, ?_, mC.grow (okR_ok hok) hlen (by omega) hgb (by omega) (by omega) (fun j hj => by have := hbA j hj; omega) g5 n5 u5 uF gF, (sE r).1, ⟨by omega, re.2.1, ?_⟩, fun b' hb' => ?_, hrd⟩
                · have hpf2 := (hft p (p_foot ..)).1
                  have hqf2 := (hft q (q_foot ..)).1
                  exact ((k5.trans kC).updLe u5 (by simp; omega)).updLe uF (by simp; omega)
                · have e1 := (hft p (p_foot ..)).2
                  have e2 := (hft q (q_foot ..)).2
                  rw [uF.get pr (by omega) (by simp; omega), u5.get pr (by omega) (by simp; omega), kC.get pr (by omega), kB2.get pr (by omega), kB.get pr re.1]
                  exact re.2.2
                · rw [mem_foot] at hb'
                  rcases hb' with rfl | rfl | ⟨j, hj, rfl⟩
                  · exact hft _ (p_foot ..)
                  · exact ⟨by omega, by omega⟩
                  · simp only [List.length_append, List.length_singleton] at hj
                    split
                    · exact ⟨by omega, by omega⟩
                    · exact hft _ (b_foot (by omega))
              by_cases h3 : (sA r).2 = 3
              · have hon2 : opn (L ++ [stR r]) = opn L := by rw [hon]; simp [isOpen, stR, h3]
                simp -implicitDefEqProofs [J0,J1,J2,J3,J4,J5,J6,J7,J8,J9,Ja,Jb,Jc,Jd,Je,Jf,Jg,Jh,Ji,Jj,Jk,Jl,Jm,Jn,Jo,Jp,Jq,Jr,Js,Jt,Ju,Jv,Jw,Jx,Jy,Jz,JA,JB,JC,JD,JE,JF,JG,JH,JI,JJ,JK,JL,JM,JN,JO,JP,stillI,IOp.kind,JQ,JR,JS,JT,JU,JV,JW,JX,JY,JZ,Y0,Y1,Y2,Y3,Y4,Y5,Y6,Y7,Y8,Y9,Ya,Yb,Yc,Yd,Ye,Yf,Yg,Yh,Yi,Yj,Yk,Yl,Ym,Yn,ial,Yo,Yp,Yq,Yr,Ys,Yt,Yu,Yv,ires,iresL,ires1,Yw,Yx,Yy,Yz,YA,YB,bin2,YC,YD,YE,YF,YG,YH,YI,YJ,YK,YL,YM,YN,YO,YP,YQ,YR,un1,shOk,eqL,eq1,fillL,putAt,IHeap.load1,IHeap.loadL,IHeap.storeL,YS,YT,YU,YV,YW,YX,YY,YZ,B0,B1,B2,B3,B4,B5,B6,B7,B8,B9,Ba,Bb,Bc,Bd,Be,Bf,Bg,Bh,Bi,Bj,Bk,Bl,Bm, t4, t5, t20, t21, gB2, hs1, hs3, t5, hg, ← hHC, lenOfI, f1, e5, gp5, gx5, hpA, Ne.symm hpA, hw]
                simp -implicitDefEqProofs [J0,J1,J2,J3,J4,J5,J6,J7,J8,J9,Ja,Jb,Jc,Jd,Je,Jf,Jg,Jh,Ji,Jj,Jk,Jl,Jm,Jn,Jo,Jp,Jq,Jr,Js,Jt,Ju,Jv,Jw,Jx,Jy,Jz,JA,JB,JC,JD,JE,JF,JG,JH,JI,JJ,JK,JL,JM,JN,JO,JP,stillI,IOp.kind,JQ,JR,JS,JT,JU,JV,JW,JX,JY,JZ,Y0,Y1,Y2,Y3,Y4,Y5,Y6,Y7,Y8,Y9,Ya,Yb,Yc,Yd,Ye,Yf,Yg,Yh,Yi,Yj,Yk,Yl,Ym,Yn,ial,Yo,Yp,Yq,Yr,Ys,Yt,Yu,Yv,ires,iresL,ires1,Yw,Yx,Yy,Yz,YA,YB,bin2,YC,YD,YE,YF,YG,YH,YI,YJ,YK,YL,YM,YN,YO,YP,YQ,YR,un1,shOk,eqL,eq1,fillL,putAt,IHeap.load1,IHeap.loadL,IHeap.storeL,YS,YT,YU,YV,YW,YX,YY,YZ,B0,B1,B2,B3,B4,B5,B6,B7,B8,B9,Ba,Bb,Bc,Bd,Be,Bf,Bg,Bh,Bi,Bj,Bk,Bl,Bm, t4, t5, t20, t21, gp5, gx5, hpA, Ne.symm hpA, h3, hw]
                exact fin _ ((IHeap.upd_refl _ _).set (i := p) (.inr (List.mem_singleton.2 rfl)) _) (by rw [YT, if_pos rfl, hon2]; try rfl)
              · have hon2 : opn (L ++ [stR r]) = opn L + 1 := by rw [hon]; simp [isOpen, stR, h3]
                simp -implicitDefEqProofs [J0,J1,J2,J3,J4,J5,J6,J7,J8,J9,Ja,Jb,Jc,Jd,Je,Jf,Jg,Jh,Ji,Jj,Jk,Jl,Jm,Jn,Jo,Jp,Jq,Jr,Js,Jt,Ju,Jv,Jw,Jx,Jy,Jz,JA,JB,JC,JD,JE,JF,JG,JH,JI,JJ,JK,JL,JM,JN,JO,JP,stillI,IOp.kind,JQ,JR,JS,JT,JU,JV,JW,JX,JY,JZ,Y0,Y1,Y2,Y3,Y4,Y5,Y6,Y7,Y8,Y9,Ya,Yb,Yc,Yd,Ye,Yf,Yg,Yh,Yi,Yj,Yk,Yl,Ym,Yn,ial,Yo,Yp,Yq,Yr,Ys,Yt,Yu,Yv,ires,iresL,ires1,Yw,Yx,Yy,Yz,YA,YB,bin2,YC,YD,YE,YF,YG,YH,YI,YJ,YK,YL,YM,YN,YO,YP,YQ,YR,un1,shOk,eqL,eq1,fillL,putAt,IHeap.load1,IHeap.loadL,IHeap.storeL,YS,YT,YU,YV,YW,YX,YY,YZ,B0,B1,B2,B3,B4,B5,B6,B7,B8,B9,Ba,Bb,Bc,Bd,Be,Bf,Bg,Bh,Bi,Bj,Bk,Bl,Bm, t4, t5, t20, t21, gB2, hs1, hs3, t5, hg, ← hHC, lenOfI, f1, e5, gp5, gx5, hpA, Ne.symm hpA, h3, hw, hw2]
                exact fin _ (((IHeap.upd_refl _ _).set (i := p) (.inr (List.mem_singleton.2 rfl)) _).set (i := p) (.inr (List.mem_singleton.2 rfl)) _) (by rw [YT, if_pos rfl, hon2]; try rfl)
      · have hk0 : k = 0 := by omega
        subst hk0
        rw [hrd] at h0 h1
        simp only [rdL] at h0 h1
        simp -implicitDefEqProofs [J0,J1,J2,J3,J4,J5,J6,J7,J8,J9,Ja,Jb,Jc,Jd,Je,Jf,Jg,Jh,Ji,Jj,Jk,Jl,Jm,Jn,Jo,Jp,Jq,Jr,Js,Jt,Ju,Jv,Jw,Jx,Jy,Jz,JA,JB,JC,JD,JE,JF,JG,JH,JI,JJ,JK,JL,JM,JN,JO,JP,stillI,IOp.kind,JQ,JR,JS,JT,JU,JV,JW,JX,JY,JZ,Y0,Y1,Y2,Y3,Y4,Y5,Y6,Y7,Y8,Y9,Ya,Yb,Yc,Yd,Ye,Yf,Yg,Yh,Yi,Yj,Yk,Yl,Ym,Yn,ial,Yo,Yp,Yq,Yr,Ys,Yt,Yu,Yv,ires,iresL,ires1,Yw,Yx,Yy,Yz,YA,YB,bin2,YC,YD,YE,YF,YG,YH,YI,YJ,YK,YL,YM,YN,YO,YP,YQ,YR,un1,shOk,eqL,eq1,fillL,putAt,IHeap.load1,IHeap.loadL,IHeap.storeL,YS,YT,YU,YV,YW,YX,YY,YZ,B0,B1,B2,B3,B4,B5,B6,B7,B8,B9,Ba,Bb,Bc,Bd,Be,Bf,Bg,Bh,Bi,Bj,Bk,Bl,Bm, t4, t5, t20, t21, hil]
        refine call_of (RDone_ok c hC hr ?_)
        obtain ⟨a, cp, hu⟩ := hS.u
        by_cases hE : rdE r = 0
        · by_cases hO : opn L ≤ 256
          · have hO' : ¬ (256 : Int) < (opn L : Int) := by omega
            simp -implicitDefEqProofs [J0,J1,J2,J3,J4,J5,J6,J7,J8,J9,Ja,Jb,Jc,Jd,Je,Jf,Jg,Jh,Ji,Jj,Jk,Jl,Jm,Jn,Jo,Jp,Jq,Jr,Js,Jt,Ju,Jv,Jw,Jx,Jy,Jz,JA,JB,JC,JD,JE,JF,JG,JH,JI,JJ,JK,JL,JM,JN,JO,JP,stillI,IOp.kind,JQ,JR,JS,JT,JU,JV,JW,JX,JY,JZ,Y0,Y1,Y2,Y3,Y4,Y5,Y6,Y7,Y8,Y9,Ya,Yb,Yc,Yd,Ye,Yf,Yg,Yh,Yi,Yj,Yk,Yl,Ym,Yn,ial,Yo,Yp,Yq,Yr,Ys,Yt,Yu,Yv,ires,iresL,ires1,Yw,Yx,Yy,Yz,YA,YB,bin2,YC,YD,YE,YF,YG,YH,YI,YJ,YK,YL,YM,YN,YO,YP,YQ,YR,un1,shOk,eqL,eq1,fillL,putAt,IHeap.load1,IHeap.loadL,IHeap.storeL,YS,YT,YU,YV,YW,YX,YY,YZ,B0,B1,B2,B3,B4,B5,B6,B7,B8,B9,Ba,Bb,Bc,Bd,Be,Bf,Bg,Bh,Bi,Bj,Bk,Bl,Bm, hE, hu, hO, hO', t5]
            exact h1 L (by rw [if_pos ⟨hE, hO⟩]) p q bs _ hle hS fun b hb => (hft b hb).1
          · have hO' : (256 : Int) < (opn L : Int) := by omega
            simp -implicitDefEqProofs [J0,J1,J2,J3,J4,J5,J6,J7,J8,J9,Ja,Jb,Jc,Jd,Je,Jf,Jg,Jh,Ji,Jj,Jk,Jl,Jm,Jn,Jo,Jp,Jq,Jr,Js,Jt,Ju,Jv,Jw,Jx,Jy,Jz,JA,JB,JC,JD,JE,JF,JG,JH,JI,JJ,JK,JL,JM,JN,JO,JP,stillI,IOp.kind,JQ,JR,JS,JT,JU,JV,JW,JX,JY,JZ,Y0,Y1,Y2,Y3,Y4,Y5,Y6,Y7,Y8,Y9,Ya,Yb,Yc,Yd,Ye,Yf,Yg,Yh,Yi,Yj,Yk,Yl,Ym,Yn,ial,Yo,Yp,Yq,Yr,Ys,Yt,Yu,Yv,ires,iresL,ires1,Yw,Yx,Yy,Yz,YA,YB,bin2,YC,YD,YE,YF,YG,YH,YI,YJ,YK,YL,YM,YN,YO,YP,YQ,YR,un1,shOk,eqL,eq1,fillL,putAt,IHeap.load1,IHeap.loadL,IHeap.storeL,YS,YT,YU,YV,YW,YX,YY,YZ,B0,B1,B2,B3,B4,B5,B6,B7,B8,B9,Ba,Bb,Bc,Bd,Be,Bf,Bg,Bh,Bi,Bj,Bk,Bl,Bm, hE, hu, hO, hO', t5]
            exact h0 (by rw [if_neg (fun hh => hO hh.2)]) _ hle
        · simp -implicitDefEqProofs [J0,J1,J2,J3,J4,J5,J6,J7,J8,J9,Ja,Jb,Jc,Jd,Je,Jf,Jg,Jh,Ji,Jj,Jk,Jl,Jm,Jn,Jo,Jp,Jq,Jr,Js,Jt,Ju,Jv,Jw,Jx,Jy,Jz,JA,JB,JC,JD,JE,JF,JG,JH,JI,JJ,JK,JL,JM,JN,JO,JP,stillI,IOp.kind,JQ,JR,JS,JT,JU,JV,JW,JX,JY,JZ,Y0,Y1,Y2,Y3,Y4,Y5,Y6,Y7,Y8,Y9,Ya,Yb,Yc,Yd,Ye,Yf,Yg,Yh,Yi,Yj,Yk,Yl,Ym,Yn,ial,Yo,Yp,Yq,Yr,Ys,Yt,Yu,Yv,ires,iresL,ires1,Yw,Yx,Yy,Yz,YA,YB,bin2,YC,YD,YE,YF,YG,YH,YI,YJ,YK,YL,YM,YN,YO,YP,YQ,YR,un1,shOk,eqL,eq1,fillL,putAt,IHeap.load1,IHeap.loadL,IHeap.storeL,YS,YT,YU,YV,YW,YX,YY,YZ,B0,B1,B2,B3,B4,B5,B6,B7,B8,B9,Ba,Bb,Bc,Bd,Be,Bf,Bg,Bh,Bi,Bj,Bk,Bl,Bm, hE, hu, t5]
          exact h0 (by rw [if_neg (fun hh => hE hh.1)]) _ hle

end
end Go.Proofs.YtmdkkhnenciknaaI
