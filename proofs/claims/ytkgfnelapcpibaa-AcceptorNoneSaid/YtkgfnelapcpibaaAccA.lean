/- Who accepts: plain laws, how it stands in the heap, where a slot is. -/
import Derived.Test.YtkgfnelapcpibaaInsW
import Derived.Test.YtkgfnelapcpibaaBalC
namespace Go.Proofs.YtkgfnelapcpibaaI
set_option linter.unusedSimpArgs false
set_option linter.unusedVariables false
open Go

theorem wrapU17 {n : Int} (h : 0 ≤ n) (k : n < 18446744073709551616) : IntKind.u64.wrap n = n := by
  have e1 : (2 ^ IntKind.u64.bits : Int) = 18446744073709551616 := by decide
  unfold IntKind.wrap
  simp only [e1, IntKind.signed, Bool.false_and]
  rw [if_neg (by simp)]
  omega
theorem shrU17 (a : Nat) : shrW .u64 (a : Int) 1 = ((a / 2 : Nat) : Int) := by
  have e : (2 : Int) ^ min (Int.toNat 1) IntKind.u64.bits = 2 := by decide
  unfold shrW
  rw [e, Int.fdiv_eq_ediv_of_nonneg _ (by omega)]
  omega
theorem row_get {cs r : List Value} {p n : Nat} (h : (cs.drop p).take n = r) (j : Nat) (hj : j < n) : cs[p + j]? = r[j]? := by
  rw [← h, List.getElem?_take, if_pos hj, List.getElem?_drop]

/-- A vote. -/
structure VoteD where
  slot : Int
  a : Int
  n : Int
  val : ByteArray
  deriving DecidableEq
def rowV (v : VoteD) : List Value := [.int .i64 v.slot, .int .i64 v.a, .int .i64 v.n, .string v.val]
def vV (v : VoteD) : Value := .agg #[.int .i64 v.slot, .int .i64 v.a, .int .i64 v.n, .string v.val]
def Sorted (L : List VoteD) : Prop := L.Pairwise fun a b => a.slot < b.slot
/-- Where a slot stands, or would. -/
def posV (s : Int) : List VoteD → Nat
  | [] => 0
  | v :: L => if v.slot < s then posV s L + 1 else 0
def thereV (L : List VoteD) (s : Int) : Bool := match L[posV s L]? with | some v => decide (v.slot = s) | none => false
theorem posV_le (s : Int) : ∀ L : List VoteD, posV s L ≤ L.length
  | [] => Nat.le_refl _
  | v :: L => by
    have := posV_le s L
    simp only [posV, List.length_cons]
    split <;> omega
theorem posV_lt {s : Int} : ∀ {L : List VoteD} {i : Nat} {v : VoteD}, i < posV s L → L[i]? = some v → v.slot < s
  | [], i, v, h, _ => by simp [posV] at h
  | w :: L, i, v, h, hv => by
    simp only [posV] at h
    split at h
    · cases i with
      | zero =>
        simp only [List.getElem?_cons_zero, Option.some.injEq] at hv
        subst hv; assumption
      | succ i => exact posV_lt (L := L) (i := i) (by omega) hv
    · omega
theorem posV_ge {s : Int} : ∀ {L : List VoteD}, Sorted L → ∀ {i : Nat} {v : VoteD}, posV s L ≤ i → L[i]? = some v → s ≤ v.slot
  | [], _, i, v, _, hv => by simp at hv
  | w :: L, hs, i, v, h, hv => by
    have hs' := List.pairwise_cons.1 hs
    simp only [posV] at h
    split at h
    · obtain ⟨j, rfl⟩ : ∃ j, i = j + 1 := ⟨i - 1, by omega⟩
      exact posV_ge (L := L) hs'.2 (i := j) (by omega) hv
    · rename_i hn
      cases i with
      | zero =>
        simp only [List.getElem?_cons_zero, Option.some.injEq] at hv
        subst hv; omega
      | succ i =>
        have := hs'.1 v (List.mem_of_getElem? hv)
        omega
def fromV (L : List VoteD) (s : Int) : List VoteD := L.filter fun v => decide (s ≤ v.slot)
theorem fromV_drop {s : Int} : ∀ {L : List VoteD}, Sorted L → fromV L s = L.drop (posV s L)
  | [], _ => rfl
  | w :: L, hs => by
    have hs' := List.pairwise_cons.1 hs
    have ih := fromV_drop (s := s) hs'.2
    unfold fromV at ih ⊢
    simp only [posV, List.filter_cons]
    by_cases h : w.slot < s
    · rw [if_pos h, if_neg (by simp; omega), ih]; rfl
    · rw [if_neg h, if_pos (by simp; omega), List.drop_zero]
      congr 1
      rw [List.filter_eq_self]
      intro v hv
      have := hs'.1 v hv
      simp; omega
/-- With a vote. -/
def putV (L : List VoteD) (v : VoteD) : List VoteD := (L.filter fun x => decide (x.slot < v.slot)) ++ v :: (L.filter fun x => decide (v.slot < x.slot))
theorem lessV {s : Int} : ∀ {L : List VoteD}, Sorted L → (L.filter fun x => decide (x.slot < s)) = L.take (posV s L)
  | [], _ => rfl
  | w :: L, hs => by
    have hs' := List.pairwise_cons.1 hs
    have ih := lessV (s := s) hs'.2
    simp only [posV, List.filter_cons]
    by_cases h : w.slot < s
    · rw [if_pos h, if_pos (by simpa using h), ih]; rfl
    · rw [if_neg h, if_neg (by simpa using h), List.take_zero]
      rw [List.filter_eq_nil_iff]
      intro v hv
      have := hs'.1 v hv
      simp; omega
theorem moreV {L : List VoteD} (hs : Sorted L) (s : Int) : (L.filter fun x => decide (s < x.slot)) = L.drop (posV s L + if thereV L s then 1 else 0) := by
  have h1 : (L.filter fun x => decide (s < x.slot)) = fromV L (s + 1) := by
    unfold fromV
    congr 1
  rw [h1, fromV_drop hs]
  congr 1
  clear h1
  induction L with
  | nil => rfl
  | cons w L ih =>
    have hs' := List.pairwise_cons.1 hs
    simp only [posV]
    by_cases h : w.slot < s
    · rw [if_pos h, if_pos (by omega), ih hs'.2]
      have : thereV (w :: L) s = thereV L s := by simp [thereV, posV, h]
      rw [this]; omega
    · rw [if_neg h]
      by_cases he : w.slot = s
      · have : thereV (w :: L) s = true := by simp [thereV, posV, h, he]
        rw [if_pos (by omega), this, if_pos rfl]
        have hz : posV (s + 1) L = 0 := by
          cases L with
          | nil => rfl
          | cons u L =>
            have := hs'.1 u (by simp)
            simp only [posV]
            rw [if_neg (by omega)]
        omega
      · have : thereV (w :: L) s = false := by simp [thereV, posV, h, he]
        rw [if_neg (by omega), this]; simp
theorem putV_in {L : List VoteD} (hs : Sorted L) {v : VoteD} (h : thereV L v.slot = true) : putV L v = L.set (posV v.slot L) v := by
  have hp : posV v.slot L < L.length := by
    unfold thereV at h
    cases hq : L[posV v.slot L]? with
    | none => rw [hq] at h; cases h
    | some w => exact (List.getElem?_eq_some_iff.1 hq).1
  rw [putV, lessV hs, moreV hs, h, if_pos rfl, List.set_eq_take_append_cons_drop, if_pos hp]
theorem putV_new {L : List VoteD} (hs : Sorted L) {v : VoteD} (h : thereV L v.slot = false) : putV L v = L.take (posV v.slot L) ++ v :: L.drop (posV v.slot L) := by
  rw [putV, lessV hs, moreV hs, h]
  simp
theorem putV_sorted {L : List VoteD} (hs : Sorted L) (v : VoteD) : Sorted (putV L v) := by
  unfold Sorted putV
  rw [List.pairwise_append]
  refine ⟨hs.filter _, List.pairwise_cons.2 ⟨fun x hx => ?_, hs.filter _⟩, fun x hx y hy => ?_⟩
  · simpa using (List.mem_filter.1 hx).2
  · have h1 : x.slot < v.slot := by simpa using (List.mem_filter.1 hx).2
    rcases List.mem_cons.1 hy with rfl | hy
    · exact h1
    · have h2 : v.slot < y.slot := by simpa using (List.mem_filter.1 hy).2
      omega
theorem putV_len (L : List VoteD) (v : VoteD) : (putV L v).length ≤ L.length + 1 := by
  unfold putV
  rw [List.length_append, List.length_cons]
  have : ∀ L : List VoteD, (L.filter fun x => decide (x.slot < v.slot)).length + (L.filter fun x => decide (v.slot < x.slot)).length ≤ L.length := by
    intro L
    induction L with
    | nil => simp
    | cons w L ih =>
      simp only [List.filter_cons, List.length_cons]
      by_cases h1 : w.slot < v.slot
      · rw [if_pos (by simpa using h1), if_neg (by simp; omega)]
        simp only [List.length_cons]; omega
      · rw [if_neg (by simpa using h1)]
        split
        · simp only [List.length_cons]; omega
        · omega
  have := this L
  omega

/-- What it knows. -/
structure Acc where
  pa : Int
  pn : Int
  base : Int
  L : List VoteD
def Acc.may (A : Acc) (a n : Int) : Bool := validB a n && decide (0 ≤ cmpB a n A.pa A.pn)
def Acc.promise (A : Acc) (a n s : Int) : Acc × List VoteD × Bool := if A.may a n = false ∨ s < A.base then (A, [], false) else ({ A with pa := a, pn := n }, fromV A.L s, true)
def Acc.accept (A : Acc) (v : VoteD) : Acc × Bool :=
  if A.may v.a v.n = false ∨ v.slot < A.base ∨ 1024 ≤ v.slot ∨ (4096 : Int) < v.val.data.toList.length then (A, false) else ({ A with pa := v.a, pn := v.n, L := putV A.L v }, true)
def minI (a b : Int) : Int := if b < a then b else a
def maxI (a b : Int) : Int := if b > a then b else a
def Acc.trim (A : Acc) (u : Int) : Acc × Int := ({ A with base := maxI A.base (minI u 1024), L := fromV A.L (minI u 1024) }, (posV (minI u 1024) A.L : Nat))

theorem rowV_four (L : List VoteD) : ∀ r ∈ L.map rowV, r.length = 4 := by
  intro r hr
  obtain ⟨v, _, rfl⟩ := List.mem_map.1 hr
  rfl
theorem rowV_one (L : List VoteD) : (L.map rowV).flatten.all one1 = true := by
  rw [List.all_eq_true]
  intro x hx
  obtain ⟨r, hr, hx⟩ := List.mem_flatten.1 hx
  obtain ⟨v, _, rfl⟩ := List.mem_map.1 hr
  simp only [rowV, List.mem_cons, List.not_mem_nil, or_false] at hx
  rcases hx with rfl | rfl | rfl | rfl <;> rfl

structure IsA (H : IHeap) (p q : Nat) (A : Acc) : Prop where
  lt : p < H.next
  ne : p ≠ q
  rep : ∃ u, H.get p = some (.cells [.int .i64 A.pa, .int .i64 A.pn, .int .i64 A.base, u] false) ∧ VS H q u (A.L.map rowV)
  sorted : Sorted A.L
theorem IsA.upd {H H' : IHeap} {S : List Nat} {p q : Nat} {A : Acc} (h : IsA H p q A) (hu : IHeap.upd S H H') (hp : p ∉ S) (hq : q ∉ S) : IsA H' p q A := by
  obtain ⟨u, g1, g2⟩ := h.rep
  exact ⟨Nat.lt_of_lt_of_le h.lt hu.next, h.ne, ⟨u, (hu.get p h.lt hp).trans g1, g2.upd hu hq⟩, h.sorted⟩
theorem IsA.le {H H' : IHeap} {p q : Nat} {A : Acc} (h : IsA H p q A) (hu : H.le H') : IsA H' p q A := h.upd (hu.upd []) (by simp) (by simp)

section
variable (c : Ctx) (hc : HasAcc c) {H : IHeap} {K : Value → IHeap → Prop}
include hc

theorem findF_ok {v : VoteD} {s : Int} (hK : ∀ H', H.le H' → K (.int .i64 (if v.slot < s then -1 else if s < v.slot then 1 else 0)) H') : c.C (c.F n_acceptor_Acceptor_find_F1) [vV v, .int .i64 s] H K := by
  refine c.enter hc.acceptor_Acceptor_find_F1 rfl ?_
  have kA : ∀ y, H.le (H.alloc y) := fun y => H.le_alloc y
  by_cases h1 : v.slot < s
  · rw [if_pos h1] at hK
    simp -implicitDefEqProofs [J0,J1,J2,J3,J4,J5,J6,J7,J8,J9,Ja,Jb,Jc,Jd,Je,Jf,Jg,Jh,Ji,Jj,Jk,Jl,Jm,Jn,Jo,Jp,Jq,Jr,Js,Jt,Ju,Jv,Jw,Jx,Jy,Jz,JA,JB,JC,JD,JE,JF,JG,JH,JI,JJ,JK,JL,JM,JN,JO,JP,stillI,IOp.kind,JQ,JR,JS,JT,JU,JV,JW,JX,JY,JZ,Y0,Y1,Y2,Y3,Y4,Y5,Y6,Y7,Y8,Y9,Ya,Yb,Yc,Yd,Ye,Yf,Yg,Yh,Yi,Yj,Yk,Yl,Ym,Yn,ial,Yo,Yp,Yq,Yr,Ys,Yt,Yu,Yv,ires,iresL,ires1,Yw,Yx,Yy,Yz,YA,YB,bin2,YC,YD,YE,YF,YG,YH,YI,YJ,YK,YL,YM,YN,YO,YP,YQ,YR,un1,shOk,eqL,eq1,fillL,putAt,IHeap.load1,IHeap.loadL,IHeap.storeL,YS,YT,YU,YV,YW,YX,YY,YZ,B0,B1,B2,B3,B4,B5,B6,B7,B8,B9,Ba,Bb,Bc,Bd,Be,Bf,Bg,Bh,Bi,Bj,Bk,Bl,Bm, c_acceptor_Acceptor_find_F1, vV, h1]
    exact hK _ (kA _)
  · rw [if_neg h1] at hK
    by_cases h2 : s < v.slot
    · rw [if_pos h2] at hK
      simp -implicitDefEqProofs [J0,J1,J2,J3,J4,J5,J6,J7,J8,J9,Ja,Jb,Jc,Jd,Je,Jf,Jg,Jh,Ji,Jj,Jk,Jl,Jm,Jn,Jo,Jp,Jq,Jr,Js,Jt,Ju,Jv,Jw,Jx,Jy,Jz,JA,JB,JC,JD,JE,JF,JG,JH,JI,JJ,JK,JL,JM,JN,JO,JP,stillI,IOp.kind,JQ,JR,JS,JT,JU,JV,JW,JX,JY,JZ,Y0,Y1,Y2,Y3,Y4,Y5,Y6,Y7,Y8,Y9,Ya,Yb,Yc,Yd,Ye,Yf,Yg,Yh,Yi,Yj,Yk,Yl,Ym,Yn,ial,Yo,Yp,Yq,Yr,Ys,Yt,Yu,Yv,ires,iresL,ires1,Yw,Yx,Yy,Yz,YA,YB,bin2,YC,YD,YE,YF,YG,YH,YI,YJ,YK,YL,YM,YN,YO,YP,YQ,YR,un1,shOk,eqL,eq1,fillL,putAt,IHeap.load1,IHeap.loadL,IHeap.storeL,YS,YT,YU,YV,YW,YX,YY,YZ,B0,B1,B2,B3,B4,B5,B6,B7,B8,B9,Ba,Bb,Bc,Bd,Be,Bf,Bg,Bh,Bi,Bj,Bk,Bl,Bm, c_acceptor_Acceptor_find_F1, vV, h1, h2]
      exact hK _ (kA _)
    · rw [if_neg h2] at hK
      simp -implicitDefEqProofs [J0,J1,J2,J3,J4,J5,J6,J7,J8,J9,Ja,Jb,Jc,Jd,Je,Jf,Jg,Jh,Ji,Jj,Jk,Jl,Jm,Jn,Jo,Jp,Jq,Jr,Js,Jt,Ju,Jv,Jw,Jx,Jy,Jz,JA,JB,JC,JD,JE,JF,JG,JH,JI,JJ,JK,JL,JM,JN,JO,JP,stillI,IOp.kind,JQ,JR,JS,JT,JU,JV,JW,JX,JY,JZ,Y0,Y1,Y2,Y3,Y4,Y5,Y6,Y7,Y8,Y9,Ya,Yb,Yc,Yd,Ye,Yf,Yg,Yh,Yi,Yj,Yk,Yl,Ym,Yn,ial,Yo,Yp,Yq,Yr,Ys,Yt,Yu,Yv,ires,iresL,ires1,Yw,Yx,Yy,Yz,YA,YB,bin2,YC,YD,YE,YF,YG,YH,YI,YJ,YK,YL,YM,YN,YO,YP,YQ,YR,un1,shOk,eqL,eq1,fillL,putAt,IHeap.load1,IHeap.loadL,IHeap.storeL,YS,YT,YU,YV,YW,YX,YY,YZ,B0,B1,B2,B3,B4,B5,B6,B7,B8,B9,Ba,Bb,Bc,Bd,Be,Bf,Bg,Bh,Bi,Bj,Bk,Bl,Bm, c_acceptor_Acceptor_find_F1, vV, h1, h2]
      exact hK _ (kA _)

theorem search_ok {u : Value} {L : List VoteD} {s : Int} (hu : SlR H 4 u (L.map rowV)) (hs : Sorted L) (hl : L.length ≤ 1000000) (hK : ∀ H', H.le H' → K (.tuple #[.int .i64 (posV s L : Nat), .bool (thereV L s)]) H') :
    c.C (c.F n_slices_BinarySearchFunc_api_Vote_api_Vote_int) [u, .int .i64 s, .func (.func (c.F n_acceptor_Acceptor_find_F1)) #[] #[]] H K := by
  refine c.enter hc.slices_BinarySearchFunc_api_Vote_api_Vote_int rfl ?_
  have hu' := hu
  obtain ⟨a, cap, rfl, _⟩ := hu
  simp only [List.length_map] at hu' ⊢
  have hple := posV_le s L
  have kk : ∀ {P : Prop}, (0 : Int) ≤ 1 := by omega
  simp -implicitDefEqProofs [J0,J1,J2,J3,J4,J5,J6,J7,J8,J9,Ja,Jb,Jc,Jd,Je,Jf,Jg,Jh,Ji,Jj,Jk,Jl,Jm,Jn,Jo,Jp,Jq,Jr,Js,Jt,Ju,Jv,Jw,Jx,Jy,Jz,JA,JB,JC,JD,JE,JF,JG,JH,JI,JJ,JK,JL,JM,JN,JO,JP,stillI,IOp.kind,JQ,JR,JS,JT,JU,JV,JW,JX,JY,JZ,Y0,Y1,Y2,Y3,Y4,Y5,Y6,Y7,Y8,Y9,Ya,Yb,Yc,Yd,Ye,Yf,Yg,Yh,Yi,Yj,Yk,Yl,Ym,Yn,ial,Yo,Yp,Yq,Yr,Ys,Yt,Yu,Yv,ires,iresL,ires1,Yw,Yx,Yy,Yz,YA,YB,bin2,YC,YD,YE,YF,YG,YH,YI,YJ,YK,YL,YM,YN,YO,YP,YQ,YR,un1,shOk,eqL,eq1,fillL,putAt,IHeap.load1,IHeap.loadL,IHeap.storeL,YS,YT,YU,YV,YW,YX,YY,YZ,B0,B1,B2,B3,B4,B5,B6,B7,B8,B9,Ba,Bb,Bc,Bd,Be,Bf,Bg,Bh,Bi,Bj,Bk,Bl,Bm, c_slices_BinarySearchFunc_api_Vote_api_Vote_int]
  refine loop_nat c.mono (fun k T H' => ∃ lo hi : Nat, lo ≤ hi ∧ lo ≤ posV s L ∧ posV s L ≤ hi ∧ hi ≤ L.length ∧ k = hi - lo ∧ T 0 = .slice a L.length cap ∧ T 1 = .int .i64 s ∧ T 2 = .func (.func (c.F n_acceptor_Acceptor_find_F1)) #[] #[] ∧ T 8 = .int .i64 L.length ∧ T 9 = .int .i64 lo ∧ T 10 = .int .i64 hi ∧ H.le H') L.length ?_ ?_
  · refine ⟨0, L.length, by omega, by omega, by omega, by omega, by omega, ?_⟩
    simp -implicitDefEqProofs [J0,J1,J2,J3,J4,J5,J6,J7,J8,J9,Ja,Jb,Jc,Jd,Je,Jf,Jg,Jh,Ji,Jj,Jk,Jl,Jm,Jn,Jo,Jp,Jq,Jr,Js,Jt,Ju,Jv,Jw,Jx,Jy,Jz,JA,JB,JC,JD,JE,JF,JG,JH,JI,JJ,JK,JL,JM,JN,JO,JP,stillI,IOp.kind,JQ,JR,JS,JT,JU,JV,JW,JX,JY,JZ,Y0,Y1,Y2,Y3,Y4,Y5,Y6,Y7,Y8,Y9,Ya,Yb,Yc,Yd,Ye,Yf,Yg,Yh,Yi,Yj,Yk,Yl,Ym,Yn,ial,Yo,Yp,Yq,Yr,Ys,Yt,Yu,Yv,ires,iresL,ires1,Yw,Yx,Yy,Yz,YA,YB,bin2,YC,YD,YE,YF,YG,YH,YI,YJ,YK,YL,YM,YN,YO,YP,YQ,YR,un1,shOk,eqL,eq1,fillL,putAt,IHeap.load1,IHeap.loadL,IHeap.storeL,YS,YT,YU,YV,YW,YX,YY,YZ,B0,B1,B2,B3,B4,B5,B6,B7,B8,B9,Ba,Bb,Bc,Bd,Be,Bf,Bg,Bh,Bi,Bj,Bk,Bl,Bm]
    exact IHeap.le_refl _
  · rintro k T H' ⟨lo, hi, h1, h2, h3, h4, rfl, t0, t1, t2, t8, t9, t10, hle⟩
    by_cases hlh : lo < hi
    · have hlhI : (lo : Int) < (hi : Int) := by omega
      obtain ⟨mid, hmid⟩ : ∃ mid, mid = (lo + hi) / 2 := ⟨_, rfl⟩
      have hm1 : lo ≤ mid := by omega
      have hm2 : mid < hi := by omega
      have hmL : mid < L.length := by omega
      have hmI : (mid : Int) < (L.length : Int) := by omega
      have w1 : IntKind.i64.wrap ((lo : Int) + (hi : Int)) = ((lo + hi : Nat) : Int) := by rw [wrap64 (by omega) (by omega)]; omega
      have w2 : IntKind.u64.wrap ((lo + hi : Nat) : Int) = ((lo + hi : Nat) : Int) := wrapU17 (by omega) (by omega)
      have w3 : shrW .u64 ((lo + hi : Nat) : Int) 1 = (mid : Int) := by rw [shrU17, hmid]
      have w4 : IntKind.i64.wrap (mid : Int) = (mid : Int) := wrap64 (by omega) (by omega)
      have w5 : IntKind.i64.wrap ((mid : Int) + 1) = (mid : Int) + 1 := wrap64 (by omega) (by omega)
      obtain ⟨sm, hsm⟩ : ∃ sm, sm = ((lo + hi : Nat) : Int) := ⟨_, rfl⟩
      rw [← hsm] at w1 w2 w3
      have hx : L[mid]? = some L[mid] := List.getElem?_eq_getElem hmL
      obtain ⟨v, hv⟩ : ∃ v, v = L[mid] := ⟨_, rfl⟩
      rw [← hv] at hx
      obtain ⟨b, o, cp, cs, ro, ea, hb, hget, hrl, hrow, hbd⟩ := hu'.at (i := mid) (r := rowV v) (by simp [hx])
      rw [List.length_map] at ea
      simp only [Value.slice.injEq] at ea
      obtain ⟨rfl, -, rfl⟩ := ea
      simp only [rowV] at hrow
      have hget' := (hle.get b hb).trans hget
      simp -implicitDefEqProofs [J0,J1,J2,J3,J4,J5,J6,J7,J8,J9,Ja,Jb,Jc,Jd,Je,Jf,Jg,Jh,Ji,Jj,Jk,Jl,Jm,Jn,Jo,Jp,Jq,Jr,Js,Jt,Ju,Jv,Jw,Jx,Jy,Jz,JA,JB,JC,JD,JE,JF,JG,JH,JI,JJ,JK,JL,JM,JN,JO,JP,stillI,IOp.kind,JQ,JR,JS,JT,JU,JV,JW,JX,JY,JZ,Y0,Y1,Y2,Y3,Y4,Y5,Y6,Y7,Y8,Y9,Ya,Yb,Yc,Yd,Ye,Yf,Yg,Yh,Yi,Yj,Yk,Yl,Ym,Yn,ial,Yo,Yp,Yq,Yr,Ys,Yt,Yu,Yv,ires,iresL,ires1,Yw,Yx,Yy,Yz,YA,YB,bin2,YC,YD,YE,YF,YG,YH,YI,YJ,YK,YL,YM,YN,YO,YP,YQ,YR,un1,shOk,eqL,eq1,fillL,putAt,IHeap.load1,IHeap.loadL,IHeap.storeL,YS,YT,YU,YV,YW,YX,YY,YZ,B0,B1,B2,B3,B4,B5,B6,B7,B8,B9,Ba,Bb,Bc,Bd,Be,Bf,Bg,Bh,Bi,Bj,Bk,Bl,Bm, t0, t1, t2, t8, t9, t10, hlh, hlhI, w1, w2, w3, w4, hmL, hmI, hget', hrow, hbd]
      refine call_of (findF_ok c hc (v := v) fun H2 k2 => ?_)
      by_cases hc1 : v.slot < s
      · rw [if_pos hc1]
        have hgt : mid < posV s L := by
          refine Classical.byContradiction fun hn => ?_
          have := posV_ge (s := s) hs (i := mid) (by omega) hx
          omega
        simp -implicitDefEqProofs [J0,J1,J2,J3,J4,J5,J6,J7,J8,J9,Ja,Jb,Jc,Jd,Je,Jf,Jg,Jh,Ji,Jj,Jk,Jl,Jm,Jn,Jo,Jp,Jq,Jr,Js,Jt,Ju,Jv,Jw,Jx,Jy,Jz,JA,JB,JC,JD,JE,JF,JG,JH,JI,JJ,JK,JL,JM,JN,JO,JP,stillI,IOp.kind,JQ,JR,JS,JT,JU,JV,JW,JX,JY,JZ,Y0,Y1,Y2,Y3,Y4,Y5,Y6,Y7,Y8,Y9,Ya,Yb,Yc,Yd,Ye,Yf,Yg,Yh,Yi,Yj,Yk,Yl,Ym,Yn,ial,Yo,Yp,Yq,Yr,Ys,Yt,Yu,Yv,ires,iresL,ires1,Yw,Yx,Yy,Yz,YA,YB,bin2,YC,YD,YE,YF,YG,YH,YI,YJ,YK,YL,YM,YN,YO,YP,YQ,YR,un1,shOk,eqL,eq1,fillL,putAt,IHeap.load1,IHeap.loadL,IHeap.storeL,YS,YT,YU,YV,YW,YX,YY,YZ,B0,B1,B2,B3,B4,B5,B6,B7,B8,B9,Ba,Bb,Bc,Bd,Be,Bf,Bg,Bh,Bi,Bj,Bk,Bl,Bm, t0, t1, t2, t8, t9, t10, w5]
        exact ⟨hi - (mid + 1), by omega, mid + 1, hi, by omega, by omega, by omega, by omega, rfl, rfl, by simp, hle.trans k2⟩
      · rw [if_neg hc1]
        have hge : posV s L ≤ mid := by
          refine Classical.byContradiction fun hn => ?_
          have := posV_lt (s := s) (L := L) (i := mid) (by omega) hx
          omega
        by_cases hc2 : s < v.slot
        · rw [if_pos hc2]
          simp -implicitDefEqProofs [J0,J1,J2,J3,J4,J5,J6,J7,J8,J9,Ja,Jb,Jc,Jd,Je,Jf,Jg,Jh,Ji,Jj,Jk,Jl,Jm,Jn,Jo,Jp,Jq,Jr,Js,Jt,Ju,Jv,Jw,Jx,Jy,Jz,JA,JB,JC,JD,JE,JF,JG,JH,JI,JJ,JK,JL,JM,JN,JO,JP,stillI,IOp.kind,JQ,JR,JS,JT,JU,JV,JW,JX,JY,JZ,Y0,Y1,Y2,Y3,Y4,Y5,Y6,Y7,Y8,Y9,Ya,Yb,Yc,Yd,Ye,Yf,Yg,Yh,Yi,Yj,Yk,Yl,Ym,Yn,ial,Yo,Yp,Yq,Yr,Ys,Yt,Yu,Yv,ires,iresL,ires1,Yw,Yx,Yy,Yz,YA,YB,bin2,YC,YD,YE,YF,YG,YH,YI,YJ,YK,YL,YM,YN,YO,YP,YQ,YR,un1,shOk,eqL,eq1,fillL,putAt,IHeap.load1,IHeap.loadL,IHeap.storeL,YS,YT,YU,YV,YW,YX,YY,YZ,B0,B1,B2,B3,B4,B5,B6,B7,B8,B9,Ba,Bb,Bc,Bd,Be,Bf,Bg,Bh,Bi,Bj,Bk,Bl,Bm, t0, t1, t2, t8, t9, t10]
          exact ⟨mid - lo, by omega, lo, mid, by omega, by omega, by omega, by omega, rfl, rfl, by simp, hle.trans k2⟩
        · rw [if_neg hc2]
          simp -implicitDefEqProofs [J0,J1,J2,J3,J4,J5,J6,J7,J8,J9,Ja,Jb,Jc,Jd,Je,Jf,Jg,Jh,Ji,Jj,Jk,Jl,Jm,Jn,Jo,Jp,Jq,Jr,Js,Jt,Ju,Jv,Jw,Jx,Jy,Jz,JA,JB,JC,JD,JE,JF,JG,JH,JI,JJ,JK,JL,JM,JN,JO,JP,stillI,IOp.kind,JQ,JR,JS,JT,JU,JV,JW,JX,JY,JZ,Y0,Y1,Y2,Y3,Y4,Y5,Y6,Y7,Y8,Y9,Ya,Yb,Yc,Yd,Ye,Yf,Yg,Yh,Yi,Yj,Yk,Yl,Ym,Yn,ial,Yo,Yp,Yq,Yr,Ys,Yt,Yu,Yv,ires,iresL,ires1,Yw,Yx,Yy,Yz,YA,YB,bin2,YC,YD,YE,YF,YG,YH,YI,YJ,YK,YL,YM,YN,YO,YP,YQ,YR,un1,shOk,eqL,eq1,fillL,putAt,IHeap.load1,IHeap.loadL,IHeap.storeL,YS,YT,YU,YV,YW,YX,YY,YZ,B0,B1,B2,B3,B4,B5,B6,B7,B8,B9,Ba,Bb,Bc,Bd,Be,Bf,Bg,Bh,Bi,Bj,Bk,Bl,Bm, t0, t1, t2, t8, t9, t10]
          exact ⟨mid - lo, by omega, lo, mid, by omega, by omega, by omega, by omega, rfl, rfl, by simp, hle.trans k2⟩
    · have hlhI : ¬ (lo : Int) < (hi : Int) := by omega
      have hlp : lo = posV s L := by omega
      subst hlp
      by_cases hpl : posV s L < L.length
      · have hpI : (posV s L : Int) < (L.length : Int) := by omega
        have hx : L[posV s L]? = some L[posV s L] := List.getElem?_eq_getElem hpl
        obtain ⟨v, hv⟩ : ∃ v, v = L[posV s L] := ⟨_, rfl⟩
        rw [← hv] at hx
        have hth : thereV L s = decide (v.slot = s) := by simp [thereV, hx]
        rw [hth] at hK
        obtain ⟨b, o, cp, cs, ro, ea, hb, hget, hrl, hrow, hbd⟩ := hu'.at (i := posV s L) (r := rowV v) (by simp [hx])
        rw [List.length_map] at ea
        simp only [Value.slice.injEq] at ea
        obtain ⟨rfl, -, rfl⟩ := ea
        simp only [rowV] at hrow
        have hget' := (hle.get b hb).trans hget
        simp -implicitDefEqProofs [J0,J1,J2,J3,J4,J5,J6,J7,J8,J9,Ja,Jb,Jc,Jd,Je,Jf,Jg,Jh,Ji,Jj,Jk,Jl,Jm,Jn,Jo,Jp,Jq,Jr,Js,Jt,Ju,Jv,Jw,Jx,Jy,Jz,JA,JB,JC,JD,JE,JF,JG,JH,JI,JJ,JK,JL,JM,JN,JO,JP,stillI,IOp.kind,JQ,JR,JS,JT,JU,JV,JW,JX,JY,JZ,Y0,Y1,Y2,Y3,Y4,Y5,Y6,Y7,Y8,Y9,Ya,Yb,Yc,Yd,Ye,Yf,Yg,Yh,Yi,Yj,Yk,Yl,Ym,Yn,ial,Yo,Yp,Yq,Yr,Ys,Yt,Yu,Yv,ires,iresL,ires1,Yw,Yx,Yy,Yz,YA,YB,bin2,YC,YD,YE,YF,YG,YH,YI,YJ,YK,YL,YM,YN,YO,YP,YQ,YR,un1,shOk,eqL,eq1,fillL,putAt,IHeap.load1,IHeap.loadL,IHeap.storeL,YS,YT,YU,YV,YW,YX,YY,YZ,B0,B1,B2,B3,B4,B5,B6,B7,B8,B9,Ba,Bb,Bc,Bd,Be,Bf,Bg,Bh,Bi,Bj,Bk,Bl,Bm, t0, t1, t2, t8, t9, t10, hlh, hlhI, hpl, hpI, hget', hrow, hbd]
        refine call_of (findF_ok c hc (v := v) fun H2 k2 => ?_)
        have hge := posV_ge (s := s) hs (Nat.le_refl _) hx
        rw [if_neg (by omega)]
        by_cases hc2 : s < v.slot
        · rw [if_pos hc2]
          have hne : ¬ v.slot = s := by omega
          rw [decide_eq_false hne] at hK
          simp -implicitDefEqProofs [J0,J1,J2,J3,J4,J5,J6,J7,J8,J9,Ja,Jb,Jc,Jd,Je,Jf,Jg,Jh,Ji,Jj,Jk,Jl,Jm,Jn,Jo,Jp,Jq,Jr,Js,Jt,Ju,Jv,Jw,Jx,Jy,Jz,JA,JB,JC,JD,JE,JF,JG,JH,JI,JJ,JK,JL,JM,JN,JO,JP,stillI,IOp.kind,JQ,JR,JS,JT,JU,JV,JW,JX,JY,JZ,Y0,Y1,Y2,Y3,Y4,Y5,Y6,Y7,Y8,Y9,Ya,Yb,Yc,Yd,Ye,Yf,Yg,Yh,Yi,Yj,Yk,Yl,Ym,Yn,ial,Yo,Yp,Yq,Yr,Ys,Yt,Yu,Yv,ires,iresL,ires1,Yw,Yx,Yy,Yz,YA,YB,bin2,YC,YD,YE,YF,YG,YH,YI,YJ,YK,YL,YM,YN,YO,YP,YQ,YR,un1,shOk,eqL,eq1,fillL,putAt,IHeap.load1,IHeap.loadL,IHeap.storeL,YS,YT,YU,YV,YW,YX,YY,YZ,B0,B1,B2,B3,B4,B5,B6,B7,B8,B9,Ba,Bb,Bc,Bd,Be,Bf,Bg,Bh,Bi,Bj,Bk,Bl,Bm]
          exact hK _ (hle.trans k2)
        · rw [if_neg hc2]
          have hne : v.slot = s := by omega
          rw [decide_eq_true hne] at hK
          simp -implicitDefEqProofs [J0,J1,J2,J3,J4,J5,J6,J7,J8,J9,Ja,Jb,Jc,Jd,Je,Jf,Jg,Jh,Ji,Jj,Jk,Jl,Jm,Jn,Jo,Jp,Jq,Jr,Js,Jt,Ju,Jv,Jw,Jx,Jy,Jz,JA,JB,JC,JD,JE,JF,JG,JH,JI,JJ,JK,JL,JM,JN,JO,JP,stillI,IOp.kind,JQ,JR,JS,JT,JU,JV,JW,JX,JY,JZ,Y0,Y1,Y2,Y3,Y4,Y5,Y6,Y7,Y8,Y9,Ya,Yb,Yc,Yd,Ye,Yf,Yg,Yh,Yi,Yj,Yk,Yl,Ym,Yn,ial,Yo,Yp,Yq,Yr,Ys,Yt,Yu,Yv,ires,iresL,ires1,Yw,Yx,Yy,Yz,YA,YB,bin2,YC,YD,YE,YF,YG,YH,YI,YJ,YK,YL,YM,YN,YO,YP,YQ,YR,un1,shOk,eqL,eq1,fillL,putAt,IHeap.load1,IHeap.loadL,IHeap.storeL,YS,YT,YU,YV,YW,YX,YY,YZ,B0,B1,B2,B3,B4,B5,B6,B7,B8,B9,Ba,Bb,Bc,Bd,Be,Bf,Bg,Bh,Bi,Bj,Bk,Bl,Bm]
          exact hK _ (hle.trans k2)
      · have hpI : ¬ (posV s L : Int) < (L.length : Int) := by omega
        have hth : thereV L s = false := by simp [thereV, List.getElem?_eq_none (Nat.le_of_not_lt hpl)]
        rw [hth] at hK
        simp -implicitDefEqProofs [J0,J1,J2,J3,J4,J5,J6,J7,J8,J9,Ja,Jb,Jc,Jd,Je,Jf,Jg,Jh,Ji,Jj,Jk,Jl,Jm,Jn,Jo,Jp,Jq,Jr,Js,Jt,Ju,Jv,Jw,Jx,Jy,Jz,JA,JB,JC,JD,JE,JF,JG,JH,JI,JJ,JK,JL,JM,JN,JO,JP,stillI,IOp.kind,JQ,JR,JS,JT,JU,JV,JW,JX,JY,JZ,Y0,Y1,Y2,Y3,Y4,Y5,Y6,Y7,Y8,Y9,Ya,Yb,Yc,Yd,Ye,Yf,Yg,Yh,Yi,Yj,Yk,Yl,Ym,Yn,ial,Yo,Yp,Yq,Yr,Ys,Yt,Yu,Yv,ires,iresL,ires1,Yw,Yx,Yy,Yz,YA,YB,bin2,YC,YD,YE,YF,YG,YH,YI,YJ,YK,YL,YM,YN,YO,YP,YQ,YR,un1,shOk,eqL,eq1,fillL,putAt,IHeap.load1,IHeap.loadL,IHeap.storeL,YS,YT,YU,YV,YW,YX,YY,YZ,B0,B1,B2,B3,B4,B5,B6,B7,B8,B9,Ba,Bb,Bc,Bd,Be,Bf,Bg,Bh,Bi,Bj,Bk,Bl,Bm, t0, t1, t2, t8, t9, t10, hlh, hlhI, hpl, hpI]
        exact hK _ hle

theorem find_ok {p q : Nat} {A : Acc} {s : Int} (h : IsA H p q A) (hl : A.L.length ≤ 1000000) (hK : ∀ H', H.le H' → K (.tuple #[.int .i64 (posV s A.L : Nat), .bool (thereV A.L s)]) H') : c.C (c.F n_acceptor_Acceptor_find) [.pointer (some ⟨p, 0, none⟩), .int .i64 s] H K := by
  refine c.enter hc.acceptor_Acceptor_find rfl ?_
  obtain ⟨u, g1, g2⟩ := h.rep
  simp -implicitDefEqProofs [J0,J1,J2,J3,J4,J5,J6,J7,J8,J9,Ja,Jb,Jc,Jd,Je,Jf,Jg,Jh,Ji,Jj,Jk,Jl,Jm,Jn,Jo,Jp,Jq,Jr,Js,Jt,Ju,Jv,Jw,Jx,Jy,Jz,JA,JB,JC,JD,JE,JF,JG,JH,JI,JJ,JK,JL,JM,JN,JO,JP,stillI,IOp.kind,JQ,JR,JS,JT,JU,JV,JW,JX,JY,JZ,Y0,Y1,Y2,Y3,Y4,Y5,Y6,Y7,Y8,Y9,Ya,Yb,Yc,Yd,Ye,Yf,Yg,Yh,Yi,Yj,Yk,Yl,Ym,Yn,ial,Yo,Yp,Yq,Yr,Ys,Yt,Yu,Yv,ires,iresL,ires1,Yw,Yx,Yy,Yz,YA,YB,bin2,YC,YD,YE,YF,YG,YH,YI,YJ,YK,YL,YM,YN,YO,YP,YQ,YR,un1,shOk,eqL,eq1,fillL,putAt,IHeap.load1,IHeap.loadL,IHeap.storeL,YS,YT,YU,YV,YW,YX,YY,YZ,B0,B1,B2,B3,B4,B5,B6,B7,B8,B9,Ba,Bb,Bc,Bd,Be,Bf,Bg,Bh,Bi,Bj,Bk,Bl,Bm, c_acceptor_Acceptor_find, g1]
  refine call_of (search_ok c hc (g2.slw (rowV_four _)).1 h.sorted hl fun H' hl => ?_)
  simp -implicitDefEqProofs [J0,J1,J2,J3,J4,J5,J6,J7,J8,J9,Ja,Jb,Jc,Jd,Je,Jf,Jg,Jh,Ji,Jj,Jk,Jl,Jm,Jn,Jo,Jp,Jq,Jr,Js,Jt,Ju,Jv,Jw,Jx,Jy,Jz,JA,JB,JC,JD,JE,JF,JG,JH,JI,JJ,JK,JL,JM,JN,JO,JP,stillI,IOp.kind,JQ,JR,JS,JT,JU,JV,JW,JX,JY,JZ,Y0,Y1,Y2,Y3,Y4,Y5,Y6,Y7,Y8,Y9,Ya,Yb,Yc,Yd,Ye,Yf,Yg,Yh,Yi,Yj,Yk,Yl,Ym,Yn,ial,Yo,Yp,Yq,Yr,Ys,Yt,Yu,Yv,ires,iresL,ires1,Yw,Yx,Yy,Yz,YA,YB,bin2,YC,YD,YE,YF,YG,YH,YI,YJ,YK,YL,YM,YN,YO,YP,YQ,YR,un1,shOk,eqL,eq1,fillL,putAt,IHeap.load1,IHeap.loadL,IHeap.storeL,YS,YT,YU,YV,YW,YX,YY,YZ,B0,B1,B2,B3,B4,B5,B6,B7,B8,B9,Ba,Bb,Bc,Bd,Be,Bf,Bg,Bh,Bi,Bj,Bk,Bl,Bm]
  exact hK _ hl

end
end Go.Proofs.YtkgfnelapcpibaaI
