/- Who accepts: the document's deeds. -/
import Derived.Test.YtkgfnelapcpibaaRefV
namespace Go.Proofs.YtkgfnelapcpibaaI
set_option linter.unusedSimpArgs false
set_option linter.unusedVariables false
open Go

/-- Where a slice lies. -/
def Blk (n m : Nat) (v : Value) : Prop := ∀ b o l c, v = .slice (some ⟨b, o, none⟩) l c → n ≤ b ∧ b < m
theorem Grow.blk {H : IHeap} {B : Nat} {v : Value} {rows : List (List Value)} (h : Grow H B 4 v rows) : Blk B H.next v := by
  intro b o m cc e
  rcases h with ⟨_, rfl⟩ | ⟨_, blk, q1, q2, rfl, _⟩
  · simp at e
  · simp only [Value.slice.injEq, Option.some.injEq, Addr.mk.injEq] at e
    omega
theorem Blk.weak {n n' m m' : Nat} {v : Value} (h : Blk n m v) (h1 : n' ≤ n) (h2 : m ≤ m') : Blk n' m' v := fun b o l c e => by have := h b o l c e; omega
def flagV (v : VoteD) (l : List VoteD) : Bool := l.any fun x => decide (v.slot ≤ x.slot)
def accV (v : VoteD) (l : List VoteD) : List VoteD := if flagV v l then putV l v else l
theorem flagV_snoc (v : VoteD) (l : List VoteD) (x : VoteD) : flagV v (l ++ [x]) = (flagV v l || decide (v.slot ≤ x.slot)) := by simp [flagV]
theorem flagV_false {v : VoteD} {l : List VoteD} (h : flagV v l = false) : (l.filter fun x => decide (x.slot < v.slot)) = l ∧ (l.filter fun x => decide (v.slot < x.slot)) = [] := by
  unfold flagV at h
  rw [List.any_eq_false] at h
  refine ⟨List.filter_eq_self.2 fun x hx => ?_, List.filter_eq_nil_iff.2 fun x hx => ?_⟩
  · have := h x hx; simp at this ⊢; omega
  · have := h x hx; simp at this ⊢; omega
/-- One more, where the vote was placed before. -/
theorem accV_after {v : VoteD} {l : List VoteD} {x : VoteD} (hs : Sorted (l ++ [x])) (h : flagV v l = true) : v.slot < x.slot ∧ accV v (l ++ [x]) = accV v l ++ [x] := by
  have h' := h
  unfold flagV at h
  rw [List.any_eq_true] at h
  obtain ⟨y, hy, hle⟩ := h
  have hyx := (List.pairwise_append.1 hs).2.2 y hy x (by simp)
  have hvx : v.slot < x.slot := by simp at hle; omega
  refine ⟨hvx, ?_⟩
  have e : flagV v (l ++ [x]) = true := by rw [flagV_snoc, h']; rfl
  unfold accV
  rw [if_pos e, if_pos h']
  unfold putV
  rw [List.filter_append, List.filter_append]
  have e1 : ([x].filter fun y => decide (y.slot < v.slot)) = [] := by simp; omega
  have e2 : ([x].filter fun y => decide (v.slot < y.slot)) = [x] := by simp [hvx]
  rw [e1, e2]; simp
/-- .. where it was not. -/
theorem accV_before {v : VoteD} {l : List VoteD} {x : VoteD} (h : flagV v l = false) : accV v (l ++ [x]) = if x.slot < v.slot then l ++ [x] else if x.slot = v.slot then l ++ [v] else l ++ [v] ++ [x] := by
  obtain ⟨f1, f2⟩ := flagV_false h
  unfold accV
  rw [flagV_snoc, h, Bool.false_or]
  unfold putV
  rw [List.filter_append, List.filter_append, f1, f2]
  by_cases h1 : x.slot < v.slot
  · rw [if_pos h1, if_neg (by simp; omega)]
  · rw [if_neg h1, if_pos (by simp; omega)]
    have e1 : ([x].filter fun y => decide (y.slot < v.slot)) = [] := by simp; omega
    rw [e1]
    by_cases h2 : x.slot = v.slot
    · rw [if_pos h2]
      have e2 : ([x].filter fun y => decide (v.slot < y.slot)) = [] := by simp; omega
      rw [e2]; simp
    · rw [if_neg h2]
      have e2 : ([x].filter fun y => decide (v.slot < y.slot)) = [x] := by simp; omega
      rw [e2]; simp
theorem accV_nof {v : VoteD} {l : List VoteD} (h : flagV v l = false) : accV v l = l ∧ putV l v = l ++ [v] := by
  obtain ⟨f1, f2⟩ := flagV_false h
  refine ⟨by rw [accV, h]; simp, by rw [putV, f1, f2]⟩
theorem accV_len (v : VoteD) (l : List VoteD) : (accV v l).length ≤ l.length + 1 := by
  unfold accV
  split
  · exact putV_len l v
  · omega

section
variable (c : Ctx) (hR : HasRef17 c) (hB : HasBalC c) {H : IHeap} {K : Value → IHeap → Prop}

include hR hB in
theorem RPromise_ok17 {A : Acc} {u : Value} {a n s : Int} (hu : SlW H 4 u (A.L.map rowV)) (hl : A.L.length ≤ 100000)
    (hK : ∀ w H', H.le H' → SlW H' 4 w ((A.promise a n s).2.1.map rowV) → Blk H.next H'.next w → K (.tuple #[aV (A.promise a n s).1.pa (A.promise a n s).1.pn (A.promise a n s).1.base u, w, .bool (A.promise a n s).2.2]) H') :
    c.C (c.F n_hurdleref17_Promise) [aV A.pa A.pn A.base u, vB a n, .int .i64 s] H K := by
  refine c.enter hR.hurdleref17_Promise rfl ?_
  unfold Acc.promise at hK
  have hu2 := hu
  obtain ⟨au, cu, rfl⟩ := hu.len
  rw [List.length_map] at hu2 hK ⊢
  obtain ⟨HA, hHA⟩ : ∃ X : IHeap, X = ((H.alloc (.cells [.int .i64 A.pa, .int .i64 A.pn, .int .i64 A.base, .slice au A.L.length cu] false)).alloc (.cells [.int .i64 a, .int .i64 n] false)).alloc (.cells [.int .i64 0, .int .i64 0, .int .i64 0, .slice none 0 0] false) := ⟨_, rfl⟩
  have kA : H.le HA := by rw [hHA]; exact ((H.le_alloc _).alloc _).alloc _
  have nA : HA.next = H.next + 1 + 1 + 1 := by rw [hHA]; rfl
  have g1 : HA.get H.next = some (.cells [.int .i64 A.pa, .int .i64 A.pn, .int .i64 A.base, .slice au A.L.length cu] false) := by rw [hHA, YS, if_neg (by simp only [YU]; omega), YS, if_neg (by simp only [YU]; omega), YS, if_pos rfl]
  have g2 : HA.get (H.next + 1) = some (.cells [.int .i64 a, .int .i64 n] false) := by rw [hHA, YS, if_neg (by simp only [YU]; omega), YS, if_pos (by simp only [YU])]
  have g3 : HA.get (H.next + 1 + 1) = some (.cells [.int .i64 0, .int .i64 0, .int .i64 0, .slice none 0 0] false) := by rw [hHA, YS, if_pos (by simp only [YU])]
  simp -implicitDefEqProofs [J0,J1,J2,J3,J4,J5,J6,J7,J8,J9,Ja,Jb,Jc,Jd,Je,Jf,Jg,Jh,Ji,Jj,Jk,Jl,Jm,Jn,Jo,Jp,Jq,Jr,Js,Jt,Ju,Jv,Jw,Jx,Jy,Jz,JA,JB,JC,JD,JE,JF,JG,JH,JI,JJ,JK,JL,JM,JN,JO,JP,stillI,IOp.kind,JQ,JR,JS,JT,JU,JV,JW,JX,JY,JZ,Y0,Y1,Y2,Y3,Y4,Y5,Y6,Y7,Y8,Y9,Ya,Yb,Yc,Yd,Ye,Yf,Yg,Yh,Yi,Yj,Yk,Yl,Ym,Yn,ial,Yo,Yp,Yq,Yr,Ys,Yt,Yu,Yv,ires,iresL,ires1,Yw,Yx,Yy,Yz,YA,YB,bin2,YC,YD,YE,YF,YG,YH,YI,YJ,YK,YL,YM,YN,YO,YP,YQ,YR,un1,shOk,eqL,eq1,fillL,putAt,IHeap.load1,IHeap.loadL,IHeap.storeL,YS,YT,YU,YV,YW,YX,YY,YZ,B0,B1,B2,B3,B4,B5,B6,B7,B8,B9,Ba,Bb,Bc,Bd,Be,Bf,Bg,Bh,Bi,Bj,Bk,Bl,Bm, c_hurdleref17_Promise, aV, vB, ← hHA, g1, g2]
  refine call_of (Rmay_ok17 c hR hB (A := A) (u := .slice au A.L.length cu) (a := a) (n := n) fun H1 k1 => ?_)
  have n1 := k1.next
  have g1' := (k1.get H.next (by omega)).trans g1
  have g2' := (k1.get (H.next + 1) (by omega)).trans g2
  have g3' := (k1.get (H.next + 1 + 1) (by omega)).trans g3
  have k01 := kA.trans k1
  cases hm : A.may a n with
  | false =>
    rw [if_pos (.inl hm)] at hK
    simp -implicitDefEqProofs [J0,J1,J2,J3,J4,J5,J6,J7,J8,J9,Ja,Jb,Jc,Jd,Je,Jf,Jg,Jh,Ji,Jj,Jk,Jl,Jm,Jn,Jo,Jp,Jq,Jr,Js,Jt,Ju,Jv,Jw,Jx,Jy,Jz,JA,JB,JC,JD,JE,JF,JG,JH,JI,JJ,JK,JL,JM,JN,JO,JP,stillI,IOp.kind,JQ,JR,JS,JT,JU,JV,JW,JX,JY,JZ,Y0,Y1,Y2,Y3,Y4,Y5,Y6,Y7,Y8,Y9,Ya,Yb,Yc,Yd,Ye,Yf,Yg,Yh,Yi,Yj,Yk,Yl,Ym,Yn,ial,Yo,Yp,Yq,Yr,Ys,Yt,Yu,Yv,ires,iresL,ires1,Yw,Yx,Yy,Yz,YA,YB,bin2,YC,YD,YE,YF,YG,YH,YI,YJ,YK,YL,YM,YN,YO,YP,YQ,YR,un1,shOk,eqL,eq1,fillL,putAt,IHeap.load1,IHeap.loadL,IHeap.storeL,YS,YT,YU,YV,YW,YX,YY,YZ,B0,B1,B2,B3,B4,B5,B6,B7,B8,B9,Ba,Bb,Bc,Bd,Be,Bf,Bg,Bh,Bi,Bj,Bk,Bl,Bm, g1', g3']
    exact hK _ _ (k01.set (by omega) _) (SlW.nil _ 4) (fun b o l c e => by simp at e)
  | true =>
    by_cases hs : s < A.base
    · rw [if_pos (.inr hs)] at hK
      simp -implicitDefEqProofs [J0,J1,J2,J3,J4,J5,J6,J7,J8,J9,Ja,Jb,Jc,Jd,Je,Jf,Jg,Jh,Ji,Jj,Jk,Jl,Jm,Jn,Jo,Jp,Jq,Jr,Js,Jt,Ju,Jv,Jw,Jx,Jy,Jz,JA,JB,JC,JD,JE,JF,JG,JH,JI,JJ,JK,JL,JM,JN,JO,JP,stillI,IOp.kind,JQ,JR,JS,JT,JU,JV,JW,JX,JY,JZ,Y0,Y1,Y2,Y3,Y4,Y5,Y6,Y7,Y8,Y9,Ya,Yb,Yc,Yd,Ye,Yf,Yg,Yh,Yi,Yj,Yk,Yl,Ym,Yn,ial,Yo,Yp,Yq,Yr,Ys,Yt,Yu,Yv,ires,iresL,ires1,Yw,Yx,Yy,Yz,YA,YB,bin2,YC,YD,YE,YF,YG,YH,YI,YJ,YK,YL,YM,YN,YO,YP,YQ,YR,un1,shOk,eqL,eq1,fillL,putAt,IHeap.load1,IHeap.loadL,IHeap.storeL,YS,YT,YU,YV,YW,YX,YY,YZ,B0,B1,B2,B3,B4,B5,B6,B7,B8,B9,Ba,Bb,Bc,Bd,Be,Bf,Bg,Bh,Bi,Bj,Bk,Bl,Bm, g1', g3', hs]
      exact hK _ _ (k01.set (by omega) _) (SlW.nil _ 4) (fun b o l c e => by simp at e)
    · rw [if_neg (by rw [hm]; simp [hs])] at hK
      obtain ⟨H2, hH2⟩ : ∃ X : IHeap, X = H1.set H.next (.cells [.int .i64 a, .int .i64 n, .int .i64 A.base, .slice au A.L.length cu] false) := ⟨_, rfl⟩
      have k2 : H.le H2 := by rw [hH2]; exact k01.set (Nat.le_refl _) _
      have n2 : H2.next = H1.next := by rw [hH2]; rfl
      have g22 : H2.get H.next = some (.cells [.int .i64 a, .int .i64 n, .int .i64 A.base, .slice au A.L.length cu] false) := by rw [hH2, YT, if_pos rfl]
      have g23 : H2.get (H.next + 1 + 1) = some (.cells [.int .i64 0, .int .i64 0, .int .i64 0, .slice none 0 0] false) := by rw [hH2, YT, if_neg (by omega)]; exact g3'
      simp -implicitDefEqProofs [J0,J1,J2,J3,J4,J5,J6,J7,J8,J9,Ja,Jb,Jc,Jd,Je,Jf,Jg,Jh,Ji,Jj,Jk,Jl,Jm,Jn,Jo,Jp,Jq,Jr,Js,Jt,Ju,Jv,Jw,Jx,Jy,Jz,JA,JB,JC,JD,JE,JF,JG,JH,JI,JJ,JK,JL,JM,JN,JO,JP,stillI,IOp.kind,JQ,JR,JS,JT,JU,JV,JW,JX,JY,JZ,Y0,Y1,Y2,Y3,Y4,Y5,Y6,Y7,Y8,Y9,Ya,Yb,Yc,Yd,Ye,Yf,Yg,Yh,Yi,Yj,Yk,Yl,Ym,Yn,ial,Yo,Yp,Yq,Yr,Ys,Yt,Yu,Yv,ires,iresL,ires1,Yw,Yx,Yy,Yz,YA,YB,bin2,YC,YD,YE,YF,YG,YH,YI,YJ,YK,YL,YM,YN,YO,YP,YQ,YR,un1,shOk,eqL,eq1,fillL,putAt,IHeap.load1,IHeap.loadL,IHeap.storeL,YS,YT,YU,YV,YW,YX,YY,YZ,B0,B1,B2,B3,B4,B5,B6,B7,B8,B9,Ba,Bb,Bc,Bd,Be,Bf,Bg,Bh,Bi,Bj,Bk,Bl,Bm, g1', g2', hs, ← hH2, g22]
      refine dcall_of c.mono (RVotes_ok17 c hR (L := A.L) (pa := a) (pn := n) (base := A.base) (s := s) (hu2.le k2).1 hl fun w H3 k3 gr3 => ?_)
      have g32 := (k3.get H.next (by omega)).trans g22
      have g33 := (k3.get (H.next + 1 + 1) (by omega)).trans g23
      have gr3' := gr3
      obtain ⟨aw, cw, rfl⟩ := gr3.len
      rw [List.length_map] at gr3'
      simp -implicitDefEqProofs [J0,J1,J2,J3,J4,J5,J6,J7,J8,J9,Ja,Jb,Jc,Jd,Je,Jf,Jg,Jh,Ji,Jj,Jk,Jl,Jm,Jn,Jo,Jp,Jq,Jr,Js,Jt,Ju,Jv,Jw,Jx,Jy,Jz,JA,JB,JC,JD,JE,JF,JG,JH,JI,JJ,JK,JL,JM,JN,JO,JP,stillI,IOp.kind,JQ,JR,JS,JT,JU,JV,JW,JX,JY,JZ,Y0,Y1,Y2,Y3,Y4,Y5,Y6,Y7,Y8,Y9,Ya,Yb,Yc,Yd,Ye,Yf,Yg,Yh,Yi,Yj,Yk,Yl,Ym,Yn,ial,Yo,Yp,Yq,Yr,Ys,Yt,Yu,Yv,ires,iresL,ires1,Yw,Yx,Yy,Yz,YA,YB,bin2,YC,YD,YE,YF,YG,YH,YI,YJ,YK,YL,YM,YN,YO,YP,YQ,YR,un1,shOk,eqL,eq1,fillL,putAt,IHeap.load1,IHeap.loadL,IHeap.storeL,YS,YT,YU,YV,YW,YX,YY,YZ,B0,B1,B2,B3,B4,B5,B6,B7,B8,B9,Ba,Bb,Bc,Bd,Be,Bf,Bg,Bh,Bi,Bj,Bk,Bl,Bm, g32, g33, stillI, List.length_map]
      have := hK (.slice aw (fromV A.L s).length cw) _ ((k2.trans k3).set (i := H.next + 1 + 1) (by omega) (.cells [.int .i64 a, .int .i64 n, .int .i64 A.base, .slice au A.L.length cu] false)) (gr3'.slw.upd (S := [H.next + 1 + 1]) (fun b o m cc e hm => by
        have := gr3'.fresh b o m cc e
        simp only [List.mem_singleton] at hm
        omega) ((IHeap.upd_refl _ _).set (.inr (by simp)) _)) (gr3'.blk.weak (by omega) (by simp only [YV]; omega))
      exact this

include hR in
theorem RTrim_ok17 {A : Acc} {u : Value} {s : Int} (hs : Sorted A.L) (hu : SlW H 4 u (A.L.map rowV)) (hl : A.L.length ≤ 100000)
    (hK : ∀ u' H', H.le H' → SlW H' 4 u' ((A.trim s).1.L.map rowV) → Blk H.next H'.next u' → K (.tuple #[aV (A.trim s).1.pa (A.trim s).1.pn (A.trim s).1.base u', .int .i64 (A.trim s).2]) H') :
    c.C (c.F n_hurdleref17_Trim) [aV A.pa A.pn A.base u, .int .i64 s] H K := by
  refine c.enter hR.hurdleref17_Trim rfl ?_
  have hu2 := hu
  obtain ⟨au, cu, rfl⟩ := hu.len
  rw [List.length_map] at hu2 ⊢
  unfold Acc.trim at hK
  obtain ⟨HA, hHA⟩ : ∃ X : IHeap, X = (H.alloc (.cells [.int .i64 A.pa, .int .i64 A.pn, .int .i64 A.base, .slice au A.L.length cu] false)).alloc (.cells [.int .i64 0, .int .i64 0, .int .i64 0, .slice none 0 0] false) := ⟨_, rfl⟩
  have kA : H.le HA := by rw [hHA]; exact (H.le_alloc _).alloc _
  have nA : HA.next = H.next + 1 + 1 := by rw [hHA]; rfl
  have g1 : HA.get H.next = some (.cells [.int .i64 A.pa, .int .i64 A.pn, .int .i64 A.base, .slice au A.L.length cu] false) := by rw [hHA, YS, if_neg (by simp only [YU]; omega), YS, if_pos rfl]
  have g3 : HA.get (H.next + 1) = some (.cells [.int .i64 0, .int .i64 0, .int .i64 0, .slice none 0 0] false) := by rw [hHA, YS, if_pos (by simp only [YU])]
  have e1 : (if (1024 : Int) < s then (1024 : Int) else s) = minI s 1024 := rfl
  simp -implicitDefEqProofs [J0,J1,J2,J3,J4,J5,J6,J7,J8,J9,Ja,Jb,Jc,Jd,Je,Jf,Jg,Jh,Ji,Jj,Jk,Jl,Jm,Jn,Jo,Jp,Jq,Jr,Js,Jt,Ju,Jv,Jw,Jx,Jy,Jz,JA,JB,JC,JD,JE,JF,JG,JH,JI,JJ,JK,JL,JM,JN,JO,JP,stillI,IOp.kind,JQ,JR,JS,JT,JU,JV,JW,JX,JY,JZ,Y0,Y1,Y2,Y3,Y4,Y5,Y6,Y7,Y8,Y9,Ya,Yb,Yc,Yd,Ye,Yf,Yg,Yh,Yi,Yj,Yk,Yl,Ym,Yn,ial,Yo,Yp,Yq,Yr,Ys,Yt,Yu,Yv,ires,iresL,ires1,Yw,Yx,Yy,Yz,YA,YB,bin2,YC,YD,YE,YF,YG,YH,YI,YJ,YK,YL,YM,YN,YO,YP,YQ,YR,un1,shOk,eqL,eq1,fillL,putAt,IHeap.load1,IHeap.loadL,IHeap.storeL,YS,YT,YU,YV,YW,YX,YY,YZ,B0,B1,B2,B3,B4,B5,B6,B7,B8,B9,Ba,Bb,Bc,Bd,Be,Bf,Bg,Bh,Bi,Bj,Bk,Bl,Bm, c_hurdleref17_Trim, aV, ← hHA, g1, e1]
  refine call_of (RVotes_ok17 c hR (L := A.L) (pa := A.pa) (pn := A.pn) (base := A.base) (s := minI s 1024) (hu2.le kA).1 hl fun w H3 k3 gr3 => ?_)
  have n3 := k3.next
  have g1' := (k3.get H.next (by omega)).trans g1
  have g3' := (k3.get (H.next + 1) (by omega)).trans g3
  have gr3' := gr3
  obtain ⟨aw, cw, rfl⟩ := gr3.len
  rw [List.length_map] at gr3'
  have hfl : (fromV A.L (minI s 1024)).length = A.L.length - posV (minI s 1024) A.L := by rw [fromV_drop hs, List.length_drop]
  have hple := posV_le (minI s 1024) A.L
  have hw : IntKind.i64.wrap ((A.L.length : Int) - ((fromV A.L (minI s 1024)).length : Int)) = ((posV (minI s 1024) A.L : Nat) : Int) := by rw [wrap64 (by omega) (by omega), hfl]; omega
  have e2 : (if minI s 1024 > A.base then minI s 1024 else A.base) = maxI A.base (minI s 1024) := rfl
  have e2' : (if A.base < minI s 1024 then minI s 1024 else A.base) = maxI A.base (minI s 1024) := rfl
  have hne : ¬ H.next + 1 = H.next := by omega
  simp -implicitDefEqProofs [J0,J1,J2,J3,J4,J5,J6,J7,J8,J9,Ja,Jb,Jc,Jd,Je,Jf,Jg,Jh,Ji,Jj,Jk,Jl,Jm,Jn,Jo,Jp,Jq,Jr,Js,Jt,Ju,Jv,Jw,Jx,Jy,Jz,JA,JB,JC,JD,JE,JF,JG,JH,JI,JJ,JK,JL,JM,JN,JO,JP,stillI,IOp.kind,JQ,JR,JS,JT,JU,JV,JW,JX,JY,JZ,Y0,Y1,Y2,Y3,Y4,Y5,Y6,Y7,Y8,Y9,Ya,Yb,Yc,Yd,Ye,Yf,Yg,Yh,Yi,Yj,Yk,Yl,Ym,Yn,ial,Yo,Yp,Yq,Yr,Ys,Yt,Yu,Yv,ires,iresL,ires1,Yw,Yx,Yy,Yz,YA,YB,bin2,YC,YD,YE,YF,YG,YH,YI,YJ,YK,YL,YM,YN,YO,YP,YQ,YR,un1,shOk,eqL,eq1,fillL,putAt,IHeap.load1,IHeap.loadL,IHeap.storeL,YS,YT,YU,YV,YW,YX,YY,YZ,B0,B1,B2,B3,B4,B5,B6,B7,B8,B9,Ba,Bb,Bc,Bd,Be,Bf,Bg,Bh,Bi,Bj,Bk,Bl,Bm, g1', g3', List.length_map, hw, e2, e2', hne]
  have up : ∀ X, IHeap.upd [H.next, H.next + 1] H3 X → SlW X 4 (.slice aw (fromV A.L (minI s 1024)).length cw) ((fromV A.L (minI s 1024)).map rowV) := fun X hX => gr3'.slw.upd (fun b o m cc e hm => by
    have := gr3'.fresh b o m cc e
    simp only [List.mem_cons, List.not_mem_nil, or_false] at hm
    omega) hX
  refine hK _ _ ((((kA.trans k3).set (Nat.le_refl _) _).set (Nat.le_refl _) _).set (by omega) _) (up _ ((((IHeap.upd_refl _ _).set (.inr (by simp)) _).set (.inr (by simp)) _).set (.inr (by simp)) _)) (gr3'.blk.weak (by omega) (by simp only [YV]; omega))

end
end Go.Proofs.YtkgfnelapcpibaaI
