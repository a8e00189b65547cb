/- Who is in a group: a deed of both. -/
import Derived.Test.YtkphglpmhebglaaRefM6
import Derived.Test.YtkphglpmhebglaaPartLaw23
namespace Go.Proofs.YtkphglpmhebglaaI
set_option linter.unusedSimpArgs false
set_option linter.unusedVariables false
open Go

/-- A deed. -/
structure DM where
  k : Int
  a : Int
  b : Int
  now : Bool
def rowDM (d : DM) : List Value := [.int .i64 d.k, .int .i64 d.a, .int .i64 d.b, .bool d.now]
def dmV (d : DM) : Value := .agg #[.int .i64 d.k, .int .i64 d.a, .int .i64 d.b, .bool d.now]
def DM.A (d : DM) (e : Int) : Int := if d.now = true ∧ d.k ≠ 0 ∧ d.k < 3 then e else d.a
def DM.B (d : DM) (e : Int) : Int := if d.now = true ∧ d.k = 0 then e else d.b
def Mem.deed (m : Mem) (d : DM) : Mem :=
  if d.k = 0 then (m.fail (d.A m.e) (d.B m.e)).1 else if d.k = 1 then (m.swap (d.A m.e)).1 else if d.k = 2 then (m.done (d.A m.e)).1 else if d.k = 3 then (m.add (d.A m.e)).1 else m

theorem fail_e (m : Mem) (s e : Int) : (m.fail s e).1.e ≤ m.e + 1 := by
  unfold Mem.fail
  repeat' split
  all_goals (simp only; omega)
theorem done_e (m : Mem) (e : Int) : (m.done e).1.e ≤ m.e + 1 := by
  unfold Mem.done
  repeat' split
  all_goals (simp only; omega)
theorem add_e (m : Mem) (s : Int) : (m.add s).1.e ≤ m.e + 1 := by
  unfold Mem.add
  repeat' split
  all_goals (simp only; omega)
theorem swap_e (m : Mem) (e : Int) : (m.swap e).1.e ≤ m.e + 1 := by
  unfold Mem.swap
  split
  · simp only; omega
  · repeat' split
    all_goals (simp only; omega)
theorem deed_e (m : Mem) (d : DM) : (m.deed d).e ≤ m.e + 1 := by
  unfold Mem.deed
  repeat' split
  · exact fail_e _ _ _
  · exact swap_e _ _
  · exact done_e _ _
  · exact add_e _ _
  · omega

theorem IsM.upd {H H' : IHeap} {S : List Nat} {p q1 q2 : Nat} {m : Mem} (h : IsM H p q1 q2 m) (hu : IHeap.upd S H H') (hp : p ∉ S) (h1 : q1 ∉ S) (h2 : q2 ∉ S) (hq : q2 < H.next) : IsM H' p q1 q2 m := by
  obtain ⟨cap, v2, e1, e2, e3⟩ := h.rep
  exact ⟨Nat.lt_of_lt_of_le h.lt hu.next, h.ok, ⟨cap, v2, (hu.get p h.lt hp).trans e1, e2, e3.same hu.next (hu.get q2 hq h2)⟩, Nat.lt_of_lt_of_le h.lt1 hu.next, (hu.get q1 h.lt1 h1).trans h.get1, h.n12, h.np2, h.np1⟩
/-- The rows of now, off what was known before. -/
theorem RM.with {H H' : IHeap} {S S' : List Nat} {v : Value} {m : Mem} (h : RM H' S v m) (k : RM H S' v m) (hn : H.next ≤ H'.next) : RM H' S' v m := by
  obtain ⟨v1, v2, e, h1, h2, _, _⟩ := h
  obtain ⟨z1, z2, e', _, _, t1, t2⟩ := k
  rw [e] at e'
  simp only [Value.agg.injEq, Array.mk.injEq, List.cons.injEq, and_true] at e'
  obtain ⟨rfl, rfl⟩ := e'
  exact ⟨v1, v2, e, h1, h2, t1.le hn, t2.le hn⟩

section
variable (c : Ctx) (hc : HasMembers c) (hR : HasRef23 c) (hT : HasLaw23 c) {H : IHeap} {K : Value → IHeap → Prop}

include hT in
theorem Few_ok23 {a1 a2 a3 : Option Addr} {n1 n2 n3 c1 c2 c3 : Nat} (hK : ∀ H', H.le H' → K (.int .i64 (if 20 < n1 ∨ 80 < n2 ∨ 60 < n3 then 0 else 1)) H') :
    c.C (c.F n_hurdlelaw23_Few) [.agg #[.slice a1 n1 c1, .slice a2 n2 c2], .slice a3 n3 c3] H K := by
  refine c.enter hT.hurdlelaw23_Few rfl ?_
  by_cases h1 : 20 < n1
  · have h1' : (20 : Int) < n1 := by omega
    rw [if_pos (.inl h1)] at hK
    simp -implicitDefEqProofs [J0,J1,J2,J3,J4,J5,J6,J7,J8,J9,Ja,Jb,Jc,Jd,Je,Jf,Jg,Jh,Ji,Jj,Jk,Jl,Jm,Jn,Jo,Jp,Jq,Jr,Js,Jt,Ju,Jv,Jw,Jx,Jy,Jz,JA,JB,JC,JD,JE,JF,JG,JH,JI,JJ,JK,JL,JM,JN,JO,JP,stillI,IOp.kind,JQ,JR,JS,JT,JU,JV,JW,JX,JY,JZ,Y0,Y1,Y2,Y3,Y4,Y5,Y6,Y7,Y8,Y9,Ya,Yb,Yc,Yd,Ye,Yf,Yg,Yh,Yi,Yj,Yk,Yl,Ym,Yn,ial,Yo,Yp,Yq,Yr,Ys,Yt,Yu,Yv,ires,iresL,ires1,Yw,Yx,Yy,Yz,YA,YB,bin2,YC,YD,YE,YF,YG,YH,YI,YJ,YK,YL,YM,YN,YO,YP,YQ,YR,un1,shOk,eqL,eq1,fillL,putAt,IHeap.load1,IHeap.loadL,IHeap.storeL,YS,YT,YU,YV,YW,YX,YY,YZ,B0,B1,B2,B3,B4,B5,B6,B7,B8,B9,Ba,Bb,Bc,Bd,Be,Bf,Bg,Bh,Bi,Bj,Bk,Bl,Bm, c_hurdlelaw23_Few, h1, h1']
    exact hK _ (H.le_alloc _)
  · have h1' : ¬ (20 : Int) < n1 := by omega
    by_cases h2 : 80 < n2
    · have h2' : (80 : Int) < n2 := by omega
      rw [if_pos (.inr (.inl h2))] at hK
      simp -implicitDefEqProofs [J0,J1,J2,J3,J4,J5,J6,J7,J8,J9,Ja,Jb,Jc,Jd,Je,Jf,Jg,Jh,Ji,Jj,Jk,Jl,Jm,Jn,Jo,Jp,Jq,Jr,Js,Jt,Ju,Jv,Jw,Jx,Jy,Jz,JA,JB,JC,JD,JE,JF,JG,JH,JI,JJ,JK,JL,JM,JN,JO,JP,stillI,IOp.kind,JQ,JR,JS,JT,JU,JV,JW,JX,JY,JZ,Y0,Y1,Y2,Y3,Y4,Y5,Y6,Y7,Y8,Y9,Ya,Yb,Yc,Yd,Ye,Yf,Yg,Yh,Yi,Yj,Yk,Yl,Ym,Yn,ial,Yo,Yp,Yq,Yr,Ys,Yt,Yu,Yv,ires,iresL,ires1,Yw,Yx,Yy,Yz,YA,YB,bin2,YC,YD,YE,YF,YG,YH,YI,YJ,YK,YL,YM,YN,YO,YP,YQ,YR,un1,shOk,eqL,eq1,fillL,putAt,IHeap.load1,IHeap.loadL,IHeap.storeL,YS,YT,YU,YV,YW,YX,YY,YZ,B0,B1,B2,B3,B4,B5,B6,B7,B8,B9,Ba,Bb,Bc,Bd,Be,Bf,Bg,Bh,Bi,Bj,Bk,Bl,Bm, c_hurdlelaw23_Few, h1, h1', h2, h2']
      exact hK _ (H.le_alloc _)
    · have h2' : ¬ (80 : Int) < n2 := by omega
      by_cases h3 : 60 < n3
      · have h3' : (60 : Int) < n3 := by omega
        rw [if_pos (.inr (.inr h3))] at hK
        simp -implicitDefEqProofs [J0,J1,J2,J3,J4,J5,J6,J7,J8,J9,Ja,Jb,Jc,Jd,Je,Jf,Jg,Jh,Ji,Jj,Jk,Jl,Jm,Jn,Jo,Jp,Jq,Jr,Js,Jt,Ju,Jv,Jw,Jx,Jy,Jz,JA,JB,JC,JD,JE,JF,JG,JH,JI,JJ,JK,JL,JM,JN,JO,JP,stillI,IOp.kind,JQ,JR,JS,JT,JU,JV,JW,JX,JY,JZ,Y0,Y1,Y2,Y3,Y4,Y5,Y6,Y7,Y8,Y9,Ya,Yb,Yc,Yd,Ye,Yf,Yg,Yh,Yi,Yj,Yk,Yl,Ym,Yn,ial,Yo,Yp,Yq,Yr,Ys,Yt,Yu,Yv,ires,iresL,ires1,Yw,Yx,Yy,Yz,YA,YB,bin2,YC,YD,YE,YF,YG,YH,YI,YJ,YK,YL,YM,YN,YO,YP,YQ,YR,un1,shOk,eqL,eq1,fillL,putAt,IHeap.load1,IHeap.loadL,IHeap.storeL,YS,YT,YU,YV,YW,YX,YY,YZ,B0,B1,B2,B3,B4,B5,B6,B7,B8,B9,Ba,Bb,Bc,Bd,Be,Bf,Bg,Bh,Bi,Bj,Bk,Bl,Bm, c_hurdlelaw23_Few, h1, h1', h2, h2', h3, h3']
        exact hK _ (H.le_alloc _)
      · have h3' : ¬ (60 : Int) < n3 := by omega
        rw [if_neg (by omega)] at hK
        simp -implicitDefEqProofs [J0,J1,J2,J3,J4,J5,J6,J7,J8,J9,Ja,Jb,Jc,Jd,Je,Jf,Jg,Jh,Ji,Jj,Jk,Jl,Jm,Jn,Jo,Jp,Jq,Jr,Js,Jt,Ju,Jv,Jw,Jx,Jy,Jz,JA,JB,JC,JD,JE,JF,JG,JH,JI,JJ,JK,JL,JM,JN,JO,JP,stillI,IOp.kind,JQ,JR,JS,JT,JU,JV,JW,JX,JY,JZ,Y0,Y1,Y2,Y3,Y4,Y5,Y6,Y7,Y8,Y9,Ya,Yb,Yc,Yd,Ye,Yf,Yg,Yh,Yi,Yj,Yk,Yl,Ym,Yn,ial,Yo,Yp,Yq,Yr,Ys,Yt,Yu,Yv,ires,iresL,ires1,Yw,Yx,Yy,Yz,YA,YB,bin2,YC,YD,YE,YF,YG,YH,YI,YJ,YK,YL,YM,YN,YO,YP,YQ,YR,un1,shOk,eqL,eq1,fillL,putAt,IHeap.load1,IHeap.loadL,IHeap.storeL,YS,YT,YU,YV,YW,YX,YY,YZ,B0,B1,B2,B3,B4,B5,B6,B7,B8,B9,Ba,Bb,Bc,Bd,Be,Bf,Bg,Bh,Bi,Bj,Bk,Bl,Bm, c_hurdlelaw23_Few, h1, h1', h2, h2', h3, h3']
        exact hK _ (H.le_alloc _)

include hc hR hT in
theorem do0_ok23 {S : List Nat} {p q1 q2 : Nat} {v : Value} {m : Mem} {a b : Int} {now : Bool} (hM : IsM H p q1 q2 m) (hq2 : q2 < H.next) (hSl : ∀ b ∈ S, b < H.next) (hv : RM H (p :: q1 :: q2 :: S) v m) (hb : m.e < 4611686018427387904)
    (hK : ∀ q2' v' H', IHeap.upd [p, q1, q2] H H' → (q2' = q2 ∨ H.next ≤ q2') → q2' < H'.next → IsM H' p q1 q2' (m.deed ⟨0, a, b, now⟩) → RM H' (p :: q1 :: q2' :: S) v' (m.deed ⟨0, a, b, now⟩) → K (.tuple #[v', .bool true]) H') :
    c.C (c.F n_hurdlelaw23_do) [.pointer (some ⟨p, 0, none⟩), v, dmV ⟨0, a, b, now⟩] H K := by
  refine c.enter hT.hurdlelaw23_do rfl ?_
  have hv0 := hv
  have hpl := hM.lt
  have hql := hM.lt1
  have hok := hM.ok
  have hin : ∀ b ∈ p :: q1 :: q2 :: S, b < H.next := fun b hb => by
    simp only [List.mem_cons] at hb
    rcases hb with h | h | h | h
    · omega
    · omega
    · omega
    · exact hSl b h
  obtain ⟨v1, v2, rfl, w1, w2, o1, o2⟩ := hv
  obtain ⟨a1, c1, rfl⟩ := w1.len
  obtain ⟨a2, c2, rfl⟩ := w2.len
  simp only [List.length_map] at hv0 w1 w2 o1 o2
  obtain ⟨HA, hHA⟩ : ∃ HA : IHeap, HA = ((H.alloc (.cells [.slice a1 m.L.length c1, .slice a2 m.S.length c2, .int .i64 m.e, .int .i64 m.h, .bool m.f, .int .i64 m.g] false)).alloc (.cells [.int .i64 0, .int .i64 a, .int .i64 b, .bool now] false)).alloc (.cells [.slice none 0 0, .slice none 0 0, .int .i64 0, .int .i64 0, .bool false, .int .i64 0] false) := ⟨_, rfl⟩
  have kA : H.le HA := by rw [hHA]; exact ((H.le_alloc _).alloc _).alloc _
  have nA : HA.next = H.next + 1 + 1 + 1 := by rw [hHA]; rfl
  have gA : HA.get (H.next + 1 + 1) = some (.cells [.slice none 0 0, .slice none 0 0, .int .i64 0, .int .i64 0, .bool false, .int .i64 0] false) := by rw [hHA, YS, if_pos (by simp only [YU])]
  have gC : HA.get (H.next + 1) = some (.cells [.int .i64 0, .int .i64 a, .int .i64 b, .bool now] false) := by rw [hHA, YS, if_neg (by simp only [YU]; omega), YS, if_pos (by simp only [YU])]
  have gB : HA.get H.next = some (.cells [.slice a1 m.L.length c1, .slice a2 m.S.length c2, .int .i64 m.e, .int .i64 m.h, .bool m.f, .int .i64 m.g] false) := by rw [hHA, YS, if_neg (by simp only [YU]; omega), YS, if_neg (by simp only [YU]; omega), YS, if_pos rfl]
  have hMA := hM.le kA
  have hvA := (hv0.more (S' := (H.next + 1 + 1) :: p :: q1 :: q2 :: S) fun b hb => (List.mem_cons.1 hb).elim (fun h => .inr (by omega)) .inl).le kA
  have hin' : ∀ b ∈ (H.next + 1 + 1) :: p :: q1 :: q2 :: S, b < HA.next := fun b hb => (List.mem_cons.1 hb).elim (fun h => by omega) fun h => by have := hin b h; omega
  cases now
  · have hd : m.deed ⟨0, a, b, false⟩ = (m.fail a b).1 := by simp [Mem.deed, DM.A, DM.B]
    rw [hd] at hK
    have hpe : (m.fail a b).1.e ≤ m.e + 1 := fail_e _ _ _
    have hpk : (m.fail a b).1.ok := hok.fail hb _ _
    simp -implicitDefEqProofs [J0,J1,J2,J3,J4,J5,J6,J7,J8,J9,Ja,Jb,Jc,Jd,Je,Jf,Jg,Jh,Ji,Jj,Jk,Jl,Jm,Jn,Jo,Jp,Jq,Jr,Js,Jt,Ju,Jv,Jw,Jx,Jy,Jz,JA,JB,JC,JD,JE,JF,JG,JH,JI,JJ,JK,JL,JM,JN,JO,JP,stillI,IOp.kind,JQ,JR,JS,JT,JU,JV,JW,JX,JY,JZ,Y0,Y1,Y2,Y3,Y4,Y5,Y6,Y7,Y8,Y9,Ya,Yb,Yc,Yd,Ye,Yf,Yg,Yh,Yi,Yj,Yk,Yl,Ym,Yn,ial,Yo,Yp,Yq,Yr,Ys,Yt,Yu,Yv,ires,iresL,ires1,Yw,Yx,Yy,Yz,YA,YB,bin2,YC,YD,YE,YF,YG,YH,YI,YJ,YK,YL,YM,YN,YO,YP,YQ,YR,un1,shOk,eqL,eq1,fillL,putAt,IHeap.load1,IHeap.loadL,IHeap.storeL,YS,YT,YU,YV,YW,YX,YY,YZ,B0,B1,B2,B3,B4,B5,B6,B7,B8,B9,Ba,Bb,Bc,Bd,Be,Bf,Bg,Bh,Bi,Bj,Bk,Bl,Bm, c_hurdlelaw23_do, dmV, ← hHA, gA, gB, gC]
    refine call_of (RFail_ok c hR hvA hok hb fun v' H1 k1 r1 => ?_)
    obtain ⟨w1', w2', rfl, ww1, ww2, _, _⟩ := id r1
    have hr0 := r1
    obtain ⟨b1, d1, rfl⟩ := ww1.len
    obtain ⟨b2, d2, rfl⟩ := ww2.len
    simp only [List.length_map] at r1 hr0
    have n1 := k1.next
    have g1 := (k1.get (H.next + 1 + 1) (by omega)).trans gA
    simp -implicitDefEqProofs [J0,J1,J2,J3,J4,J5,J6,J7,J8,J9,Ja,Jb,Jc,Jd,Je,Jf,Jg,Jh,Ji,Jj,Jk,Jl,Jm,Jn,Jo,Jp,Jq,Jr,Js,Jt,Ju,Jv,Jw,Jx,Jy,Jz,JA,JB,JC,JD,JE,JF,JG,JH,JI,JJ,JK,JL,JM,JN,JO,JP,stillI,IOp.kind,JQ,JR,JS,JT,JU,JV,JW,JX,JY,JZ,Y0,Y1,Y2,Y3,Y4,Y5,Y6,Y7,Y8,Y9,Ya,Yb,Yc,Yd,Ye,Yf,Yg,Yh,Yi,Yj,Yk,Yl,Ym,Yn,ial,Yo,Yp,Yq,Yr,Ys,Yt,Yu,Yv,ires,iresL,ires1,Yw,Yx,Yy,Yz,YA,YB,bin2,YC,YD,YE,YF,YG,YH,YI,YJ,YK,YL,YM,YN,YO,YP,YQ,YR,un1,shOk,eqL,eq1,fillL,putAt,IHeap.load1,IHeap.loadL,IHeap.storeL,YS,YT,YU,YV,YW,YX,YY,YZ,B0,B1,B2,B3,B4,B5,B6,B7,B8,B9,Ba,Bb,Bc,Bd,Be,Bf,Bg,Bh,Bi,Bj,Bk,Bl,Bm, List.length_map]
    obtain ⟨H2, hH2⟩ : ∃ X : IHeap, X = (H1.alloc (.cells [.slice none 0 0, .slice none 0 0, .int .i64 0, .int .i64 0, .bool false, .int .i64 0] false)).set H1.next (.cells [.slice b1 (m.fail a b).1.L.length d1, .slice b2 (m.fail a b).1.S.length d2, .int .i64 (m.fail a b).1.e, .int .i64 (m.fail a b).1.h, .bool (m.fail a b).1.f, .int .i64 (m.fail a b).1.g] false) := ⟨_, rfl⟩
    rw [← hH2]
    have l2 : H1.le H2 := by rw [hH2]; exact (H1.le_alloc _).set (Nat.le_refl _) _
    have k2 : H.le H2 := (kA.trans k1).trans l2
    have m2 : H2.next = H1.next + 1 := by rw [hH2]; rfl
    have x2 : H2.get H1.next = some (.cells [.slice b1 (m.fail a b).1.L.length d1, .slice b2 (m.fail a b).1.S.length d2, .int .i64 (m.fail a b).1.e, .int .i64 (m.fail a b).1.h, .bool (m.fail a b).1.f, .int .i64 (m.fail a b).1.g] false) := by rw [hH2, YT, if_pos rfl]
    have g2 := (l2.get (H.next + 1 + 1) (by omega)).trans g1
    have nin : ∀ i, H.next ≤ i → i ∉ [p, q1, q2] := fun i hi hm => by simp only [List.mem_cons, List.not_mem_nil, or_false] at hm; omega
    refine dcall_of c.mono (MFail_ok c hc (hM.le k2) hb fun H3 u3 hn3 hM3 => ?_)
    have u3' : IHeap.upd ((H.next + 1 + 1) :: p :: q1 :: q2 :: S) H2 H3 := ⟨u3.next, fun b hb hs => u3.get b hb fun hm => hs (by simp only [List.mem_cons, List.not_mem_nil, or_false] at hm ⊢; rcases hm with h | h | h <;> simp [h])⟩
    have r3 := (r1.le l2).upd u3'
    have x3 := (u3.get H1.next (by omega) (nin _ (by omega))).trans x2
    have g3 := (u3.get (H.next + 1 + 1) (by omega) (nin _ (by omega))).trans g2
    simp -implicitDefEqProofs [J0,J1,J2,J3,J4,J5,J6,J7,J8,J9,Ja,Jb,Jc,Jd,Je,Jf,Jg,Jh,Ji,Jj,Jk,Jl,Jm,Jn,Jo,Jp,Jq,Jr,Js,Jt,Ju,Jv,Jw,Jx,Jy,Jz,JA,JB,JC,JD,JE,JF,JG,JH,JI,JJ,JK,JL,JM,JN,JO,JP,stillI,IOp.kind,JQ,JR,JS,JT,JU,JV,JW,JX,JY,JZ,Y0,Y1,Y2,Y3,Y4,Y5,Y6,Y7,Y8,Y9,Ya,Yb,Yc,Yd,Ye,Yf,Yg,Yh,Yi,Yj,Yk,Yl,Ym,Yn,ial,Yo,Yp,Yq,Yr,Ys,Yt,Yu,Yv,ires,iresL,ires1,Yw,Yx,Yy,Yz,YA,YB,bin2,YC,YD,YE,YF,YG,YH,YI,YJ,YK,YL,YM,YN,YO,YP,YQ,YR,un1,shOk,eqL,eq1,fillL,putAt,IHeap.load1,IHeap.loadL,IHeap.storeL,YS,YT,YU,YV,YW,YX,YY,YZ,B0,B1,B2,B3,B4,B5,B6,B7,B8,B9,Ba,Bb,Bc,Bd,Be,Bf,Bg,Bh,Bi,Bj,Bk,Bl,Bm, stillI, x3, g3]
    have rq : q2 < H3.next := by have := u3.next; omega
    have uu : ∀ x, IHeap.upd [H.next + 1 + 1] H3 (H3.set (H.next + 1 + 1) x) := fun x => (IHeap.upd_refl _ _).set (.inr (by simp)) _
    exact hK q2 _ _ ((k2.updTrans u3).set (.inl (by omega)) _) (.inl rfl) (by simp only [YV]; omega) (hM3.upd (uu _) (by simp; omega) (by simp; omega) (by simp; omega) (by omega)) (((r3.more (S' := [H.next + 1 + 1]) fun b hb => by simp at hb; simp [hb]).upd (uu _)).with (r3.more (S' := p :: q1 :: q2 :: S) fun b hb => .inl (List.mem_cons_of_mem _ hb)) (by simp only [YV]; exact Nat.le_refl _))
  · have hd : m.deed ⟨0, a, b, true⟩ = (m.fail a m.e).1 := by simp [Mem.deed, DM.A, DM.B]
    rw [hd] at hK
    have hpe : (m.fail a m.e).1.e ≤ m.e + 1 := fail_e _ _ _
    have hpk : (m.fail a m.e).1.ok := hok.fail hb _ _
    simp -implicitDefEqProofs [J0,J1,J2,J3,J4,J5,J6,J7,J8,J9,Ja,Jb,Jc,Jd,Je,Jf,Jg,Jh,Ji,Jj,Jk,Jl,Jm,Jn,Jo,Jp,Jq,Jr,Js,Jt,Ju,Jv,Jw,Jx,Jy,Jz,JA,JB,JC,JD,JE,JF,JG,JH,JI,JJ,JK,JL,JM,JN,JO,JP,stillI,IOp.kind,JQ,JR,JS,JT,JU,JV,JW,JX,JY,JZ,Y0,Y1,Y2,Y3,Y4,Y5,Y6,Y7,Y8,Y9,Ya,Yb,Yc,Yd,Ye,Yf,Yg,Yh,Yi,Yj,Yk,Yl,Ym,Yn,ial,Yo,Yp,Yq,Yr,Ys,Yt,Yu,Yv,ires,iresL,ires1,Yw,Yx,Yy,Yz,YA,YB,bin2,YC,YD,YE,YF,YG,YH,YI,YJ,YK,YL,YM,YN,YO,YP,YQ,YR,un1,shOk,eqL,eq1,fillL,putAt,IHeap.load1,IHeap.loadL,IHeap.storeL,YS,YT,YU,YV,YW,YX,YY,YZ,B0,B1,B2,B3,B4,B5,B6,B7,B8,B9,Ba,Bb,Bc,Bd,Be,Bf,Bg,Bh,Bi,Bj,Bk,Bl,Bm, c_hurdlelaw23_do, dmV, ← hHA, gA, gB, gC]
    refine call_of (RFail_ok c hR hvA hok hb fun v' H1 k1 r1 => ?_)
    obtain ⟨w1', w2', rfl, ww1, ww2, _, _⟩ := id r1
    have hr0 := r1
    obtain ⟨b1, d1, rfl⟩ := ww1.len
    obtain ⟨b2, d2, rfl⟩ := ww2.len
    simp only [List.length_map] at r1 hr0
    have n1 := k1.next
    have g1 := (k1.get (H.next + 1 + 1) (by omega)).trans gA
    simp -implicitDefEqProofs [J0,J1,J2,J3,J4,J5,J6,J7,J8,J9,Ja,Jb,Jc,Jd,Je,Jf,Jg,Jh,Ji,Jj,Jk,Jl,Jm,Jn,Jo,Jp,Jq,Jr,Js,Jt,Ju,Jv,Jw,Jx,Jy,Jz,JA,JB,JC,JD,JE,JF,JG,JH,JI,JJ,JK,JL,JM,JN,JO,JP,stillI,IOp.kind,JQ,JR,JS,JT,JU,JV,JW,JX,JY,JZ,Y0,Y1,Y2,Y3,Y4,Y5,Y6,Y7,Y8,Y9,Ya,Yb,Yc,Yd,Ye,Yf,Yg,Yh,Yi,Yj,Yk,Yl,Ym,Yn,ial,Yo,Yp,Yq,Yr,Ys,Yt,Yu,Yv,ires,iresL,ires1,Yw,Yx,Yy,Yz,YA,YB,bin2,YC,YD,YE,YF,YG,YH,YI,YJ,YK,YL,YM,YN,YO,YP,YQ,YR,un1,shOk,eqL,eq1,fillL,putAt,IHeap.load1,IHeap.loadL,IHeap.storeL,YS,YT,YU,YV,YW,YX,YY,YZ,B0,B1,B2,B3,B4,B5,B6,B7,B8,B9,Ba,Bb,Bc,Bd,Be,Bf,Bg,Bh,Bi,Bj,Bk,Bl,Bm, List.length_map]
    obtain ⟨H2, hH2⟩ : ∃ X : IHeap, X = (H1.alloc (.cells [.slice none 0 0, .slice none 0 0, .int .i64 0, .int .i64 0, .bool false, .int .i64 0] false)).set H1.next (.cells [.slice b1 (m.fail a m.e).1.L.length d1, .slice b2 (m.fail a m.e).1.S.length d2, .int .i64 (m.fail a m.e).1.e, .int .i64 (m.fail a m.e).1.h, .bool (m.fail a m.e).1.f, .int .i64 (m.fail a m.e).1.g] false) := ⟨_, rfl⟩
    rw [← hH2]
    have l2 : H1.le H2 := by rw [hH2]; exact (H1.le_alloc _).set (Nat.le_refl _) _
    have k2 : H.le H2 := (kA.trans k1).trans l2
    have m2 : H2.next = H1.next + 1 := by rw [hH2]; rfl
    have x2 : H2.get H1.next = some (.cells [.slice b1 (m.fail a m.e).1.L.length d1, .slice b2 (m.fail a m.e).1.S.length d2, .int .i64 (m.fail a m.e).1.e, .int .i64 (m.fail a m.e).1.h, .bool (m.fail a m.e).1.f, .int .i64 (m.fail a m.e).1.g] false) := by rw [hH2, YT, if_pos rfl]
    have g2 := (l2.get (H.next + 1 + 1) (by omega)).trans g1
    have nin : ∀ i, H.next ≤ i → i ∉ [p, q1, q2] := fun i hi hm => by simp only [List.mem_cons, List.not_mem_nil, or_false] at hm; omega
    refine dcall_of c.mono (MFail_ok c hc (hM.le k2) hb fun H3 u3 hn3 hM3 => ?_)
    have u3' : IHeap.upd ((H.next + 1 + 1) :: p :: q1 :: q2 :: S) H2 H3 := ⟨u3.next, fun b hb hs => u3.get b hb fun hm => hs (by simp only [List.mem_cons, List.not_mem_nil, or_false] at hm ⊢; rcases hm with h | h | h <;> simp [h])⟩
    have r3 := (r1.le l2).upd u3'
    have x3 := (u3.get H1.next (by omega) (nin _ (by omega))).trans x2
    have g3 := (u3.get (H.next + 1 + 1) (by omega) (nin _ (by omega))).trans g2
    simp -implicitDefEqProofs [J0,J1,J2,J3,J4,J5,J6,J7,J8,J9,Ja,Jb,Jc,Jd,Je,Jf,Jg,Jh,Ji,Jj,Jk,Jl,Jm,Jn,Jo,Jp,Jq,Jr,Js,Jt,Ju,Jv,Jw,Jx,Jy,Jz,JA,JB,JC,JD,JE,JF,JG,JH,JI,JJ,JK,JL,JM,JN,JO,JP,stillI,IOp.kind,JQ,JR,JS,JT,JU,JV,JW,JX,JY,JZ,Y0,Y1,Y2,Y3,Y4,Y5,Y6,Y7,Y8,Y9,Ya,Yb,Yc,Yd,Ye,Yf,Yg,Yh,Yi,Yj,Yk,Yl,Ym,Yn,ial,Yo,Yp,Yq,Yr,Ys,Yt,Yu,Yv,ires,iresL,ires1,Yw,Yx,Yy,Yz,YA,YB,bin2,YC,YD,YE,YF,YG,YH,YI,YJ,YK,YL,YM,YN,YO,YP,YQ,YR,un1,shOk,eqL,eq1,fillL,putAt,IHeap.load1,IHeap.loadL,IHeap.storeL,YS,YT,YU,YV,YW,YX,YY,YZ,B0,B1,B2,B3,B4,B5,B6,B7,B8,B9,Ba,Bb,Bc,Bd,Be,Bf,Bg,Bh,Bi,Bj,Bk,Bl,Bm, stillI, x3, g3]
    have rq : q2 < H3.next := by have := u3.next; omega
    have uu : ∀ x, IHeap.upd [H.next + 1 + 1] H3 (H3.set (H.next + 1 + 1) x) := fun x => (IHeap.upd_refl _ _).set (.inr (by simp)) _
    exact hK q2 _ _ ((k2.updTrans u3).set (.inl (by omega)) _) (.inl rfl) (by simp only [YV]; omega) (hM3.upd (uu _) (by simp; omega) (by simp; omega) (by simp; omega) (by omega)) (((r3.more (S' := [H.next + 1 + 1]) fun b hb => by simp at hb; simp [hb]).upd (uu _)).with (r3.more (S' := p :: q1 :: q2 :: S) fun b hb => .inl (List.mem_cons_of_mem _ hb)) (by simp only [YV]; exact Nat.le_refl _))

include hc hR hT in
theorem do1_ok23 {S : List Nat} {p q1 q2 : Nat} {v : Value} {m : Mem} {a b : Int} {now : Bool} (hM : IsM H p q1 q2 m) (hq2 : q2 < H.next) (hSl : ∀ b ∈ S, b < H.next) (hv : RM H (p :: q1 :: q2 :: S) v m) (hb : m.e < 4611686018427387904)
    (hK : ∀ q2' v' H', IHeap.upd [p, q1, q2] H H' → (q2' = q2 ∨ H.next ≤ q2') → q2' < H'.next → IsM H' p q1 q2' (m.deed ⟨1, a, b, now⟩) → RM H' (p :: q1 :: q2' :: S) v' (m.deed ⟨1, a, b, now⟩) → K (.tuple #[v', .bool true]) H') :
    c.C (c.F n_hurdlelaw23_do) [.pointer (some ⟨p, 0, none⟩), v, dmV ⟨1, a, b, now⟩] H K := by
  refine c.enter hT.hurdlelaw23_do rfl ?_
  have hv0 := hv
  have hpl := hM.lt
  have hql := hM.lt1
  have hok := hM.ok
  have hin : ∀ b ∈ p :: q1 :: q2 :: S, b < H.next := fun b hb => by
    simp only [List.mem_cons] at hb
    rcases hb with h | h | h | h
    · omega
    · omega
    · omega
    · exact hSl b h
  obtain ⟨v1, v2, rfl, w1, w2, o1, o2⟩ := hv
  obtain ⟨a1, c1, rfl⟩ := w1.len
  obtain ⟨a2, c2, rfl⟩ := w2.len
  simp only [List.length_map] at hv0 w1 w2 o1 o2
  obtain ⟨HA, hHA⟩ : ∃ HA : IHeap, HA = ((H.alloc (.cells [.slice a1 m.L.length c1, .slice a2 m.S.length c2, .int .i64 m.e, .int .i64 m.h, .bool m.f, .int .i64 m.g] false)).alloc (.cells [.int .i64 1, .int .i64 a, .int .i64 b, .bool now] false)).alloc (.cells [.slice none 0 0, .slice none 0 0, .int .i64 0, .int .i64 0, .bool false, .int .i64 0] false) := ⟨_, rfl⟩
  have kA : H.le HA := by rw [hHA]; exact ((H.le_alloc _).alloc _).alloc _
  have nA : HA.next = H.next + 1 + 1 + 1 := by rw [hHA]; rfl
  have gA : HA.get (H.next + 1 + 1) = some (.cells [.slice none 0 0, .slice none 0 0, .int .i64 0, .int .i64 0, .bool false, .int .i64 0] false) := by rw [hHA, YS, if_pos (by simp only [YU])]
  have gC : HA.get (H.next + 1) = some (.cells [.int .i64 1, .int .i64 a, .int .i64 b, .bool now] false) := by rw [hHA, YS, if_neg (by simp only [YU]; omega), YS, if_pos (by simp only [YU])]
  have gB : HA.get H.next = some (.cells [.slice a1 m.L.length c1, .slice a2 m.S.length c2, .int .i64 m.e, .int .i64 m.h, .bool m.f, .int .i64 m.g] false) := by rw [hHA, YS, if_neg (by simp only [YU]; omega), YS, if_neg (by simp only [YU]; omega), YS, if_pos rfl]
  have hMA := hM.le kA
  have hvA := (hv0.more (S' := (H.next + 1 + 1) :: p :: q1 :: q2 :: S) fun b hb => (List.mem_cons.1 hb).elim (fun h => .inr (by omega)) .inl).le kA
  have hin' : ∀ b ∈ (H.next + 1 + 1) :: p :: q1 :: q2 :: S, b < HA.next := fun b hb => (List.mem_cons.1 hb).elim (fun h => by omega) fun h => by have := hin b h; omega
  cases now
  · have hd : m.deed ⟨1, a, b, false⟩ = (m.swap a).1 := by simp [Mem.deed, DM.A, DM.B]
    rw [hd] at hK
    have hpe : (m.swap a).1.e ≤ m.e + 1 := swap_e _ _
    have hpk : (m.swap a).1.ok := hok.swap hb _
    simp -implicitDefEqProofs [J0,J1,J2,J3,J4,J5,J6,J7,J8,J9,Ja,Jb,Jc,Jd,Je,Jf,Jg,Jh,Ji,Jj,Jk,Jl,Jm,Jn,Jo,Jp,Jq,Jr,Js,Jt,Ju,Jv,Jw,Jx,Jy,Jz,JA,JB,JC,JD,JE,JF,JG,JH,JI,JJ,JK,JL,JM,JN,JO,JP,stillI,IOp.kind,JQ,JR,JS,JT,JU,JV,JW,JX,JY,JZ,Y0,Y1,Y2,Y3,Y4,Y5,Y6,Y7,Y8,Y9,Ya,Yb,Yc,Yd,Ye,Yf,Yg,Yh,Yi,Yj,Yk,Yl,Ym,Yn,ial,Yo,Yp,Yq,Yr,Ys,Yt,Yu,Yv,ires,iresL,ires1,Yw,Yx,Yy,Yz,YA,YB,bin2,YC,YD,YE,YF,YG,YH,YI,YJ,YK,YL,YM,YN,YO,YP,YQ,YR,un1,shOk,eqL,eq1,fillL,putAt,IHeap.load1,IHeap.loadL,IHeap.storeL,YS,YT,YU,YV,YW,YX,YY,YZ,B0,B1,B2,B3,B4,B5,B6,B7,B8,B9,Ba,Bb,Bc,Bd,Be,Bf,Bg,Bh,Bi,Bj,Bk,Bl,Bm, c_hurdlelaw23_do, dmV, ← hHA, gA, gB, gC]
    refine call_of (RSwap_ok23 c hR hvA hok hb hin' fun v' H1 k1 r1 => ?_)
    obtain ⟨w1', w2', rfl, ww1, ww2, _, _⟩ := id r1
    have hr0 := r1
    obtain ⟨b1, d1, rfl⟩ := ww1.len
    obtain ⟨b2, d2, rfl⟩ := ww2.len
    simp only [List.length_map] at r1 hr0
    have n1 := k1.next
    have g1 := (k1.get (H.next + 1 + 1) (by omega)).trans gA
    simp -implicitDefEqProofs [J0,J1,J2,J3,J4,J5,J6,J7,J8,J9,Ja,Jb,Jc,Jd,Je,Jf,Jg,Jh,Ji,Jj,Jk,Jl,Jm,Jn,Jo,Jp,Jq,Jr,Js,Jt,Ju,Jv,Jw,Jx,Jy,Jz,JA,JB,JC,JD,JE,JF,JG,JH,JI,JJ,JK,JL,JM,JN,JO,JP,stillI,IOp.kind,JQ,JR,JS,JT,JU,JV,JW,JX,JY,JZ,Y0,Y1,Y2,Y3,Y4,Y5,Y6,Y7,Y8,Y9,Ya,Yb,Yc,Yd,Ye,Yf,Yg,Yh,Yi,Yj,Yk,Yl,Ym,Yn,ial,Yo,Yp,Yq,Yr,Ys,Yt,Yu,Yv,ires,iresL,ires1,Yw,Yx,Yy,Yz,YA,YB,bin2,YC,YD,YE,YF,YG,YH,YI,YJ,YK,YL,YM,YN,YO,YP,YQ,YR,un1,shOk,eqL,eq1,fillL,putAt,IHeap.load1,IHeap.loadL,IHeap.storeL,YS,YT,YU,YV,YW,YX,YY,YZ,B0,B1,B2,B3,B4,B5,B6,B7,B8,B9,Ba,Bb,Bc,Bd,Be,Bf,Bg,Bh,Bi,Bj,Bk,Bl,Bm, List.length_map]
    obtain ⟨H2, hH2⟩ : ∃ X : IHeap, X = (H1.alloc (.cells [.slice none 0 0, .slice none 0 0, .int .i64 0, .int .i64 0, .bool false, .int .i64 0] false)).set H1.next (.cells [.slice b1 (m.swap a).1.L.length d1, .slice b2 (m.swap a).1.S.length d2, .int .i64 (m.swap a).1.e, .int .i64 (m.swap a).1.h, .bool (m.swap a).1.f, .int .i64 (m.swap a).1.g] false) := ⟨_, rfl⟩
    rw [← hH2]
    have l2 : H1.le H2 := by rw [hH2]; exact (H1.le_alloc _).set (Nat.le_refl _) _
    have k2 : H.le H2 := (kA.trans k1).trans l2
    have m2 : H2.next = H1.next + 1 := by rw [hH2]; rfl
    have x2 : H2.get H1.next = some (.cells [.slice b1 (m.swap a).1.L.length d1, .slice b2 (m.swap a).1.S.length d2, .int .i64 (m.swap a).1.e, .int .i64 (m.swap a).1.h, .bool (m.swap a).1.f, .int .i64 (m.swap a).1.g] false) := by rw [hH2, YT, if_pos rfl]
    have g2 := (l2.get (H.next + 1 + 1) (by omega)).trans g1
    have nin : ∀ i, H.next ≤ i → i ∉ [p, q1, q2] := fun i hi hm => by simp only [List.mem_cons, List.not_mem_nil, or_false] at hm; omega
    refine call_of (MSwap_ok c hc (hM.le k2) hb fun H3 u3 hn3 hM3 => ?_)
    have u3' : IHeap.upd ((H.next + 1 + 1) :: p :: q1 :: q2 :: S) H2 H3 := ⟨u3.next, fun b hb hs => u3.get b hb fun hm => hs (by simp only [List.mem_cons, List.not_mem_nil, or_false] at hm ⊢; rcases hm with h | h | h <;> simp [h])⟩
    have r3 := (r1.le l2).upd u3'
    have x3 := (u3.get H1.next (by omega) (nin _ (by omega))).trans x2
    have g3 := (u3.get (H.next + 1 + 1) (by omega) (nin _ (by omega))).trans g2
    simp -implicitDefEqProofs [J0,J1,J2,J3,J4,J5,J6,J7,J8,J9,Ja,Jb,Jc,Jd,Je,Jf,Jg,Jh,Ji,Jj,Jk,Jl,Jm,Jn,Jo,Jp,Jq,Jr,Js,Jt,Ju,Jv,Jw,Jx,Jy,Jz,JA,JB,JC,JD,JE,JF,JG,JH,JI,JJ,JK,JL,JM,JN,JO,JP,stillI,IOp.kind,JQ,JR,JS,JT,JU,JV,JW,JX,JY,JZ,Y0,Y1,Y2,Y3,Y4,Y5,Y6,Y7,Y8,Y9,Ya,Yb,Yc,Yd,Ye,Yf,Yg,Yh,Yi,Yj,Yk,Yl,Ym,Yn,ial,Yo,Yp,Yq,Yr,Ys,Yt,Yu,Yv,ires,iresL,ires1,Yw,Yx,Yy,Yz,YA,YB,bin2,YC,YD,YE,YF,YG,YH,YI,YJ,YK,YL,YM,YN,YO,YP,YQ,YR,un1,shOk,eqL,eq1,fillL,putAt,IHeap.load1,IHeap.loadL,IHeap.storeL,YS,YT,YU,YV,YW,YX,YY,YZ,B0,B1,B2,B3,B4,B5,B6,B7,B8,B9,Ba,Bb,Bc,Bd,Be,Bf,Bg,Bh,Bi,Bj,Bk,Bl,Bm, stillI, x3, g3]
    have rq : q2 < H3.next := by have := u3.next; omega
    have uu : ∀ x, IHeap.upd [H.next + 1 + 1] H3 (H3.set (H.next + 1 + 1) x) := fun x => (IHeap.upd_refl _ _).set (.inr (by simp)) _
    exact hK q2 _ _ ((k2.updTrans u3).set (.inl (by omega)) _) (.inl rfl) (by simp only [YV]; omega) (hM3.upd (uu _) (by simp; omega) (by simp; omega) (by simp; omega) (by omega)) (((r3.more (S' := [H.next + 1 + 1]) fun b hb => by simp at hb; simp [hb]).upd (uu _)).with (r3.more (S' := p :: q1 :: q2 :: S) fun b hb => .inl (List.mem_cons_of_mem _ hb)) (by simp only [YV]; exact Nat.le_refl _))
  · have hd : m.deed ⟨1, a, b, true⟩ = (m.swap m.e).1 := by simp [Mem.deed, DM.A, DM.B]
    rw [hd] at hK
    have hpe : (m.swap m.e).1.e ≤ m.e + 1 := swap_e _ _
    have hpk : (m.swap m.e).1.ok := hok.swap hb _
    simp -implicitDefEqProofs [J0,J1,J2,J3,J4,J5,J6,J7,J8,J9,Ja,Jb,Jc,Jd,Je,Jf,Jg,Jh,Ji,Jj,Jk,Jl,Jm,Jn,Jo,Jp,Jq,Jr,Js,Jt,Ju,Jv,Jw,Jx,Jy,Jz,JA,JB,JC,JD,JE,JF,JG,JH,JI,JJ,JK,JL,JM,JN,JO,JP,stillI,IOp.kind,JQ,JR,JS,JT,JU,JV,JW,JX,JY,JZ,Y0,Y1,Y2,Y3,Y4,Y5,Y6,Y7,Y8,Y9,Ya,Yb,Yc,Yd,Ye,Yf,Yg,Yh,Yi,Yj,Yk,Yl,Ym,Yn,ial,Yo,Yp,Yq,Yr,Ys,Yt,Yu,Yv,ires,iresL,ires1,Yw,Yx,Yy,Yz,YA,YB,bin2,YC,YD,YE,YF,YG,YH,YI,YJ,YK,YL,YM,YN,YO,YP,YQ,YR,un1,shOk,eqL,eq1,fillL,putAt,IHeap.load1,IHeap.loadL,IHeap.storeL,YS,YT,YU,YV,YW,YX,YY,YZ,B0,B1,B2,B3,B4,B5,B6,B7,B8,B9,Ba,Bb,Bc,Bd,Be,Bf,Bg,Bh,Bi,Bj,Bk,Bl,Bm, c_hurdlelaw23_do, dmV, ← hHA, gA, gB, gC]
    refine call_of (RSwap_ok23 c hR hvA hok hb hin' fun v' H1 k1 r1 => ?_)
    obtain ⟨w1', w2', rfl, ww1, ww2, _, _⟩ := id r1
    have hr0 := r1
    obtain ⟨b1, d1, rfl⟩ := ww1.len
    obtain ⟨b2, d2, rfl⟩ := ww2.len
    simp only [List.length_map] at r1 hr0
    have n1 := k1.next
    have g1 := (k1.get (H.next + 1 + 1) (by omega)).trans gA
    simp -implicitDefEqProofs [J0,J1,J2,J3,J4,J5,J6,J7,J8,J9,Ja,Jb,Jc,Jd,Je,Jf,Jg,Jh,Ji,Jj,Jk,Jl,Jm,Jn,Jo,Jp,Jq,Jr,Js,Jt,Ju,Jv,Jw,Jx,Jy,Jz,JA,JB,JC,JD,JE,JF,JG,JH,JI,JJ,JK,JL,JM,JN,JO,JP,stillI,IOp.kind,JQ,JR,JS,JT,JU,JV,JW,JX,JY,JZ,Y0,Y1,Y2,Y3,Y4,Y5,Y6,Y7,Y8,Y9,Ya,Yb,Yc,Yd,Ye,Yf,Yg,Yh,Yi,Yj,Yk,Yl,Ym,Yn,ial,Yo,Yp,Yq,Yr,Ys,Yt,Yu,Yv,ires,iresL,ires1,Yw,Yx,Yy,Yz,YA,YB,bin2,YC,YD,YE,YF,YG,YH,YI,YJ,YK,YL,YM,YN,YO,YP,YQ,YR,un1,shOk,eqL,eq1,fillL,putAt,IHeap.load1,IHeap.loadL,IHeap.storeL,YS,YT,YU,YV,YW,YX,YY,YZ,B0,B1,B2,B3,B4,B5,B6,B7,B8,B9,Ba,Bb,Bc,Bd,Be,Bf,Bg,Bh,Bi,Bj,Bk,Bl,Bm, List.length_map]
    obtain ⟨H2, hH2⟩ : ∃ X : IHeap, X = (H1.alloc (.cells [.slice none 0 0, .slice none 0 0, .int .i64 0, .int .i64 0, .bool false, .int .i64 0] false)).set H1.next (.cells [.slice b1 (m.swap m.e).1.L.length d1, .slice b2 (m.swap m.e).1.S.length d2, .int .i64 (m.swap m.e).1.e, .int .i64 (m.swap m.e).1.h, .bool (m.swap m.e).1.f, .int .i64 (m.swap m.e).1.g] false) := ⟨_, rfl⟩
    rw [← hH2]
    have l2 : H1.le H2 := by rw [hH2]; exact (H1.le_alloc _).set (Nat.le_refl _) _
    have k2 : H.le H2 := (kA.trans k1).trans l2
    have m2 : H2.next = H1.next + 1 := by rw [hH2]; rfl
    have x2 : H2.get H1.next = some (.cells [.slice b1 (m.swap m.e).1.L.length d1, .slice b2 (m.swap m.e).1.S.length d2, .int .i64 (m.swap m.e).1.e, .int .i64 (m.swap m.e).1.h, .bool (m.swap m.e).1.f, .int .i64 (m.swap m.e).1.g] false) := by rw [hH2, YT, if_pos rfl]
    have g2 := (l2.get (H.next + 1 + 1) (by omega)).trans g1
    have nin : ∀ i, H.next ≤ i → i ∉ [p, q1, q2] := fun i hi hm => by simp only [List.mem_cons, List.not_mem_nil, or_false] at hm; omega
    refine call_of (MSwap_ok c hc (hM.le k2) hb fun H3 u3 hn3 hM3 => ?_)
    have u3' : IHeap.upd ((H.next + 1 + 1) :: p :: q1 :: q2 :: S) H2 H3 := ⟨u3.next, fun b hb hs => u3.get b hb fun hm => hs (by simp only [List.mem_cons, List.not_mem_nil, or_false] at hm ⊢; rcases hm with h | h | h <;> simp [h])⟩
    have r3 := (r1.le l2).upd u3'
    have x3 := (u3.get H1.next (by omega) (nin _ (by omega))).trans x2
    have g3 := (u3.get (H.next + 1 + 1) (by omega) (nin _ (by omega))).trans g2
    simp -implicitDefEqProofs [J0,J1,J2,J3,J4,J5,J6,J7,J8,J9,Ja,Jb,Jc,Jd,Je,Jf,Jg,Jh,Ji,Jj,Jk,Jl,Jm,Jn,Jo,Jp,Jq,Jr,Js,Jt,Ju,Jv,Jw,Jx,Jy,Jz,JA,JB,JC,JD,JE,JF,JG,JH,JI,JJ,JK,JL,JM,JN,JO,JP,stillI,IOp.kind,JQ,JR,JS,JT,JU,JV,JW,JX,JY,JZ,Y0,Y1,Y2,Y3,Y4,Y5,Y6,Y7,Y8,Y9,Ya,Yb,Yc,Yd,Ye,Yf,Yg,Yh,Yi,Yj,Yk,Yl,Ym,Yn,ial,Yo,Yp,Yq,Yr,Ys,Yt,Yu,Yv,ires,iresL,ires1,Yw,Yx,Yy,Yz,YA,YB,bin2,YC,YD,YE,YF,YG,YH,YI,YJ,YK,YL,YM,YN,YO,YP,YQ,YR,un1,shOk,eqL,eq1,fillL,putAt,IHeap.load1,IHeap.loadL,IHeap.storeL,YS,YT,YU,YV,YW,YX,YY,YZ,B0,B1,B2,B3,B4,B5,B6,B7,B8,B9,Ba,Bb,Bc,Bd,Be,Bf,Bg,Bh,Bi,Bj,Bk,Bl,Bm, stillI, x3, g3]
    have rq : q2 < H3.next := by have := u3.next; omega
    have uu : ∀ x, IHeap.upd [H.next + 1 + 1] H3 (H3.set (H.next + 1 + 1) x) := fun x => (IHeap.upd_refl _ _).set (.inr (by simp)) _
    exact hK q2 _ _ ((k2.updTrans u3).set (.inl (by omega)) _) (.inl rfl) (by simp only [YV]; omega) (hM3.upd (uu _) (by simp; omega) (by simp; omega) (by simp; omega) (by omega)) (((r3.more (S' := [H.next + 1 + 1]) fun b hb => by simp at hb; simp [hb]).upd (uu _)).with (r3.more (S' := p :: q1 :: q2 :: S) fun b hb => .inl (List.mem_cons_of_mem _ hb)) (by simp only [YV]; exact Nat.le_refl _))

include hc hR hT in
theorem do2_ok23 {S : List Nat} {p q1 q2 : Nat} {v : Value} {m : Mem} {a b : Int} {now : Bool} (hM : IsM H p q1 q2 m) (hq2 : q2 < H.next) (hSl : ∀ b ∈ S, b < H.next) (hv : RM H (p :: q1 :: q2 :: S) v m) (hb : m.e < 4611686018427387904)
    (hK : ∀ q2' v' H', IHeap.upd [p, q1, q2] H H' → (q2' = q2 ∨ H.next ≤ q2') → q2' < H'.next → IsM H' p q1 q2' (m.deed ⟨2, a, b, now⟩) → RM H' (p :: q1 :: q2' :: S) v' (m.deed ⟨2, a, b, now⟩) → K (.tuple #[v', .bool true]) H') :
    c.C (c.F n_hurdlelaw23_do) [.pointer (some ⟨p, 0, none⟩), v, dmV ⟨2, a, b, now⟩] H K := by
  refine c.enter hT.hurdlelaw23_do rfl ?_
  have hv0 := hv
  have hpl := hM.lt
  have hql := hM.lt1
  have hok := hM.ok
  have hin : ∀ b ∈ p :: q1 :: q2 :: S, b < H.next := fun b hb => by
    simp only [List.mem_cons] at hb
    rcases hb with h | h | h | h
    · omega
    · omega
    · omega
    · exact hSl b h
  obtain ⟨v1, v2, rfl, w1, w2, o1, o2⟩ := hv
  obtain ⟨a1, c1, rfl⟩ := w1.len
  obtain ⟨a2, c2, rfl⟩ := w2.len
  simp only [List.length_map] at hv0 w1 w2 o1 o2
  obtain ⟨HA, hHA⟩ : ∃ HA : IHeap, HA = ((H.alloc (.cells [.slice a1 m.L.length c1, .slice a2 m.S.length c2, .int .i64 m.e, .int .i64 m.h, .bool m.f, .int .i64 m.g] false)).alloc (.cells [.int .i64 2, .int .i64 a, .int .i64 b, .bool now] false)).alloc (.cells [.slice none 0 0, .slice none 0 0, .int .i64 0, .int .i64 0, .bool false, .int .i64 0] false) := ⟨_, rfl⟩
  have kA : H.le HA := by rw [hHA]; exact ((H.le_alloc _).alloc _).alloc _
  have nA : HA.next = H.next + 1 + 1 + 1 := by rw [hHA]; rfl
  have gA : HA.get (H.next + 1 + 1) = some (.cells [.slice none 0 0, .slice none 0 0, .int .i64 0, .int .i64 0, .bool false, .int .i64 0] false) := by rw [hHA, YS, if_pos (by simp only [YU])]
  have gC : HA.get (H.next + 1) = some (.cells [.int .i64 2, .int .i64 a, .int .i64 b, .bool now] false) := by rw [hHA, YS, if_neg (by simp only [YU]; omega), YS, if_pos (by simp only [YU])]
  have gB : HA.get H.next = some (.cells [.slice a1 m.L.length c1, .slice a2 m.S.length c2, .int .i64 m.e, .int .i64 m.h, .bool m.f, .int .i64 m.g] false) := by rw [hHA, YS, if_neg (by simp only [YU]; omega), YS, if_neg (by simp only [YU]; omega), YS, if_pos rfl]
  have hMA := hM.le kA
  have hvA := (hv0.more (S' := (H.next + 1 + 1) :: p :: q1 :: q2 :: S) fun b hb => (List.mem_cons.1 hb).elim (fun h => .inr (by omega)) .inl).le kA
  have hin' : ∀ b ∈ (H.next + 1 + 1) :: p :: q1 :: q2 :: S, b < HA.next := fun b hb => (List.mem_cons.1 hb).elim (fun h => by omega) fun h => by have := hin b h; omega
  cases now
  · have hd : m.deed ⟨2, a, b, false⟩ = (m.done a).1 := by simp [Mem.deed, DM.A, DM.B]
    rw [hd] at hK
    have hpe : (m.done a).1.e ≤ m.e + 1 := done_e _ _
    have hpk : (m.done a).1.ok := hok.done hb _
    simp -implicitDefEqProofs [J0,J1,J2,J3,J4,J5,J6,J7,J8,J9,Ja,Jb,Jc,Jd,Je,Jf,Jg,Jh,Ji,Jj,Jk,Jl,Jm,Jn,Jo,Jp,Jq,Jr,Js,Jt,Ju,Jv,Jw,Jx,Jy,Jz,JA,JB,JC,JD,JE,JF,JG,JH,JI,JJ,JK,JL,JM,JN,JO,JP,stillI,IOp.kind,JQ,JR,JS,JT,JU,JV,JW,JX,JY,JZ,Y0,Y1,Y2,Y3,Y4,Y5,Y6,Y7,Y8,Y9,Ya,Yb,Yc,Yd,Ye,Yf,Yg,Yh,Yi,Yj,Yk,Yl,Ym,Yn,ial,Yo,Yp,Yq,Yr,Ys,Yt,Yu,Yv,ires,iresL,ires1,Yw,Yx,Yy,Yz,YA,YB,bin2,YC,YD,YE,YF,YG,YH,YI,YJ,YK,YL,YM,YN,YO,YP,YQ,YR,un1,shOk,eqL,eq1,fillL,putAt,IHeap.load1,IHeap.loadL,IHeap.storeL,YS,YT,YU,YV,YW,YX,YY,YZ,B0,B1,B2,B3,B4,B5,B6,B7,B8,B9,Ba,Bb,Bc,Bd,Be,Bf,Bg,Bh,Bi,Bj,Bk,Bl,Bm, c_hurdlelaw23_do, dmV, ← hHA, gA, gB, gC]
    refine call_of (RDone_ok23 c hR hvA hok hb fun v' H1 k1 r1 => ?_)
    obtain ⟨w1', w2', rfl, ww1, ww2, _, _⟩ := id r1
    have hr0 := r1
    obtain ⟨b1, d1, rfl⟩ := ww1.len
    obtain ⟨b2, d2, rfl⟩ := ww2.len
    simp only [List.length_map] at r1 hr0
    have n1 := k1.next
    have g1 := (k1.get (H.next + 1 + 1) (by omega)).trans gA
    simp -implicitDefEqProofs [J0,J1,J2,J3,J4,J5,J6,J7,J8,J9,Ja,Jb,Jc,Jd,Je,Jf,Jg,Jh,Ji,Jj,Jk,Jl,Jm,Jn,Jo,Jp,Jq,Jr,Js,Jt,Ju,Jv,Jw,Jx,Jy,Jz,JA,JB,JC,JD,JE,JF,JG,JH,JI,JJ,JK,JL,JM,JN,JO,JP,stillI,IOp.kind,JQ,JR,JS,JT,JU,JV,JW,JX,JY,JZ,Y0,Y1,Y2,Y3,Y4,Y5,Y6,Y7,Y8,Y9,Ya,Yb,Yc,Yd,Ye,Yf,Yg,Yh,Yi,Yj,Yk,Yl,Ym,Yn,ial,Yo,Yp,Yq,Yr,Ys,Yt,Yu,Yv,ires,iresL,ires1,Yw,Yx,Yy,Yz,YA,YB,bin2,YC,YD,YE,YF,YG,YH,YI,YJ,YK,YL,YM,YN,YO,YP,YQ,YR,un1,shOk,eqL,eq1,fillL,putAt,IHeap.load1,IHeap.loadL,IHeap.storeL,YS,YT,YU,YV,YW,YX,YY,YZ,B0,B1,B2,B3,B4,B5,B6,B7,B8,B9,Ba,Bb,Bc,Bd,Be,Bf,Bg,Bh,Bi,Bj,Bk,Bl,Bm, List.length_map]
    obtain ⟨H2, hH2⟩ : ∃ X : IHeap, X = (H1.alloc (.cells [.slice none 0 0, .slice none 0 0, .int .i64 0, .int .i64 0, .bool false, .int .i64 0] false)).set H1.next (.cells [.slice b1 (m.done a).1.L.length d1, .slice b2 (m.done a).1.S.length d2, .int .i64 (m.done a).1.e, .int .i64 (m.done a).1.h, .bool (m.done a).1.f, .int .i64 (m.done a).1.g] false) := ⟨_, rfl⟩
    rw [← hH2]
    have l2 : H1.le H2 := by rw [hH2]; exact (H1.le_alloc _).set (Nat.le_refl _) _
    have k2 : H.le H2 := (kA.trans k1).trans l2
    have m2 : H2.next = H1.next + 1 := by rw [hH2]; rfl
    have x2 : H2.get H1.next = some (.cells [.slice b1 (m.done a).1.L.length d1, .slice b2 (m.done a).1.S.length d2, .int .i64 (m.done a).1.e, .int .i64 (m.done a).1.h, .bool (m.done a).1.f, .int .i64 (m.done a).1.g] false) := by rw [hH2, YT, if_pos rfl]
    have g2 := (l2.get (H.next + 1 + 1) (by omega)).trans g1
    have nin : ∀ i, H.next ≤ i → i ∉ [p, q1, q2] := fun i hi hm => by simp only [List.mem_cons, List.not_mem_nil, or_false] at hm; omega
    refine dcall_of c.mono (MDone_ok c hc (hM.le k2) hb fun H3 u3 hn3 hM3 => ?_)
    have u3' : IHeap.upd ((H.next + 1 + 1) :: p :: q1 :: q2 :: S) H2 H3 := ⟨u3.next, fun b hb hs => u3.get b hb fun hm => hs (by simp only [List.mem_cons, List.not_mem_nil, or_false] at hm ⊢; rcases hm with h | h | h <;> simp [h])⟩
    have r3 := (r1.le l2).upd u3'
    have x3 := (u3.get H1.next (by omega) (nin _ (by omega))).trans x2
    have g3 := (u3.get (H.next + 1 + 1) (by omega) (nin _ (by omega))).trans g2
    simp -implicitDefEqProofs [J0,J1,J2,J3,J4,J5,J6,J7,J8,J9,Ja,Jb,Jc,Jd,Je,Jf,Jg,Jh,Ji,Jj,Jk,Jl,Jm,Jn,Jo,Jp,Jq,Jr,Js,Jt,Ju,Jv,Jw,Jx,Jy,Jz,JA,JB,JC,JD,JE,JF,JG,JH,JI,JJ,JK,JL,JM,JN,JO,JP,stillI,IOp.kind,JQ,JR,JS,JT,JU,JV,JW,JX,JY,JZ,Y0,Y1,Y2,Y3,Y4,Y5,Y6,Y7,Y8,Y9,Ya,Yb,Yc,Yd,Ye,Yf,Yg,Yh,Yi,Yj,Yk,Yl,Ym,Yn,ial,Yo,Yp,Yq,Yr,Ys,Yt,Yu,Yv,ires,iresL,ires1,Yw,Yx,Yy,Yz,YA,YB,bin2,YC,YD,YE,YF,YG,YH,YI,YJ,YK,YL,YM,YN,YO,YP,YQ,YR,un1,shOk,eqL,eq1,fillL,putAt,IHeap.load1,IHeap.loadL,IHeap.storeL,YS,YT,YU,YV,YW,YX,YY,YZ,B0,B1,B2,B3,B4,B5,B6,B7,B8,B9,Ba,Bb,Bc,Bd,Be,Bf,Bg,Bh,Bi,Bj,Bk,Bl,Bm, stillI, x3, g3]
    have rq : q2 < H3.next := by have := u3.next; omega
    have uu : ∀ x, IHeap.upd [H.next + 1 + 1] H3 (H3.set (H.next + 1 + 1) x) := fun x => (IHeap.upd_refl _ _).set (.inr (by simp)) _
    exact hK q2 _ _ ((k2.updTrans u3).set (.inl (by omega)) _) (.inl rfl) (by simp only [YV]; omega) (hM3.upd (uu _) (by simp; omega) (by simp; omega) (by simp; omega) (by omega)) (((r3.more (S' := [H.next + 1 + 1]) fun b hb => by simp at hb; simp [hb]).upd (uu _)).with (r3.more (S' := p :: q1 :: q2 :: S) fun b hb => .inl (List.mem_cons_of_mem _ hb)) (by simp only [YV]; exact Nat.le_refl _))
  · have hd : m.deed ⟨2, a, b, true⟩ = (m.done m.e).1 := by simp [Mem.deed, DM.A, DM.B]
    rw [hd] at hK
    have hpe : (m.done m.e).1.e ≤ m.e + 1 := done_e _ _
    have hpk : (m.done m.e).1.ok := hok.done hb _
    simp -implicitDefEqProofs [J0,J1,J2,J3,J4,J5,J6,J7,J8,J9,Ja,Jb,Jc,Jd,Je,Jf,Jg,Jh,Ji,Jj,Jk,Jl,Jm,Jn,Jo,Jp,Jq,Jr,Js,Jt,Ju,Jv,Jw,Jx,Jy,Jz,JA,JB,JC,JD,JE,JF,JG,JH,JI,JJ,JK,JL,JM,JN,JO,JP,stillI,IOp.kind,JQ,JR,JS,JT,JU,JV,JW,JX,JY,JZ,Y0,Y1,Y2,Y3,Y4,Y5,Y6,Y7,Y8,Y9,Ya,Yb,Yc,Yd,Ye,Yf,Yg,Yh,Yi,Yj,Yk,Yl,Ym,Yn,ial,Yo,Yp,Yq,Yr,Ys,Yt,Yu,Yv,ires,iresL,ires1,Yw,Yx,Yy,Yz,YA,YB,bin2,YC,YD,YE,YF,YG,YH,YI,YJ,YK,YL,YM,YN,YO,YP,YQ,YR,un1,shOk,eqL,eq1,fillL,putAt,IHeap.load1,IHeap.loadL,IHeap.storeL,YS,YT,YU,YV,YW,YX,YY,YZ,B0,B1,B2,B3,B4,B5,B6,B7,B8,B9,Ba,Bb,Bc,Bd,Be,Bf,Bg,Bh,Bi,Bj,Bk,Bl,Bm, c_hurdlelaw23_do, dmV, ← hHA, gA, gB, gC]
    refine call_of (RDone_ok23 c hR hvA hok hb fun v' H1 k1 r1 => ?_)
    obtain ⟨w1', w2', rfl, ww1, ww2, _, _⟩ := id r1
    have hr0 := r1
    obtain ⟨b1, d1, rfl⟩ := ww1.len
    obtain ⟨b2, d2, rfl⟩ := ww2.len
    simp only [List.length_map] at r1 hr0
    have n1 := k1.next
    have g1 := (k1.get (H.next + 1 + 1) (by omega)).trans gA
    simp -implicitDefEqProofs [J0,J1,J2,J3,J4,J5,J6,J7,J8,J9,Ja,Jb,Jc,Jd,Je,Jf,Jg,Jh,Ji,Jj,Jk,Jl,Jm,Jn,Jo,Jp,Jq,Jr,Js,Jt,Ju,Jv,Jw,Jx,Jy,Jz,JA,JB,JC,JD,JE,JF,JG,JH,JI,JJ,JK,JL,JM,JN,JO,JP,stillI,IOp.kind,JQ,JR,JS,JT,JU,JV,JW,JX,JY,JZ,Y0,Y1,Y2,Y3,Y4,Y5,Y6,Y7,Y8,Y9,Ya,Yb,Yc,Yd,Ye,Yf,Yg,Yh,Yi,Yj,Yk,Yl,Ym,Yn,ial,Yo,Yp,Yq,Yr,Ys,Yt,Yu,Yv,ires,iresL,ires1,Yw,Yx,Yy,Yz,YA,YB,bin2,YC,YD,YE,YF,YG,YH,YI,YJ,YK,YL,YM,YN,YO,YP,YQ,YR,un1,shOk,eqL,eq1,fillL,putAt,IHeap.load1,IHeap.loadL,IHeap.storeL,YS,YT,YU,YV,YW,YX,YY,YZ,B0,B1,B2,B3,B4,B5,B6,B7,B8,B9,Ba,Bb,Bc,Bd,Be,Bf,Bg,Bh,Bi,Bj,Bk,Bl,Bm, List.length_map]
    obtain ⟨H2, hH2⟩ : ∃ X : IHeap, X = (H1.alloc (.cells [.slice none 0 0, .slice none 0 0, .int .i64 0, .int .i64 0, .bool false, .int .i64 0] false)).set H1.next (.cells [.slice b1 (m.done m.e).1.L.length d1, .slice b2 (m.done m.e).1.S.length d2, .int .i64 (m.done m.e).1.e, .int .i64 (m.done m.e).1.h, .bool (m.done m.e).1.f, .int .i64 (m.done m.e).1.g] false) := ⟨_, rfl⟩
    rw [← hH2]
    have l2 : H1.le H2 := by rw [hH2]; exact (H1.le_alloc _).set (Nat.le_refl _) _
    have k2 : H.le H2 := (kA.trans k1).trans l2
    have m2 : H2.next = H1.next + 1 := by rw [hH2]; rfl
    have x2 : H2.get H1.next = some (.cells [.slice b1 (m.done m.e).1.L.length d1, .slice b2 (m.done m.e).1.S.length d2, .int .i64 (m.done m.e).1.e, .int .i64 (m.done m.e).1.h, .bool (m.done m.e).1.f, .int .i64 (m.done m.e).1.g] false) := by rw [hH2, YT, if_pos rfl]
    have g2 := (l2.get (H.next + 1 + 1) (by omega)).trans g1
    have nin : ∀ i, H.next ≤ i → i ∉ [p, q1, q2] := fun i hi hm => by simp only [List.mem_cons, List.not_mem_nil, or_false] at hm; omega
    refine dcall_of c.mono (MDone_ok c hc (hM.le k2) hb fun H3 u3 hn3 hM3 => ?_)
    have u3' : IHeap.upd ((H.next + 1 + 1) :: p :: q1 :: q2 :: S) H2 H3 := ⟨u3.next, fun b hb hs => u3.get b hb fun hm => hs (by simp only [List.mem_cons, List.not_mem_nil, or_false] at hm ⊢; rcases hm with h | h | h <;> simp [h])⟩
    have r3 := (r1.le l2).upd u3'
    have x3 := (u3.get H1.next (by omega) (nin _ (by omega))).trans x2
    have g3 := (u3.get (H.next + 1 + 1) (by omega) (nin _ (by omega))).trans g2
    simp -implicitDefEqProofs [J0,J1,J2,J3,J4,J5,J6,J7,J8,J9,Ja,Jb,Jc,Jd,Je,Jf,Jg,Jh,Ji,Jj,Jk,Jl,Jm,Jn,Jo,Jp,Jq,Jr,Js,Jt,Ju,Jv,Jw,Jx,Jy,Jz,JA,JB,JC,JD,JE,JF,JG,JH,JI,JJ,JK,JL,JM,JN,JO,JP,stillI,IOp.kind,JQ,JR,JS,JT,JU,JV,JW,JX,JY,JZ,Y0,Y1,Y2,Y3,Y4,Y5,Y6,Y7,Y8,Y9,Ya,Yb,Yc,Yd,Ye,Yf,Yg,Yh,Yi,Yj,Yk,Yl,Ym,Yn,ial,Yo,Yp,Yq,Yr,Ys,Yt,Yu,Yv,ires,iresL,ires1,Yw,Yx,Yy,Yz,YA,YB,bin2,YC,YD,YE,YF,YG,YH,YI,YJ,YK,YL,YM,YN,YO,YP,YQ,YR,un1,shOk,eqL,eq1,fillL,putAt,IHeap.load1,IHeap.loadL,IHeap.storeL,YS,YT,YU,YV,YW,YX,YY,YZ,B0,B1,B2,B3,B4,B5,B6,B7,B8,B9,Ba,Bb,Bc,Bd,Be,Bf,Bg,Bh,Bi,Bj,Bk,Bl,Bm, stillI, x3, g3]
    have rq : q2 < H3.next := by have := u3.next; omega
    have uu : ∀ x, IHeap.upd [H.next + 1 + 1] H3 (H3.set (H.next + 1 + 1) x) := fun x => (IHeap.upd_refl _ _).set (.inr (by simp)) _
    exact hK q2 _ _ ((k2.updTrans u3).set (.inl (by omega)) _) (.inl rfl) (by simp only [YV]; omega) (hM3.upd (uu _) (by simp; omega) (by simp; omega) (by simp; omega) (by omega)) (((r3.more (S' := [H.next + 1 + 1]) fun b hb => by simp at hb; simp [hb]).upd (uu _)).with (r3.more (S' := p :: q1 :: q2 :: S) fun b hb => .inl (List.mem_cons_of_mem _ hb)) (by simp only [YV]; exact Nat.le_refl _))

include hc hR hT in
theorem do3_ok23 {S : List Nat} {p q1 q2 : Nat} {v : Value} {m : Mem} {a b : Int} {now : Bool} (hM : IsM H p q1 q2 m) (hq2 : q2 < H.next) (hSl : ∀ b ∈ S, b < H.next) (hv : RM H (p :: q1 :: q2 :: S) v m) (hb : m.e < 4611686018427387904)
    (hK : ∀ q2' v' H', IHeap.upd [p, q1, q2] H H' → (q2' = q2 ∨ H.next ≤ q2') → q2' < H'.next → IsM H' p q1 q2' (m.deed ⟨3, a, b, now⟩) → RM H' (p :: q1 :: q2' :: S) v' (m.deed ⟨3, a, b, now⟩) → K (.tuple #[v', .bool true]) H') :
    c.C (c.F n_hurdlelaw23_do) [.pointer (some ⟨p, 0, none⟩), v, dmV ⟨3, a, b, now⟩] H K := by
  refine c.enter hT.hurdlelaw23_do rfl ?_
  have hv0 := hv
  have hpl := hM.lt
  have hql := hM.lt1
  have hok := hM.ok
  have hin : ∀ b ∈ p :: q1 :: q2 :: S, b < H.next := fun b hb => by
    simp only [List.mem_cons] at hb
    rcases hb with h | h | h | h
    · omega
    · omega
    · omega
    · exact hSl b h
  obtain ⟨v1, v2, rfl, w1, w2, o1, o2⟩ := hv
  obtain ⟨a1, c1, rfl⟩ := w1.len
  obtain ⟨a2, c2, rfl⟩ := w2.len
  simp only [List.length_map] at hv0 w1 w2 o1 o2
  obtain ⟨HA, hHA⟩ : ∃ HA : IHeap, HA = ((H.alloc (.cells [.slice a1 m.L.length c1, .slice a2 m.S.length c2, .int .i64 m.e, .int .i64 m.h, .bool m.f, .int .i64 m.g] false)).alloc (.cells [.int .i64 3, .int .i64 a, .int .i64 b, .bool now] false)).alloc (.cells [.slice none 0 0, .slice none 0 0, .int .i64 0, .int .i64 0, .bool false, .int .i64 0] false) := ⟨_, rfl⟩
  have kA : H.le HA := by rw [hHA]; exact ((H.le_alloc _).alloc _).alloc _
  have nA : HA.next = H.next + 1 + 1 + 1 := by rw [hHA]; rfl
  have gA : HA.get (H.next + 1 + 1) = some (.cells [.slice none 0 0, .slice none 0 0, .int .i64 0, .int .i64 0, .bool false, .int .i64 0] false) := by rw [hHA, YS, if_pos (by simp only [YU])]
  have gC : HA.get (H.next + 1) = some (.cells [.int .i64 3, .int .i64 a, .int .i64 b, .bool now] false) := by rw [hHA, YS, if_neg (by simp only [YU]; omega), YS, if_pos (by simp only [YU])]
  have gB : HA.get H.next = some (.cells [.slice a1 m.L.length c1, .slice a2 m.S.length c2, .int .i64 m.e, .int .i64 m.h, .bool m.f, .int .i64 m.g] false) := by rw [hHA, YS, if_neg (by simp only [YU]; omega), YS, if_neg (by simp only [YU]; omega), YS, if_pos rfl]
  have hMA := hM.le kA
  have hvA := (hv0.more (S' := (H.next + 1 + 1) :: p :: q1 :: q2 :: S) fun b hb => (List.mem_cons.1 hb).elim (fun h => .inr (by omega)) .inl).le kA
  have hin' : ∀ b ∈ (H.next + 1 + 1) :: p :: q1 :: q2 :: S, b < HA.next := fun b hb => (List.mem_cons.1 hb).elim (fun h => by omega) fun h => by have := hin b h; omega
  cases now
  · have hd : m.deed ⟨3, a, b, false⟩ = (m.add a).1 := by simp [Mem.deed, DM.A, DM.B]
    rw [hd] at hK
    have hpe : (m.add a).1.e ≤ m.e + 1 := add_e _ _
    have hpk : (m.add a).1.ok := hok.add  _
    simp -implicitDefEqProofs [J0,J1,J2,J3,J4,J5,J6,J7,J8,J9,Ja,Jb,Jc,Jd,Je,Jf,Jg,Jh,Ji,Jj,Jk,Jl,Jm,Jn,Jo,Jp,Jq,Jr,Js,Jt,Ju,Jv,Jw,Jx,Jy,Jz,JA,JB,JC,JD,JE,JF,JG,JH,JI,JJ,JK,JL,JM,JN,JO,JP,stillI,IOp.kind,JQ,JR,JS,JT,JU,JV,JW,JX,JY,JZ,Y0,Y1,Y2,Y3,Y4,Y5,Y6,Y7,Y8,Y9,Ya,Yb,Yc,Yd,Ye,Yf,Yg,Yh,Yi,Yj,Yk,Yl,Ym,Yn,ial,Yo,Yp,Yq,Yr,Ys,Yt,Yu,Yv,ires,iresL,ires1,Yw,Yx,Yy,Yz,YA,YB,bin2,YC,YD,YE,YF,YG,YH,YI,YJ,YK,YL,YM,YN,YO,YP,YQ,YR,un1,shOk,eqL,eq1,fillL,putAt,IHeap.load1,IHeap.loadL,IHeap.storeL,YS,YT,YU,YV,YW,YX,YY,YZ,B0,B1,B2,B3,B4,B5,B6,B7,B8,B9,Ba,Bb,Bc,Bd,Be,Bf,Bg,Bh,Bi,Bj,Bk,Bl,Bm, c_hurdlelaw23_do, dmV, ← hHA, gA, gB, gC]
    refine call_of (RAdd_ok23 c hR hvA hok hin' fun v' H1 k1 r1 => ?_)
    obtain ⟨w1', w2', rfl, ww1, ww2, _, _⟩ := id r1
    have hr0 := r1
    obtain ⟨b1, d1, rfl⟩ := ww1.len
    obtain ⟨b2, d2, rfl⟩ := ww2.len
    simp only [List.length_map] at r1 hr0
    have n1 := k1.next
    have g1 := (k1.get (H.next + 1 + 1) (by omega)).trans gA
    simp -implicitDefEqProofs [J0,J1,J2,J3,J4,J5,J6,J7,J8,J9,Ja,Jb,Jc,Jd,Je,Jf,Jg,Jh,Ji,Jj,Jk,Jl,Jm,Jn,Jo,Jp,Jq,Jr,Js,Jt,Ju,Jv,Jw,Jx,Jy,Jz,JA,JB,JC,JD,JE,JF,JG,JH,JI,JJ,JK,JL,JM,JN,JO,JP,stillI,IOp.kind,JQ,JR,JS,JT,JU,JV,JW,JX,JY,JZ,Y0,Y1,Y2,Y3,Y4,Y5,Y6,Y7,Y8,Y9,Ya,Yb,Yc,Yd,Ye,Yf,Yg,Yh,Yi,Yj,Yk,Yl,Ym,Yn,ial,Yo,Yp,Yq,Yr,Ys,Yt,Yu,Yv,ires,iresL,ires1,Yw,Yx,Yy,Yz,YA,YB,bin2,YC,YD,YE,YF,YG,YH,YI,YJ,YK,YL,YM,YN,YO,YP,YQ,YR,un1,shOk,eqL,eq1,fillL,putAt,IHeap.load1,IHeap.loadL,IHeap.storeL,YS,YT,YU,YV,YW,YX,YY,YZ,B0,B1,B2,B3,B4,B5,B6,B7,B8,B9,Ba,Bb,Bc,Bd,Be,Bf,Bg,Bh,Bi,Bj,Bk,Bl,Bm, List.length_map]
    obtain ⟨H2, hH2⟩ : ∃ X : IHeap, X = (H1.alloc (.cells [.slice none 0 0, .slice none 0 0, .int .i64 0, .int .i64 0, .bool false, .int .i64 0] false)).set H1.next (.cells [.slice b1 (m.add a).1.L.length d1, .slice b2 (m.add a).1.S.length d2, .int .i64 (m.add a).1.e, .int .i64 (m.add a).1.h, .bool (m.add a).1.f, .int .i64 (m.add a).1.g] false) := ⟨_, rfl⟩
    rw [← hH2]
    have l2 : H1.le H2 := by rw [hH2]; exact (H1.le_alloc _).set (Nat.le_refl _) _
    have k2 : H.le H2 := (kA.trans k1).trans l2
    have m2 : H2.next = H1.next + 1 := by rw [hH2]; rfl
    have x2 : H2.get H1.next = some (.cells [.slice b1 (m.add a).1.L.length d1, .slice b2 (m.add a).1.S.length d2, .int .i64 (m.add a).1.e, .int .i64 (m.add a).1.h, .bool (m.add a).1.f, .int .i64 (m.add a).1.g] false) := by rw [hH2, YT, if_pos rfl]
    have g2 := (l2.get (H.next + 1 + 1) (by omega)).trans g1
    have nin : ∀ i, H.next ≤ i → i ∉ [p, q1, q2] := fun i hi hm => by simp only [List.mem_cons, List.not_mem_nil, or_false] at hm; omega
    refine dcall_of c.mono (MAdd_ok c hc (hM.le k2) fun q2' H3 u3 hq hM3 => ?_)
    have hn3 := u3.next
    have hq3 : q2' < H3.next := by rcases hq with rfl | hq <;> omega
    have hq4 : q2' = q2 ∨ H.next ≤ q2' := by rcases hq with hq | hq <;> omega
    have hmore : ∀ b ∈ (H.next + 1 + 1) :: p :: q1 :: q2' :: S, b ∈ (H.next + 1 + 1) :: p :: q1 :: q2 :: S ∨ H2.next ≤ b := fun b hb => by
      simp only [List.mem_cons] at hb ⊢
      rcases hb with h | h | h | h | h
      · exact .inl (.inl h)
      · exact .inl (.inr (.inl h))
      · exact .inl (.inr (.inr (.inl h)))
      · rcases hq with hq | hq
        · exact .inl (.inr (.inr (.inr (.inl (h.trans hq)))))
        · exact .inr (by omega)
      · exact .inl (.inr (.inr (.inr (.inr h))))
    have u3' : IHeap.upd ((H.next + 1 + 1) :: p :: q1 :: q2 :: S) H2 H3 := ⟨u3.next, fun b hb hs => u3.get b hb fun hm => hs (by simp only [List.mem_cons, List.not_mem_nil, or_false] at hm ⊢; rcases hm with h | h | h <;> simp [h])⟩
    have r3 := ((r1.le l2).upd u3').with ((r1.le l2).more hmore) hn3
    have x3 := (u3.get H1.next (by omega) (nin _ (by omega))).trans x2
    have g3 := (u3.get (H.next + 1 + 1) (by omega) (nin _ (by omega))).trans g2
    simp -implicitDefEqProofs [J0,J1,J2,J3,J4,J5,J6,J7,J8,J9,Ja,Jb,Jc,Jd,Je,Jf,Jg,Jh,Ji,Jj,Jk,Jl,Jm,Jn,Jo,Jp,Jq,Jr,Js,Jt,Ju,Jv,Jw,Jx,Jy,Jz,JA,JB,JC,JD,JE,JF,JG,JH,JI,JJ,JK,JL,JM,JN,JO,JP,stillI,IOp.kind,JQ,JR,JS,JT,JU,JV,JW,JX,JY,JZ,Y0,Y1,Y2,Y3,Y4,Y5,Y6,Y7,Y8,Y9,Ya,Yb,Yc,Yd,Ye,Yf,Yg,Yh,Yi,Yj,Yk,Yl,Ym,Yn,ial,Yo,Yp,Yq,Yr,Ys,Yt,Yu,Yv,ires,iresL,ires1,Yw,Yx,Yy,Yz,YA,YB,bin2,YC,YD,YE,YF,YG,YH,YI,YJ,YK,YL,YM,YN,YO,YP,YQ,YR,un1,shOk,eqL,eq1,fillL,putAt,IHeap.load1,IHeap.loadL,IHeap.storeL,YS,YT,YU,YV,YW,YX,YY,YZ,B0,B1,B2,B3,B4,B5,B6,B7,B8,B9,Ba,Bb,Bc,Bd,Be,Bf,Bg,Bh,Bi,Bj,Bk,Bl,Bm, stillI, x3, g3]
    have rq : q2 < H3.next := by have := u3.next; omega
    have uu : ∀ x, IHeap.upd [H.next + 1 + 1] H3 (H3.set (H.next + 1 + 1) x) := fun x => (IHeap.upd_refl _ _).set (.inr (by simp)) _
    exact hK q2' _ _ ((k2.updTrans u3).set (.inl (by omega)) _) hq4 (by simp only [YV]; omega) (hM3.upd (uu _) (by simp; omega) (by simp; omega) (by simp; omega) (by omega)) (((r3.more (S' := [H.next + 1 + 1]) fun b hb => by simp at hb; simp [hb]).upd (uu _)).with (r3.more (S' := p :: q1 :: q2' :: S) fun b hb => .inl (List.mem_cons_of_mem _ hb)) (by simp only [YV]; exact Nat.le_refl _))
  · have hd : m.deed ⟨3, a, b, true⟩ = (m.add a).1 := by simp [Mem.deed, DM.A, DM.B]
    rw [hd] at hK
    have hpe : (m.add a).1.e ≤ m.e + 1 := add_e _ _
    have hpk : (m.add a).1.ok := hok.add  _
    simp -implicitDefEqProofs [J0,J1,J2,J3,J4,J5,J6,J7,J8,J9,Ja,Jb,Jc,Jd,Je,Jf,Jg,Jh,Ji,Jj,Jk,Jl,Jm,Jn,Jo,Jp,Jq,Jr,Js,Jt,Ju,Jv,Jw,Jx,Jy,Jz,JA,JB,JC,JD,JE,JF,JG,JH,JI,JJ,JK,JL,JM,JN,JO,JP,stillI,IOp.kind,JQ,JR,JS,JT,JU,JV,JW,JX,JY,JZ,Y0,Y1,Y2,Y3,Y4,Y5,Y6,Y7,Y8,Y9,Ya,Yb,Yc,Yd,Ye,Yf,Yg,Yh,Yi,Yj,Yk,Yl,Ym,Yn,ial,Yo,Yp,Yq,Yr,Ys,Yt,Yu,Yv,ires,iresL,ires1,Yw,Yx,Yy,Yz,YA,YB,bin2,YC,YD,YE,YF,YG,YH,YI,YJ,YK,YL,YM,YN,YO,YP,YQ,YR,un1,shOk,eqL,eq1,fillL,putAt,IHeap.load1,IHeap.loadL,IHeap.storeL,YS,YT,YU,YV,YW,YX,YY,YZ,B0,B1,B2,B3,B4,B5,B6,B7,B8,B9,Ba,Bb,Bc,Bd,Be,Bf,Bg,Bh,Bi,Bj,Bk,Bl,Bm, c_hurdlelaw23_do, dmV, ← hHA, gA, gB, gC]
    refine call_of (RAdd_ok23 c hR hvA hok hin' fun v' H1 k1 r1 => ?_)
    obtain ⟨w1', w2', rfl, ww1, ww2, _, _⟩ := id r1
    have hr0 := r1
    obtain ⟨b1, d1, rfl⟩ := ww1.len
    obtain ⟨b2, d2, rfl⟩ := ww2.len
    simp only [List.length_map] at r1 hr0
    have n1 := k1.next
    have g1 := (k1.get (H.next + 1 + 1) (by omega)).trans gA
    simp -implicitDefEqProofs [J0,J1,J2,J3,J4,J5,J6,J7,J8,J9,Ja,Jb,Jc,Jd,Je,Jf,Jg,Jh,Ji,Jj,Jk,Jl,Jm,Jn,Jo,Jp,Jq,Jr,Js,Jt,Ju,Jv,Jw,Jx,Jy,Jz,JA,JB,JC,JD,JE,JF,JG,JH,JI,JJ,JK,JL,JM,JN,JO,JP,stillI,IOp.kind,JQ,JR,JS,JT,JU,JV,JW,JX,JY,JZ,Y0,Y1,Y2,Y3,Y4,Y5,Y6,Y7,Y8,Y9,Ya,Yb,Yc,Yd,Ye,Yf,Yg,Yh,Yi,Yj,Yk,Yl,Ym,Yn,ial,Yo,Yp,Yq,Yr,Ys,Yt,Yu,Yv,ires,iresL,ires1,Yw,Yx,Yy,Yz,YA,YB,bin2,YC,YD,YE,YF,YG,YH,YI,YJ,YK,YL,YM,YN,YO,YP,YQ,YR,un1,shOk,eqL,eq1,fillL,putAt,IHeap.load1,IHeap.loadL,IHeap.storeL,YS,YT,YU,YV,YW,YX,YY,YZ,B0,B1,B2,B3,B4,B5,B6,B7,B8,B9,Ba,Bb,Bc,Bd,Be,Bf,Bg,Bh,Bi,Bj,Bk,Bl,Bm, List.length_map]
    obtain ⟨H2, hH2⟩ : ∃ X : IHeap, X = (H1.alloc (.cells [.slice none 0 0, .slice none 0 0, .int .i64 0, .int .i64 0, .bool false, .int .i64 0] false)).set H1.next (.cells [.slice b1 (m.add a).1.L.length d1, .slice b2 (m.add a).1.S.length d2, .int .i64 (m.add a).1.e, .int .i64 (m.add a).1.h, .bool (m.add a).1.f, .int .i64 (m.add a).1.g] false) := ⟨_, rfl⟩
    rw [← hH2]
    have l2 : H1.le H2 := by rw [hH2]; exact (H1.le_alloc _).set (Nat.le_refl _) _
    have k2 : H.le H2 := (kA.trans k1).trans l2
    have m2 : H2.next = H1.next + 1 := by rw [hH2]; rfl
    have x2 : H2.get H1.next = some (.cells [.slice b1 (m.add a).1.L.length d1, .slice b2 (m.add a).1.S.length d2, .int .i64 (m.add a).1.e, .int .i64 (m.add a).1.h, .bool (m.add a).1.f, .int .i64 (m.add a).1.g] false) := by rw [hH2, YT, if_pos rfl]
    have g2 := (l2.get (H.next + 1 + 1) (by omega)).trans g1
    have nin : ∀ i, H.next ≤ i → i ∉ [p, q1, q2] := fun i hi hm => by simp only [List.mem_cons, List.not_mem_nil, or_false] at hm; omega
    refine dcall_of c.mono (MAdd_ok c hc (hM.le k2) fun q2' H3 u3 hq hM3 => ?_)
    have hn3 := u3.next
    have hq3 : q2' < H3.next := by rcases hq with rfl | hq <;> omega
    have hq4 : q2' = q2 ∨ H.next ≤ q2' := by rcases hq with hq | hq <;> omega
    have hmore : ∀ b ∈ (H.next + 1 + 1) :: p :: q1 :: q2' :: S, b ∈ (H.next + 1 + 1) :: p :: q1 :: q2 :: S ∨ H2.next ≤ b := fun b hb => by
      simp only [List.mem_cons] at hb ⊢
      rcases hb with h | h | h | h | h
      · exact .inl (.inl h)
      · exact .inl (.inr (.inl h))
      · exact .inl (.inr (.inr (.inl h)))
      · rcases hq with hq | hq
        · exact .inl (.inr (.inr (.inr (.inl (h.trans hq)))))
        · exact .inr (by omega)
      · exact .inl (.inr (.inr (.inr (.inr h))))
    have u3' : IHeap.upd ((H.next + 1 + 1) :: p :: q1 :: q2 :: S) H2 H3 := ⟨u3.next, fun b hb hs => u3.get b hb fun hm => hs (by simp only [List.mem_cons, List.not_mem_nil, or_false] at hm ⊢; rcases hm with h | h | h <;> simp [h])⟩
    have r3 := ((r1.le l2).upd u3').with ((r1.le l2).more hmore) hn3
    have x3 := (u3.get H1.next (by omega) (nin _ (by omega))).trans x2
    have g3 := (u3.get (H.next + 1 + 1) (by omega) (nin _ (by omega))).trans g2
    simp -implicitDefEqProofs [J0,J1,J2,J3,J4,J5,J6,J7,J8,J9,Ja,Jb,Jc,Jd,Je,Jf,Jg,Jh,Ji,Jj,Jk,Jl,Jm,Jn,Jo,Jp,Jq,Jr,Js,Jt,Ju,Jv,Jw,Jx,Jy,Jz,JA,JB,JC,JD,JE,JF,JG,JH,JI,JJ,JK,JL,JM,JN,JO,JP,stillI,IOp.kind,JQ,JR,JS,JT,JU,JV,JW,JX,JY,JZ,Y0,Y1,Y2,Y3,Y4,Y5,Y6,Y7,Y8,Y9,Ya,Yb,Yc,Yd,Ye,Yf,Yg,Yh,Yi,Yj,Yk,Yl,Ym,Yn,ial,Yo,Yp,Yq,Yr,Ys,Yt,Yu,Yv,ires,iresL,ires1,Yw,Yx,Yy,Yz,YA,YB,bin2,YC,YD,YE,YF,YG,YH,YI,YJ,YK,YL,YM,YN,YO,YP,YQ,YR,un1,shOk,eqL,eq1,fillL,putAt,IHeap.load1,IHeap.loadL,IHeap.storeL,YS,YT,YU,YV,YW,YX,YY,YZ,B0,B1,B2,B3,B4,B5,B6,B7,B8,B9,Ba,Bb,Bc,Bd,Be,Bf,Bg,Bh,Bi,Bj,Bk,Bl,Bm, stillI, x3, g3]
    have rq : q2 < H3.next := by have := u3.next; omega
    have uu : ∀ x, IHeap.upd [H.next + 1 + 1] H3 (H3.set (H.next + 1 + 1) x) := fun x => (IHeap.upd_refl _ _).set (.inr (by simp)) _
    exact hK q2' _ _ ((k2.updTrans u3).set (.inl (by omega)) _) hq4 (by simp only [YV]; omega) (hM3.upd (uu _) (by simp; omega) (by simp; omega) (by simp; omega) (by omega)) (((r3.more (S' := [H.next + 1 + 1]) fun b hb => by simp at hb; simp [hb]).upd (uu _)).with (r3.more (S' := p :: q1 :: q2' :: S) fun b hb => .inl (List.mem_cons_of_mem _ hb)) (by simp only [YV]; exact Nat.le_refl _))

end
end Go.Proofs.YtkphglpmhebglaaI
