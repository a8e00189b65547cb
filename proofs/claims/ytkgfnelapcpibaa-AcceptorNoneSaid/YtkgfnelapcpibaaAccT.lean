/- Who accepts: what was accepted is told. -/
import Derived.Test.YtkgfnelapcpibaaAccR
namespace Go.Proofs.YtkgfnelapcpibaaI
set_option linter.unusedSimpArgs false
set_option linter.unusedVariables false
open Go

def vD (d : DeedA) : VoteD := d.v
/-- A vote, and whether it is gone. -/
def TellI (A : Acc) (w : VoteD) (gone : Bool) : Prop := GoodA A ∧ w.slot < 1024 ∧ (gone = true → w.slot < A.base) ∧ (gone = false → w ∈ A.L)
theorem TellI.promise {A : Acc} {w : VoteD} {g : Bool} (h : TellI A w g) (d : DeedA) (h0 : d.k = 0) : TellI (deedA A d) w g := by
  have hg := deedA_good h.1 d
  rw [deedA, if_pos h0] at hg ⊢
  obtain ⟨e1, e2⟩ := promise_L A d.v.a d.v.n d.v.slot
  exact ⟨hg, h.2.1, by rw [e2]; exact h.2.2.1, by rw [e1]; exact h.2.2.2⟩
theorem TellI.refused {A : Acc} {w : VoteD} {g : Bool} (h : TellI A w g) (d : DeedA) (h0 : ¬ d.k = 0) (h1 : d.k = 1) (hb : (A.accept d.v).2 = false) : TellI (deedA A d) w g := by
  rw [deedA, if_neg h0, if_pos h1, accept_false hb]; exact h
theorem TellI.other {A : Acc} {w : VoteD} {g : Bool} (h : TellI A w g) (d : DeedA) (h0 : ¬ d.k = 0) (h1 : d.k = 1) (hb : (A.accept d.v).2 = true) (hs : ¬ d.v.slot = w.slot) : TellI (deedA A d) w g := by
  have hg := deedA_good h.1 d
  rw [deedA, if_neg h0, if_pos h1] at hg ⊢
  obtain ⟨a1, a2, a3, a4⟩ := accept_true hb
  rw [a4] at hg ⊢
  exact ⟨hg, h.2.1, h.2.2.1, fun e => putV_mem.2 (.inr ⟨h.2.2.2 e, fun e => hs e.symm⟩)⟩
theorem TellI.same {A : Acc} {w : VoteD} {g : Bool} (h : TellI A w g) (d : DeedA) (h0 : ¬ d.k = 0) (h1 : d.k = 1) (hb : (A.accept d.v).2 = true) (hs : d.v.slot = w.slot) : TellI (deedA A d) d.v g := by
  have hg := deedA_good h.1 d
  rw [deedA, if_neg h0, if_pos h1] at hg ⊢
  obtain ⟨a1, a2, a3, a4⟩ := accept_true hb
  rw [a4] at hg ⊢
  exact ⟨hg, a3, fun e => by have := h.2.2.1 e; omega, fun e => putV_mem.2 (.inl rfl)⟩
theorem TellI.trim {A : Acc} {w : VoteD} {g : Bool} (h : TellI A w g) (d : DeedA) (h0 : ¬ d.k = 0) (h1 : ¬ d.k = 1) (h2 : d.k = 2) : TellI (deedA A d) w (g || decide (w.slot < d.v.slot)) := by
  have hg := deedA_good h.1 d
  rw [deedA, if_neg h0, if_neg h1, if_pos h2] at hg ⊢
  obtain ⟨_, q1, q2, q3⟩ := h
  refine ⟨hg, q1, fun e => ?_, fun e => ?_⟩
  · simp only [Bool.or_eq_true, decide_eq_true_eq] at e
    unfold Acc.trim
    simp only [maxI, minI]
    rcases e with e | e
    · have := q2 e
      split <;> omega
    · repeat' split
      all_goals omega
  · simp only [Bool.or_eq_false_iff, decide_eq_false_iff_not] at e
    unfold Acc.trim
    simp only [minI]
    refine fromV_mem.2 ⟨q3 e.1, ?_⟩
    split <;> omega
theorem TellI.told {A : Acc} {w : VoteD} {g : Bool} (h : TellI A w g) : decide (w ∈ A.L) = !g := by
  obtain ⟨q0, q1, q2, q3⟩ := h
  cases g with
  | true =>
    have hn : ¬ w ∈ A.L := fun hm => by have := q0.2 w hm; have := q2 rfl; omega
    simp [hn]
  | false => simp [q3 rfl]

/-- It, and the vote, where they stand. -/
def PlT (N p i : Nat) (g : Bool) (H : IHeap) : Prop := ∃ A w, A.L.length ≤ i + 1 ∧ TellI A w g ∧ StA (fun b => b < N + 2) H p A ∧ H.get N = some (.cells [.int .i64 w.slot, .int .i64 w.a, .int .i64 w.n, .string w.val] false)

def TellAt (u : Value) (N p i : Nat) (H : IHeap) : Prop := ∃ g, u = .bool g ∧ PlT N p i g H

def ToldV (u : Value) (w : VoteD) (L : List VoteD) : Prop := u = .bool (decide (w ∈ L))
theorem vote_eq {v w : VoteD} : v = w ↔ v.slot = w.slot ∧ v.a = w.a ∧ v.n = w.n ∧ v.val = w.val := by cases v; cases w; simp

section
variable (c : Ctx) (hc : HasAcc c) (hB : HasBalA c) (hI : InsOk c) (hT : HasLaw17 c) (hA : ∀ H K, (∀ H', K (.bool true) H') → c.C (c.F n_hurdlelaw17_awake) [] H K) {H : IHeap} {K : Value → IHeap → Prop}

include hc hB hI hT hA in
theorem tells_ok17 {v : VoteD} {l : List DeedA} {u : Value} {ba bn : Int} (hu : SlR H 5 u (l.map rowD)) (hK : ∀ H', K (.bool true) H') :
    c.C (c.F n_hurdlelaw17_AcceptorTells) [vV v, u, vB ba bn] H K := by
  refine c.enter hT.hurdlelaw17_AcceptorTells rfl ?_
  have hu' := hu
  obtain ⟨a, cap, rfl, _⟩ := hu'
  simp only [List.length_map] at hu ⊢
  obtain ⟨HA, hHA⟩ : ∃ X : IHeap, X = (H.alloc (.cells [.int .i64 v.slot, .int .i64 v.a, .int .i64 v.n, .string v.val] false)).alloc (.cells [.int .i64 ba, .int .i64 bn] false) := ⟨_, rfl⟩
  have kA : H.le HA := by rw [hHA]; exact (H.le_alloc _).alloc _
  have nA : HA.next = H.next + 1 + 1 := by rw [hHA]; rfl
  have gx : HA.get H.next = some (.cells [.int .i64 v.slot, .int .i64 v.a, .int .i64 v.n, .string v.val] false) := by rw [hHA, YS, if_neg (by simp only [YU]; omega), YS, if_pos rfl]
  have gb : HA.get (H.next + 1) = some (.cells [.int .i64 ba, .int .i64 bn] false) := by rw [hHA, YS, if_pos (by simp only [YU])]
  simp -implicitDefEqProofs [J0,J1,J2,J3,J4,J5,J6,J7,J8,J9,Ja,Jb,Jc,Jd,Je,Jf,Jg,Jh,Ji,Jj,Jk,Jl,Jm,Jn,Jo,Jp,Jq,Jr,Js,Jt,Ju,Jv,Jw,Jx,Jy,Jz,JA,JB,JC,JD,JE,JF,JG,JH,JI,JJ,JK,JL,JM,JN,JO,JP,stillI,IOp.kind,JQ,JR,JS,JT,JU,JV,JW,JX,JY,JZ,Y0,Y1,Y2,Y3,Y4,Y5,Y6,Y7,Y8,Y9,Ya,Yb,Yc,Yd,Ye,Yf,Yg,Yh,Yi,Yj,Yk,Yl,Ym,Yn,ial,Yo,Yp,Yq,Yr,Ys,Yt,Yu,Yv,ires,iresL,ires1,Yw,Yx,Yy,Yz,YA,YB,bin2,YC,YD,YE,YF,YG,YH,YI,YJ,YK,YL,YM,YN,YO,YP,YQ,YR,un1,shOk,eqL,eq1,fillL,putAt,IHeap.load1,IHeap.loadL,IHeap.storeL,YS,YT,YU,YV,YW,YX,YY,YZ,B0,B1,B2,B3,B4,B5,B6,B7,B8,B9,Ba,Bb,Bc,Bd,Be,Bf,Bg,Bh,Bi,Bj,Bk,Bl,Bm, c_hurdlelaw17_AcceptorTells, vV, vB, ← hHA]
  refine call_of (Few_ok17 c hT (hu.le kA) ?_ fun hl60 => ?_)
  · simp -implicitDefEqProofs [J0,J1,J2,J3,J4,J5,J6,J7,J8,J9,Ja,Jb,Jc,Jd,Je,Jf,Jg,Jh,Ji,Jj,Jk,Jl,Jm,Jn,Jo,Jp,Jq,Jr,Js,Jt,Ju,Jv,Jw,Jx,Jy,Jz,JA,JB,JC,JD,JE,JF,JG,JH,JI,JJ,JK,JL,JM,JN,JO,JP,stillI,IOp.kind,JQ,JR,JS,JT,JU,JV,JW,JX,JY,JZ,Y0,Y1,Y2,Y3,Y4,Y5,Y6,Y7,Y8,Y9,Ya,Yb,Yc,Yd,Ye,Yf,Yg,Yh,Yi,Yj,Yk,Yl,Ym,Yn,ial,Yo,Yp,Yq,Yr,Ys,Yt,Yu,Yv,ires,iresL,ires1,Yw,Yx,Yy,Yz,YA,YB,bin2,YC,YD,YE,YF,YG,YH,YI,YJ,YK,YL,YM,YN,YO,YP,YQ,YR,un1,shOk,eqL,eq1,fillL,putAt,IHeap.load1,IHeap.loadL,IHeap.storeL,YS,YT,YU,YV,YW,YX,YY,YZ,B0,B1,B2,B3,B4,B5,B6,B7,B8,B9,Ba,Bb,Bc,Bd,Be,Bf,Bg,Bh,Bi,Bj,Bk,Bl,Bm]
    refine call_of (hA _ _ fun H' => ?_)
    simp -implicitDefEqProofs [J0,J1,J2,J3,J4,J5,J6,J7,J8,J9,Ja,Jb,Jc,Jd,Je,Jf,Jg,Jh,Ji,Jj,Jk,Jl,Jm,Jn,Jo,Jp,Jq,Jr,Js,Jt,Ju,Jv,Jw,Jx,Jy,Jz,JA,JB,JC,JD,JE,JF,JG,JH,JI,JJ,JK,JL,JM,JN,JO,JP,stillI,IOp.kind,JQ,JR,JS,JT,JU,JV,JW,JX,JY,JZ,Y0,Y1,Y2,Y3,Y4,Y5,Y6,Y7,Y8,Y9,Ya,Yb,Yc,Yd,Ye,Yf,Yg,Yh,Yi,Yj,Yk,Yl,Ym,Yn,ial,Yo,Yp,Yq,Yr,Ys,Yt,Yu,Yv,ires,iresL,ires1,Yw,Yx,Yy,Yz,YA,YB,bin2,YC,YD,YE,YF,YG,YH,YI,YJ,YK,YL,YM,YN,YO,YP,YQ,YR,un1,shOk,eqL,eq1,fillL,putAt,IHeap.load1,IHeap.loadL,IHeap.storeL,YS,YT,YU,YV,YW,YX,YY,YZ,B0,B1,B2,B3,B4,B5,B6,B7,B8,B9,Ba,Bb,Bc,Bd,Be,Bf,Bg,Bh,Bi,Bj,Bk,Bl,Bm]
    exact hK _
  · by_cases h5 : (5000 : Int) < (v.val.size : Int)
    · simp -implicitDefEqProofs [J0,J1,J2,J3,J4,J5,J6,J7,J8,J9,Ja,Jb,Jc,Jd,Je,Jf,Jg,Jh,Ji,Jj,Jk,Jl,Jm,Jn,Jo,Jp,Jq,Jr,Js,Jt,Ju,Jv,Jw,Jx,Jy,Jz,JA,JB,JC,JD,JE,JF,JG,JH,JI,JJ,JK,JL,JM,JN,JO,JP,stillI,IOp.kind,JQ,JR,JS,JT,JU,JV,JW,JX,JY,JZ,Y0,Y1,Y2,Y3,Y4,Y5,Y6,Y7,Y8,Y9,Ya,Yb,Yc,Yd,Ye,Yf,Yg,Yh,Yi,Yj,Yk,Yl,Ym,Yn,ial,Yo,Yp,Yq,Yr,Ys,Yt,Yu,Yv,ires,iresL,ires1,Yw,Yx,Yy,Yz,YA,YB,bin2,YC,YD,YE,YF,YG,YH,YI,YJ,YK,YL,YM,YN,YO,YP,YQ,YR,un1,shOk,eqL,eq1,fillL,putAt,IHeap.load1,IHeap.loadL,IHeap.storeL,YS,YT,YU,YV,YW,YX,YY,YZ,B0,B1,B2,B3,B4,B5,B6,B7,B8,B9,Ba,Bb,Bc,Bd,Be,Bf,Bg,Bh,Bi,Bj,Bk,Bl,Bm, gx, h5]
      refine call_of (hA _ _ fun H' => ?_)
      simp -implicitDefEqProofs [J0,J1,J2,J3,J4,J5,J6,J7,J8,J9,Ja,Jb,Jc,Jd,Je,Jf,Jg,Jh,Ji,Jj,Jk,Jl,Jm,Jn,Jo,Jp,Jq,Jr,Js,Jt,Ju,Jv,Jw,Jx,Jy,Jz,JA,JB,JC,JD,JE,JF,JG,JH,JI,JJ,JK,JL,JM,JN,JO,JP,stillI,IOp.kind,JQ,JR,JS,JT,JU,JV,JW,JX,JY,JZ,Y0,Y1,Y2,Y3,Y4,Y5,Y6,Y7,Y8,Y9,Ya,Yb,Yc,Yd,Ye,Yf,Yg,Yh,Yi,Yj,Yk,Yl,Ym,Yn,ial,Yo,Yp,Yq,Yr,Ys,Yt,Yu,Yv,ires,iresL,ires1,Yw,Yx,Yy,Yz,YA,YB,bin2,YC,YD,YE,YF,YG,YH,YI,YJ,YK,YL,YM,YN,YO,YP,YQ,YR,un1,shOk,eqL,eq1,fillL,putAt,IHeap.load1,IHeap.loadL,IHeap.storeL,YS,YT,YU,YV,YW,YX,YY,YZ,B0,B1,B2,B3,B4,B5,B6,B7,B8,B9,Ba,Bb,Bc,Bd,Be,Bf,Bg,Bh,Bi,Bj,Bk,Bl,Bm]
      exact hK _
    · simp -implicitDefEqProofs [J0,J1,J2,J3,J4,J5,J6,J7,J8,J9,Ja,Jb,Jc,Jd,Je,Jf,Jg,Jh,Ji,Jj,Jk,Jl,Jm,Jn,Jo,Jp,Jq,Jr,Js,Jt,Ju,Jv,Jw,Jx,Jy,Jz,JA,JB,JC,JD,JE,JF,JG,JH,JI,JJ,JK,JL,JM,JN,JO,JP,stillI,IOp.kind,JQ,JR,JS,JT,JU,JV,JW,JX,JY,JZ,Y0,Y1,Y2,Y3,Y4,Y5,Y6,Y7,Y8,Y9,Ya,Yb,Yc,Yd,Ye,Yf,Yg,Yh,Yi,Yj,Yk,Yl,Ym,Yn,ial,Yo,Yp,Yq,Yr,Ys,Yt,Yu,Yv,ires,iresL,ires1,Yw,Yx,Yy,Yz,YA,YB,bin2,YC,YD,YE,YF,YG,YH,YI,YJ,YK,YL,YM,YN,YO,YP,YQ,YR,un1,shOk,eqL,eq1,fillL,putAt,IHeap.load1,IHeap.loadL,IHeap.storeL,YS,YT,YU,YV,YW,YX,YY,YZ,B0,B1,B2,B3,B4,B5,B6,B7,B8,B9,Ba,Bb,Bc,Bd,Be,Bf,Bg,Bh,Bi,Bj,Bk,Bl,Bm, gx, h5]
      refine call_of (New_st c hc (S := fun b => b < HA.next) (fun _ h => h) fun H1 k1 n1 s1 => ?_)
      have gx1 := (k1.get H.next (by omega)).trans gx
      simp -implicitDefEqProofs [J0,J1,J2,J3,J4,J5,J6,J7,J8,J9,Ja,Jb,Jc,Jd,Je,Jf,Jg,Jh,Ji,Jj,Jk,Jl,Jm,Jn,Jo,Jp,Jq,Jr,Js,Jt,Ju,Jv,Jw,Jx,Jy,Jz,JA,JB,JC,JD,JE,JF,JG,JH,JI,JJ,JK,JL,JM,JN,JO,JP,stillI,IOp.kind,JQ,JR,JS,JT,JU,JV,JW,JX,JY,JZ,Y0,Y1,Y2,Y3,Y4,Y5,Y6,Y7,Y8,Y9,Ya,Yb,Yc,Yd,Ye,Yf,Yg,Yh,Yi,Yj,Yk,Yl,Ym,Yn,ial,Yo,Yp,Yq,Yr,Ys,Yt,Yu,Yv,ires,iresL,ires1,Yw,Yx,Yy,Yz,YA,YB,bin2,YC,YD,YE,YF,YG,YH,YI,YJ,YK,YL,YM,YN,YO,YP,YQ,YR,un1,shOk,eqL,eq1,fillL,putAt,IHeap.load1,IHeap.loadL,IHeap.storeL,YS,YT,YU,YV,YW,YX,YY,YZ,B0,B1,B2,B3,B4,B5,B6,B7,B8,B9,Ba,Bb,Bc,Bd,Be,Bf,Bg,Bh,Bi,Bj,Bk,Bl,Bm, gx1]
      refine call_of (Accept_st c hc hB hI (v := v) s1 (by simp) fun H2 k2 s2 => ?_)
      have gx2 := (k2.2 H.next (by omega)).trans gx1
      have gb2 := ((k2.2 (H.next + 1) (by omega)).trans (k1.get (H.next + 1) (by omega))).trans gb
      obtain ⟨p, hp⟩ : ∃ p, p = HA.next := ⟨_, rfl⟩
      rw [← hp]
      have s2' : StA (fun b => b < HA.next) H2 p ((Acc.mk 0 0 0 []).accept v).1 := by rw [hp]; exact s2
      cases hok : ((Acc.mk 0 0 0 []).accept v).2 with
      | false =>
        rw [accept_false hok] at s2'
        simp -implicitDefEqProofs [J0,J1,J2,J3,J4,J5,J6,J7,J8,J9,Ja,Jb,Jc,Jd,Je,Jf,Jg,Jh,Ji,Jj,Jk,Jl,Jm,Jn,Jo,Jp,Jq,Jr,Js,Jt,Ju,Jv,Jw,Jx,Jy,Jz,JA,JB,JC,JD,JE,JF,JG,JH,JI,JJ,JK,JL,JM,JN,JO,JP,stillI,IOp.kind,JQ,JR,JS,JT,JU,JV,JW,JX,JY,JZ,Y0,Y1,Y2,Y3,Y4,Y5,Y6,Y7,Y8,Y9,Ya,Yb,Yc,Yd,Ye,Yf,Yg,Yh,Yi,Yj,Yk,Yl,Ym,Yn,ial,Yo,Yp,Yq,Yr,Ys,Yt,Yu,Yv,ires,iresL,ires1,Yw,Yx,Yy,Yz,YA,YB,bin2,YC,YD,YE,YF,YG,YH,YI,YJ,YK,YL,YM,YN,YO,YP,YQ,YR,un1,shOk,eqL,eq1,fillL,putAt,IHeap.load1,IHeap.loadL,IHeap.storeL,YS,YT,YU,YV,YW,YX,YY,YZ,B0,B1,B2,B3,B4,B5,B6,B7,B8,B9,Ba,Bb,Bc,Bd,Be,Bf,Bg,Bh,Bi,Bj,Bk,Bl,Bm]
        refine call_of (Votes_st c hc (s := 0) s2' (by simp) fun v3 H3 k3 s3 _ => ?_)
        obtain ⟨a3, c3, rfl⟩ := s3.len
        simp -implicitDefEqProofs [J0,J1,J2,J3,J4,J5,J6,J7,J8,J9,Ja,Jb,Jc,Jd,Je,Jf,Jg,Jh,Ji,Jj,Jk,Jl,Jm,Jn,Jo,Jp,Jq,Jr,Js,Jt,Ju,Jv,Jw,Jx,Jy,Jz,JA,JB,JC,JD,JE,JF,JG,JH,JI,JJ,JK,JL,JM,JN,JO,JP,stillI,IOp.kind,JQ,JR,JS,JT,JU,JV,JW,JX,JY,JZ,Y0,Y1,Y2,Y3,Y4,Y5,Y6,Y7,Y8,Y9,Ya,Yb,Yc,Yd,Ye,Yf,Yg,Yh,Yi,Yj,Yk,Yl,Ym,Yn,ial,Yo,Yp,Yq,Yr,Ys,Yt,Yu,Yv,ires,iresL,ires1,Yw,Yx,Yy,Yz,YA,YB,bin2,YC,YD,YE,YF,YG,YH,YI,YJ,YK,YL,YM,YN,YO,YP,YQ,YR,un1,shOk,eqL,eq1,fillL,putAt,IHeap.load1,IHeap.loadL,IHeap.storeL,YS,YT,YU,YV,YW,YX,YY,YZ,B0,B1,B2,B3,B4,B5,B6,B7,B8,B9,Ba,Bb,Bc,Bd,Be,Bf,Bg,Bh,Bi,Bj,Bk,Bl,Bm, fromV]
        refine call_of (hA _ _ fun H' => ?_)
        simp -implicitDefEqProofs [J0,J1,J2,J3,J4,J5,J6,J7,J8,J9,Ja,Jb,Jc,Jd,Je,Jf,Jg,Jh,Ji,Jj,Jk,Jl,Jm,Jn,Jo,Jp,Jq,Jr,Js,Jt,Ju,Jv,Jw,Jx,Jy,Jz,JA,JB,JC,JD,JE,JF,JG,JH,JI,JJ,JK,JL,JM,JN,JO,JP,stillI,IOp.kind,JQ,JR,JS,JT,JU,JV,JW,JX,JY,JZ,Y0,Y1,Y2,Y3,Y4,Y5,Y6,Y7,Y8,Y9,Ya,Yb,Yc,Yd,Ye,Yf,Yg,Yh,Yi,Yj,Yk,Yl,Ym,Yn,ial,Yo,Yp,Yq,Yr,Ys,Yt,Yu,Yv,ires,iresL,ires1,Yw,Yx,Yy,Yz,YA,YB,bin2,YC,YD,YE,YF,YG,YH,YI,YJ,YK,YL,YM,YN,YO,YP,YQ,YR,un1,shOk,eqL,eq1,fillL,putAt,IHeap.load1,IHeap.loadL,IHeap.storeL,YS,YT,YU,YV,YW,YX,YY,YZ,B0,B1,B2,B3,B4,B5,B6,B7,B8,B9,Ba,Bb,Bc,Bd,Be,Bf,Bg,Bh,Bi,Bj,Bk,Bl,Bm]
        exact hK _
      | true =>
        obtain ⟨z1, z2, z3, z4⟩ := accept_true hok
        have z5 : putV [] v = [v] := rfl
        rw [z4] at s2'
        simp only [z5] at s2' z2
        have k02 : H.le H2 := ((kA.trans k1).keep (Nat.le_refl _) |>.trans ⟨k2.1, fun y hy => k2.2 y (by omega)⟩).le (Nat.le_refl _)
        have kb2 : ∀ y, y < HA.next → H2.get y = HA.get y := fun y hy => (k2.2 y hy).trans (k1.get y hy)
        simp -implicitDefEqProofs [J0,J1,J2,J3,J4,J5,J6,J7,J8,J9,Ja,Jb,Jc,Jd,Je,Jf,Jg,Jh,Ji,Jj,Jk,Jl,Jm,Jn,Jo,Jp,Jq,Jr,Js,Jt,Ju,Jv,Jw,Jx,Jy,Jz,JA,JB,JC,JD,JE,JF,JG,JH,JI,JJ,JK,JL,JM,JN,JO,JP,stillI,IOp.kind,JQ,JR,JS,JT,JU,JV,JW,JX,JY,JZ,Y0,Y1,Y2,Y3,Y4,Y5,Y6,Y7,Y8,Y9,Ya,Yb,Yc,Yd,Ye,Yf,Yg,Yh,Yi,Yj,Yk,Yl,Ym,Yn,ial,Yo,Yp,Yq,Yr,Ys,Yt,Yu,Yv,ires,iresL,ires1,Yw,Yx,Yy,Yz,YA,YB,bin2,YC,YD,YE,YF,YG,YH,YI,YJ,YK,YL,YM,YN,YO,YP,YQ,YR,un1,shOk,eqL,eq1,fillL,putAt,IHeap.load1,IHeap.loadL,IHeap.storeL,YS,YT,YU,YV,YW,YX,YY,YZ,B0,B1,B2,B3,B4,B5,B6,B7,B8,B9,Ba,Bb,Bc,Bd,Be,Bf,Bg,Bh,Bi,Bj,Bk,Bl,Bm]
        refine loop_nat c.mono (fun k T H' => ∃ i : Nat, i ≤ l.length ∧ k = l.length - i ∧ T 1 = .slice a l.length cap ∧ T 3 = .pointer (some ⟨H.next, 0, none⟩) ∧ T 5 = .pointer (some ⟨H.next + 1, 0, none⟩) ∧ T 7 = .pointer (some ⟨p, 0, none⟩) ∧ T 9 = .int .i64 i ∧ H.le H' ∧ H'.get (H.next + 1) = some (.cells [.int .i64 ba, .int .i64 bn] false) ∧ TellAt (T 8) H.next p i H') l.length ?_ ?_
        · refine ⟨0, by omega, rfl, ?_⟩
          simp -implicitDefEqProofs [J0,J1,J2,J3,J4,J5,J6,J7,J8,J9,Ja,Jb,Jc,Jd,Je,Jf,Jg,Jh,Ji,Jj,Jk,Jl,Jm,Jn,Jo,Jp,Jq,Jr,Js,Jt,Ju,Jv,Jw,Jx,Jy,Jz,JA,JB,JC,JD,JE,JF,JG,JH,JI,JJ,JK,JL,JM,JN,JO,JP,stillI,IOp.kind,JQ,JR,JS,JT,JU,JV,JW,JX,JY,JZ,Y0,Y1,Y2,Y3,Y4,Y5,Y6,Y7,Y8,Y9,Ya,Yb,Yc,Yd,Ye,Yf,Yg,Yh,Yi,Yj,Yk,Yl,Ym,Yn,ial,Yo,Yp,Yq,Yr,Ys,Yt,Yu,Yv,ires,iresL,ires1,Yw,Yx,Yy,Yz,YA,YB,bin2,YC,YD,YE,YF,YG,YH,YI,YJ,YK,YL,YM,YN,YO,YP,YQ,YR,un1,shOk,eqL,eq1,fillL,putAt,IHeap.load1,IHeap.loadL,IHeap.storeL,YS,YT,YU,YV,YW,YX,YY,YZ,B0,B1,B2,B3,B4,B5,B6,B7,B8,B9,Ba,Bb,Bc,Bd,Be,Bf,Bg,Bh,Bi,Bj,Bk,Bl,Bm]
          exact ⟨k02, gb2, _, rfl, _, v, Nat.le_refl _, ⟨⟨Int.le_refl _, by simpa using z2⟩, z3, by simp, by simp⟩, s2'.sub fun b hb => by omega, gx2⟩
        · rintro k T H' ⟨i, hi, rfl, t1, t3, t5, t7, t9, hle, gb', g, t8, A, w, hAl, hTI, hst, gx'⟩
          by_cases hil : i < l.length
          · have hil' : (i : Int) < (l.length : Int) := by omega
            have hd : l[i]? = some l[i] := List.getElem?_eq_getElem hil
            obtain ⟨d, hde⟩ : ∃ d, d = l[i] := ⟨_, rfl⟩
            rw [← hde] at hd
            obtain ⟨b, o, cp, cs, ro, ea, hb, hget, hrl, hrow, hbd⟩ := hu.at (i := i) (r := rowD d) (by simp [hd])
            rw [List.length_map] at ea
            simp only [Value.slice.injEq] at ea
            obtain ⟨rfl, -, rfl⟩ := ea
            have hw : IntKind.i64.wrap ((i : Int) + 1) = (i : Int) + 1 := wrap64 (by omega) (by omega)
            have nH := hle.next
            have hget' := (hle.get b hb).trans hget
            have r0 := row_get hrow 0 (by omega)
            have r4 : (cs.drop (o + i * 5 + 1)).take 4 = rowV d.v := by
              have := congrArg (fun z => z.drop 1) hrow
              simp only [List.drop_take, List.drop_drop] at this
              exact this
            simp only [rowD, List.getElem?_cons_zero, Nat.add_zero] at r0
            simp only [rowV] at r4
            have hxl := hst.1 (H.next + 1) (by omega)
            obtain ⟨HV, hHV⟩ : ∃ X : IHeap, X = (H'.alloc (.cells [.int .i64 0, .int .i64 0, .int .i64 0, .string ⟨#[]⟩] false)).set H'.next (.cells [.int .i64 d.v.slot, .int .i64 d.v.a, .int .i64 d.v.n, .string d.v.val] false) := ⟨_, rfl⟩
            have kV : H'.le HV := by rw [hHV]; exact (H'.le_alloc _).set (Nat.le_refl _) _
            have nV : HV.next = H'.next + 1 := by rw [hHV]; rfl
            have gV : HV.get H'.next = some (.cells [.int .i64 d.v.slot, .int .i64 d.v.a, .int .i64 d.v.n, .string d.v.val] false) := by rw [hHV, YT, if_pos rfl]
            have hbd4 : o + i * 5 + 1 + 4 ≤ cs.length := by omega
            have hgetV := (kV.get b (by omega)).trans hget'
            have st2 := hst.grow kV
            have hA'l : (deedA A d).L.length ≤ i + 1 + 1 := Nat.le_trans (deedA_len A d) (by omega)
            have fin : ∀ {H3 : IHeap}, keptS (fun b => b < H.next + 2 ∨ (H'.next ≤ b ∧ b < HV.next)) HV H3 → (∀ b, b < H.next + 2 → H3.get b = H'.get b) ∧ H3.get H'.next = some (.cells [.int .i64 d.v.slot, .int .i64 d.v.a, .int .i64 d.v.n, .string d.v.val] false) := fun k => ⟨fun b hb => (k.2 b (.inl hb)).trans (kV.get b (by omega)), (k.2 _ (.inr ⟨Nat.le_refl _, by omega⟩)).trans gV⟩
            have le3 : ∀ {H3 : IHeap}, keptS (fun b => b < H.next + 2 ∨ (H'.next ≤ b ∧ b < HV.next)) HV H3 → H.le H3 := fun k => ⟨by have := k.1; omega, fun b hb => ((fin k).1 b (by omega)).trans (hle.get b hb)⟩
            simp -implicitDefEqProofs [J0,J1,J2,J3,J4,J5,J6,J7,J8,J9,Ja,Jb,Jc,Jd,Je,Jf,Jg,Jh,Ji,Jj,Jk,Jl,Jm,Jn,Jo,Jp,Jq,Jr,Js,Jt,Ju,Jv,Jw,Jx,Jy,Jz,JA,JB,JC,JD,JE,JF,JG,JH,JI,JJ,JK,JL,JM,JN,JO,JP,stillI,IOp.kind,JQ,JR,JS,JT,JU,JV,JW,JX,JY,JZ,Y0,Y1,Y2,Y3,Y4,Y5,Y6,Y7,Y8,Y9,Ya,Yb,Yc,Yd,Ye,Yf,Yg,Yh,Yi,Yj,Yk,Yl,Ym,Yn,ial,Yo,Yp,Yq,Yr,Ys,Yt,Yu,Yv,ires,iresL,ires1,Yw,Yx,Yy,Yz,YA,YB,bin2,YC,YD,YE,YF,YG,YH,YI,YJ,YK,YL,YM,YN,YO,YP,YQ,YR,un1,shOk,eqL,eq1,fillL,putAt,IHeap.load1,IHeap.loadL,IHeap.storeL,YS,YT,YU,YV,YW,YX,YY,YZ,B0,B1,B2,B3,B4,B5,B6,B7,B8,B9,Ba,Bb,Bc,Bd,Be,Bf,Bg,Bh,Bi,Bj,Bk,Bl,Bm, t1, t3, t5, t7, t8, t9, hil, hil', hget', r4, hbd4, ← hHV, hgetV, r0]
            by_cases h0 : d.k = 0
            · have hdA : deedA A d = (A.promise d.v.a d.v.n d.v.slot).1 := by rw [deedA, if_pos h0]
              simp -implicitDefEqProofs [J0,J1,J2,J3,J4,J5,J6,J7,J8,J9,Ja,Jb,Jc,Jd,Je,Jf,Jg,Jh,Ji,Jj,Jk,Jl,Jm,Jn,Jo,Jp,Jq,Jr,Js,Jt,Ju,Jv,Jw,Jx,Jy,Jz,JA,JB,JC,JD,JE,JF,JG,JH,JI,JJ,JK,JL,JM,JN,JO,JP,stillI,IOp.kind,JQ,JR,JS,JT,JU,JV,JW,JX,JY,JZ,Y0,Y1,Y2,Y3,Y4,Y5,Y6,Y7,Y8,Y9,Ya,Yb,Yc,Yd,Ye,Yf,Yg,Yh,Yi,Yj,Yk,Yl,Ym,Yn,ial,Yo,Yp,Yq,Yr,Ys,Yt,Yu,Yv,ires,iresL,ires1,Yw,Yx,Yy,Yz,YA,YB,bin2,YC,YD,YE,YF,YG,YH,YI,YJ,YK,YL,YM,YN,YO,YP,YQ,YR,un1,shOk,eqL,eq1,fillL,putAt,IHeap.load1,IHeap.loadL,IHeap.storeL,YS,YT,YU,YV,YW,YX,YY,YZ,B0,B1,B2,B3,B4,B5,B6,B7,B8,B9,Ba,Bb,Bc,Bd,Be,Bf,Bg,Bh,Bi,Bj,Bk,Bl,Bm, t1, t3, t5, t7, t8, t9, h0, gV]
              refine call_of (Promise_st c hc hB (a := d.v.a) (n := d.v.n) (s := d.v.slot) st2 (by omega) fun w3 H3 k3 st3 sw3 fw3 => ?_)
              rw [← hdA] at st3
              simp -implicitDefEqProofs [J0,J1,J2,J3,J4,J5,J6,J7,J8,J9,Ja,Jb,Jc,Jd,Je,Jf,Jg,Jh,Ji,Jj,Jk,Jl,Jm,Jn,Jo,Jp,Jq,Jr,Js,Jt,Ju,Jv,Jw,Jx,Jy,Jz,JA,JB,JC,JD,JE,JF,JG,JH,JI,JJ,JK,JL,JM,JN,JO,JP,stillI,IOp.kind,JQ,JR,JS,JT,JU,JV,JW,JX,JY,JZ,Y0,Y1,Y2,Y3,Y4,Y5,Y6,Y7,Y8,Y9,Ya,Yb,Yc,Yd,Ye,Yf,Yg,Yh,Yi,Yj,Yk,Yl,Ym,Yn,ial,Yo,Yp,Yq,Yr,Ys,Yt,Yu,Yv,ires,iresL,ires1,Yw,Yx,Yy,Yz,YA,YB,bin2,YC,YD,YE,YF,YG,YH,YI,YJ,YK,YL,YM,YN,YO,YP,YQ,YR,un1,shOk,eqL,eq1,fillL,putAt,IHeap.load1,IHeap.loadL,IHeap.storeL,YS,YT,YU,YV,YW,YX,YY,YZ,B0,B1,B2,B3,B4,B5,B6,B7,B8,B9,Ba,Bb,Bc,Bd,Be,Bf,Bg,Bh,Bi,Bj,Bk,Bl,Bm, t1, t3, t5, t7, t8, t9, hw]
              exact ⟨l.length - (i + 1), by omega, i + 1, by omega, rfl, by simp, le3 k3, ((fin k3).1 _ (by omega)).trans gb', g, rfl, _, w, hA'l, hTI.promise d h0, st3.sub fun b hb => .inl (.inl hb), ((fin k3).1 _ (by omega)).trans gx'⟩
            · by_cases h1 : d.k = 1
              · have hdA : deedA A d = (A.accept d.v).1 := by rw [deedA, if_neg h0, if_pos h1]
                simp -implicitDefEqProofs [J0,J1,J2,J3,J4,J5,J6,J7,J8,J9,Ja,Jb,Jc,Jd,Je,Jf,Jg,Jh,Ji,Jj,Jk,Jl,Jm,Jn,Jo,Jp,Jq,Jr,Js,Jt,Ju,Jv,Jw,Jx,Jy,Jz,JA,JB,JC,JD,JE,JF,JG,JH,JI,JJ,JK,JL,JM,JN,JO,JP,stillI,IOp.kind,JQ,JR,JS,JT,JU,JV,JW,JX,JY,JZ,Y0,Y1,Y2,Y3,Y4,Y5,Y6,Y7,Y8,Y9,Ya,Yb,Yc,Yd,Ye,Yf,Yg,Yh,Yi,Yj,Yk,Yl,Ym,Yn,ial,Yo,Yp,Yq,Yr,Ys,Yt,Yu,Yv,ires,iresL,ires1,Yw,Yx,Yy,Yz,YA,YB,bin2,YC,YD,YE,YF,YG,YH,YI,YJ,YK,YL,YM,YN,YO,YP,YQ,YR,un1,shOk,eqL,eq1,fillL,putAt,IHeap.load1,IHeap.loadL,IHeap.storeL,YS,YT,YU,YV,YW,YX,YY,YZ,B0,B1,B2,B3,B4,B5,B6,B7,B8,B9,Ba,Bb,Bc,Bd,Be,Bf,Bg,Bh,Bi,Bj,Bk,Bl,Bm, t1, t3, t5, t7, t8, t9, h0, h1, gV]
                refine call_of (Accept_st c hc hB hI (v := d.v) st2 (by omega) fun H3 k3 st3 => ?_)
                rw [← hdA] at st3
                have gV3 := (fin k3).2
                have gx3 := ((fin k3).1 _ (by omega)).trans gx'
                have st3' := st3.sub (S' := fun b => b < H.next + 2) fun b hb => .inl hb
                cases hok : (A.accept d.v).2 with
                | false =>
                  simp -implicitDefEqProofs [J0,J1,J2,J3,J4,J5,J6,J7,J8,J9,Ja,Jb,Jc,Jd,Je,Jf,Jg,Jh,Ji,Jj,Jk,Jl,Jm,Jn,Jo,Jp,Jq,Jr,Js,Jt,Ju,Jv,Jw,Jx,Jy,Jz,JA,JB,JC,JD,JE,JF,JG,JH,JI,JJ,JK,JL,JM,JN,JO,JP,stillI,IOp.kind,JQ,JR,JS,JT,JU,JV,JW,JX,JY,JZ,Y0,Y1,Y2,Y3,Y4,Y5,Y6,Y7,Y8,Y9,Ya,Yb,Yc,Yd,Ye,Yf,Yg,Yh,Yi,Yj,Yk,Yl,Ym,Yn,ial,Yo,Yp,Yq,Yr,Ys,Yt,Yu,Yv,ires,iresL,ires1,Yw,Yx,Yy,Yz,YA,YB,bin2,YC,YD,YE,YF,YG,YH,YI,YJ,YK,YL,YM,YN,YO,YP,YQ,YR,un1,shOk,eqL,eq1,fillL,putAt,IHeap.load1,IHeap.loadL,IHeap.storeL,YS,YT,YU,YV,YW,YX,YY,YZ,B0,B1,B2,B3,B4,B5,B6,B7,B8,B9,Ba,Bb,Bc,Bd,Be,Bf,Bg,Bh,Bi,Bj,Bk,Bl,Bm, t1, t3, t5, t7, t8, t9, hw]
                  exact ⟨l.length - (i + 1), by omega, i + 1, by omega, rfl, by simp, le3 k3, ((fin k3).1 _ (by omega)).trans gb', g, rfl, _, w, hA'l, hTI.refused d h0 h1 hok, st3', gx3⟩
                | true =>
                  by_cases hs : d.v.slot = w.slot
                  · have hne : ¬ H.next + 1 = H.next := by omega
                    obtain ⟨H4, hH4⟩ : ∃ X : IHeap, X = H3.set H.next (.cells [.int .i64 d.v.slot, .int .i64 d.v.a, .int .i64 d.v.n, .string d.v.val] false) := ⟨_, rfl⟩
                    have st4 := st3'.set (i := H.next) (by omega) (.cells [.int .i64 d.v.slot, .int .i64 d.v.a, .int .i64 d.v.n, .string d.v.val] false)
                    have gx4 : H4.get H.next = some (.cells [.int .i64 d.v.slot, .int .i64 d.v.a, .int .i64 d.v.n, .string d.v.val] false) := by rw [hH4, YT, if_pos rfl]
                    have gb4 : H4.get (H.next + 1) = some (.cells [.int .i64 ba, .int .i64 bn] false) := by rw [hH4, YT, if_neg hne]; exact ((fin k3).1 _ (by omega)).trans gb'
                    have le4 : H.le H4 := by rw [hH4]; exact (le3 k3).set (Nat.le_refl _) _
                    rw [← hs] at gx3
                    rw [← hH4] at st4
                    simp -implicitDefEqProofs [J0,J1,J2,J3,J4,J5,J6,J7,J8,J9,Ja,Jb,Jc,Jd,Je,Jf,Jg,Jh,Ji,Jj,Jk,Jl,Jm,Jn,Jo,Jp,Jq,Jr,Js,Jt,Ju,Jv,Jw,Jx,Jy,Jz,JA,JB,JC,JD,JE,JF,JG,JH,JI,JJ,JK,JL,JM,JN,JO,JP,stillI,IOp.kind,JQ,JR,JS,JT,JU,JV,JW,JX,JY,JZ,Y0,Y1,Y2,Y3,Y4,Y5,Y6,Y7,Y8,Y9,Ya,Yb,Yc,Yd,Ye,Yf,Yg,Yh,Yi,Yj,Yk,Yl,Ym,Yn,ial,Yo,Yp,Yq,Yr,Ys,Yt,Yu,Yv,ires,iresL,ires1,Yw,Yx,Yy,Yz,YA,YB,bin2,YC,YD,YE,YF,YG,YH,YI,YJ,YK,YL,YM,YN,YO,YP,YQ,YR,un1,shOk,eqL,eq1,fillL,putAt,IHeap.load1,IHeap.loadL,IHeap.storeL,YS,YT,YU,YV,YW,YX,YY,YZ,B0,B1,B2,B3,B4,B5,B6,B7,B8,B9,Ba,Bb,Bc,Bd,Be,Bf,Bg,Bh,Bi,Bj,Bk,Bl,Bm, t1, t3, t5, t7, t8, t9, hw, gV3, gx3, ← hH4]
                    exact ⟨l.length - (i + 1), by omega, i + 1, by omega, rfl, by simp, le4, gb4, g, rfl, _, d.v, hA'l, hTI.same d h0 h1 hok hs, st4, gx4⟩
                  · simp -implicitDefEqProofs [J0,J1,J2,J3,J4,J5,J6,J7,J8,J9,Ja,Jb,Jc,Jd,Je,Jf,Jg,Jh,Ji,Jj,Jk,Jl,Jm,Jn,Jo,Jp,Jq,Jr,Js,Jt,Ju,Jv,Jw,Jx,Jy,Jz,JA,JB,JC,JD,JE,JF,JG,JH,JI,JJ,JK,JL,JM,JN,JO,JP,stillI,IOp.kind,JQ,JR,JS,JT,JU,JV,JW,JX,JY,JZ,Y0,Y1,Y2,Y3,Y4,Y5,Y6,Y7,Y8,Y9,Ya,Yb,Yc,Yd,Ye,Yf,Yg,Yh,Yi,Yj,Yk,Yl,Ym,Yn,ial,Yo,Yp,Yq,Yr,Ys,Yt,Yu,Yv,ires,iresL,ires1,Yw,Yx,Yy,Yz,YA,YB,bin2,YC,YD,YE,YF,YG,YH,YI,YJ,YK,YL,YM,YN,YO,YP,YQ,YR,un1,shOk,eqL,eq1,fillL,putAt,IHeap.load1,IHeap.loadL,IHeap.storeL,YS,YT,YU,YV,YW,YX,YY,YZ,B0,B1,B2,B3,B4,B5,B6,B7,B8,B9,Ba,Bb,Bc,Bd,Be,Bf,Bg,Bh,Bi,Bj,Bk,Bl,Bm, t1, t3, t5, t7, t8, t9, hw, gV3, gx3, hs]
                    exact ⟨l.length - (i + 1), by omega, i + 1, by omega, rfl, by simp, le3 k3, ((fin k3).1 _ (by omega)).trans gb', g, rfl, _, w, hA'l, hTI.other d h0 h1 hok hs, st3', gx3⟩
              · by_cases h2 : d.k = 2
                · have hdA : deedA A d = (A.trim d.v.slot).1 := by rw [deedA, if_neg h0, if_neg h1, if_pos h2]
                  simp -implicitDefEqProofs [J0,J1,J2,J3,J4,J5,J6,J7,J8,J9,Ja,Jb,Jc,Jd,Je,Jf,Jg,Jh,Ji,Jj,Jk,Jl,Jm,Jn,Jo,Jp,Jq,Jr,Js,Jt,Ju,Jv,Jw,Jx,Jy,Jz,JA,JB,JC,JD,JE,JF,JG,JH,JI,JJ,JK,JL,JM,JN,JO,JP,stillI,IOp.kind,JQ,JR,JS,JT,JU,JV,JW,JX,JY,JZ,Y0,Y1,Y2,Y3,Y4,Y5,Y6,Y7,Y8,Y9,Ya,Yb,Yc,Yd,Ye,Yf,Yg,Yh,Yi,Yj,Yk,Yl,Ym,Yn,ial,Yo,Yp,Yq,Yr,Ys,Yt,Yu,Yv,ires,iresL,ires1,Yw,Yx,Yy,Yz,YA,YB,bin2,YC,YD,YE,YF,YG,YH,YI,YJ,YK,YL,YM,YN,YO,YP,YQ,YR,un1,shOk,eqL,eq1,fillL,putAt,IHeap.load1,IHeap.loadL,IHeap.storeL,YS,YT,YU,YV,YW,YX,YY,YZ,B0,B1,B2,B3,B4,B5,B6,B7,B8,B9,Ba,Bb,Bc,Bd,Be,Bf,Bg,Bh,Bi,Bj,Bk,Bl,Bm, t1, t3, t5, t7, t8, t9, h0, h1, h2, gV]
                  refine call_of (Trim_st c hc (s := d.v.slot) st2 (by omega) fun H3 k3 st3 => ?_)
                  rw [← hdA] at st3
                  have gV3 := (fin k3).2
                  have gx3 := ((fin k3).1 _ (by omega)).trans gx'
                  have st3' := st3.sub (S' := fun b => b < H.next + 2) fun b hb => .inl hb
                  have hT3 := hTI.trim d h0 h1 h2
                  cases g with
                  | true =>
                    simp -implicitDefEqProofs [J0,J1,J2,J3,J4,J5,J6,J7,J8,J9,Ja,Jb,Jc,Jd,Je,Jf,Jg,Jh,Ji,Jj,Jk,Jl,Jm,Jn,Jo,Jp,Jq,Jr,Js,Jt,Ju,Jv,Jw,Jx,Jy,Jz,JA,JB,JC,JD,JE,JF,JG,JH,JI,JJ,JK,JL,JM,JN,JO,JP,stillI,IOp.kind,JQ,JR,JS,JT,JU,JV,JW,JX,JY,JZ,Y0,Y1,Y2,Y3,Y4,Y5,Y6,Y7,Y8,Y9,Ya,Yb,Yc,Yd,Ye,Yf,Yg,Yh,Yi,Yj,Yk,Yl,Ym,Yn,ial,Yo,Yp,Yq,Yr,Ys,Yt,Yu,Yv,ires,iresL,ires1,Yw,Yx,Yy,Yz,YA,YB,bin2,YC,YD,YE,YF,YG,YH,YI,YJ,YK,YL,YM,YN,YO,YP,YQ,YR,un1,shOk,eqL,eq1,fillL,putAt,IHeap.load1,IHeap.loadL,IHeap.storeL,YS,YT,YU,YV,YW,YX,YY,YZ,B0,B1,B2,B3,B4,B5,B6,B7,B8,B9,Ba,Bb,Bc,Bd,Be,Bf,Bg,Bh,Bi,Bj,Bk,Bl,Bm, t1, t3, t5, t7, t8, t9, hw, gV3, gx3]
                    exact ⟨l.length - (i + 1), by omega, i + 1, by omega, rfl, by simp, le3 k3, ((fin k3).1 _ (by omega)).trans gb', _, rfl, _, w, hA'l, hT3, st3', gx3⟩
                  | false =>
                    by_cases hgt : w.slot < d.v.slot
                    · rw [decide_eq_true hgt] at hT3
                      simp -implicitDefEqProofs [J0,J1,J2,J3,J4,J5,J6,J7,J8,J9,Ja,Jb,Jc,Jd,Je,Jf,Jg,Jh,Ji,Jj,Jk,Jl,Jm,Jn,Jo,Jp,Jq,Jr,Js,Jt,Ju,Jv,Jw,Jx,Jy,Jz,JA,JB,JC,JD,JE,JF,JG,JH,JI,JJ,JK,JL,JM,JN,JO,JP,stillI,IOp.kind,JQ,JR,JS,JT,JU,JV,JW,JX,JY,JZ,Y0,Y1,Y2,Y3,Y4,Y5,Y6,Y7,Y8,Y9,Ya,Yb,Yc,Yd,Ye,Yf,Yg,Yh,Yi,Yj,Yk,Yl,Ym,Yn,ial,Yo,Yp,Yq,Yr,Ys,Yt,Yu,Yv,ires,iresL,ires1,Yw,Yx,Yy,Yz,YA,YB,bin2,YC,YD,YE,YF,YG,YH,YI,YJ,YK,YL,YM,YN,YO,YP,YQ,YR,un1,shOk,eqL,eq1,fillL,putAt,IHeap.load1,IHeap.loadL,IHeap.storeL,YS,YT,YU,YV,YW,YX,YY,YZ,B0,B1,B2,B3,B4,B5,B6,B7,B8,B9,Ba,Bb,Bc,Bd,Be,Bf,Bg,Bh,Bi,Bj,Bk,Bl,Bm, t1, t3, t5, t7, t8, t9, hw, gV3, gx3, hgt]
                      exact ⟨l.length - (i + 1), by omega, i + 1, by omega, rfl, by simp, le3 k3, ((fin k3).1 _ (by omega)).trans gb', _, rfl, _, w, hA'l, hT3, st3', gx3⟩
                    · rw [decide_eq_false hgt] at hT3
                      simp -implicitDefEqProofs [J0,J1,J2,J3,J4,J5,J6,J7,J8,J9,Ja,Jb,Jc,Jd,Je,Jf,Jg,Jh,Ji,Jj,Jk,Jl,Jm,Jn,Jo,Jp,Jq,Jr,Js,Jt,Ju,Jv,Jw,Jx,Jy,Jz,JA,JB,JC,JD,JE,JF,JG,JH,JI,JJ,JK,JL,JM,JN,JO,JP,stillI,IOp.kind,JQ,JR,JS,JT,JU,JV,JW,JX,JY,JZ,Y0,Y1,Y2,Y3,Y4,Y5,Y6,Y7,Y8,Y9,Ya,Yb,Yc,Yd,Ye,Yf,Yg,Yh,Yi,Yj,Yk,Yl,Ym,Yn,ial,Yo,Yp,Yq,Yr,Ys,Yt,Yu,Yv,ires,iresL,ires1,Yw,Yx,Yy,Yz,YA,YB,bin2,YC,YD,YE,YF,YG,YH,YI,YJ,YK,YL,YM,YN,YO,YP,YQ,YR,un1,shOk,eqL,eq1,fillL,putAt,IHeap.load1,IHeap.loadL,IHeap.storeL,YS,YT,YU,YV,YW,YX,YY,YZ,B0,B1,B2,B3,B4,B5,B6,B7,B8,B9,Ba,Bb,Bc,Bd,Be,Bf,Bg,Bh,Bi,Bj,Bk,Bl,Bm, t1, t3, t5, t7, t8, t9, hw, gV3, gx3, hgt]
                      exact ⟨l.length - (i + 1), by omega, i + 1, by omega, rfl, by simp, le3 k3, ((fin k3).1 _ (by omega)).trans gb', _, rfl, _, w, hA'l, hT3, st3', gx3⟩
                · have hdA : deedA A d = A := by rw [deedA, if_neg h0, if_neg h1, if_neg h2]
                  simp -implicitDefEqProofs [J0,J1,J2,J3,J4,J5,J6,J7,J8,J9,Ja,Jb,Jc,Jd,Je,Jf,Jg,Jh,Ji,Jj,Jk,Jl,Jm,Jn,Jo,Jp,Jq,Jr,Js,Jt,Ju,Jv,Jw,Jx,Jy,Jz,JA,JB,JC,JD,JE,JF,JG,JH,JI,JJ,JK,JL,JM,JN,JO,JP,stillI,IOp.kind,JQ,JR,JS,JT,JU,JV,JW,JX,JY,JZ,Y0,Y1,Y2,Y3,Y4,Y5,Y6,Y7,Y8,Y9,Ya,Yb,Yc,Yd,Ye,Yf,Yg,Yh,Yi,Yj,Yk,Yl,Ym,Yn,ial,Yo,Yp,Yq,Yr,Ys,Yt,Yu,Yv,ires,iresL,ires1,Yw,Yx,Yy,Yz,YA,YB,bin2,YC,YD,YE,YF,YG,YH,YI,YJ,YK,YL,YM,YN,YO,YP,YQ,YR,un1,shOk,eqL,eq1,fillL,putAt,IHeap.load1,IHeap.loadL,IHeap.storeL,YS,YT,YU,YV,YW,YX,YY,YZ,B0,B1,B2,B3,B4,B5,B6,B7,B8,B9,Ba,Bb,Bc,Bd,Be,Bf,Bg,Bh,Bi,Bj,Bk,Bl,Bm, t1, t3, t5, t7, t8, t9, h0, h1, h2, gV, hw]
                  have k3 : keptS (fun b => b < H.next + 2 ∨ (H'.next ≤ b ∧ b < HV.next)) HV HV := ⟨Nat.le_refl _, fun _ _ => rfl⟩
                  exact ⟨l.length - (i + 1), by omega, i + 1, by omega, rfl, by simp, le3 k3, ((fin k3).1 _ (by omega)).trans gb', g, rfl, A, w, by omega, hTI, hst.le kV, ((fin k3).1 _ (by omega)).trans gx'⟩
          · have hil' : ¬ (i : Int) < (l.length : Int) := by omega
            have hxl := hst.1 (H.next + 1) (by omega)
            simp -implicitDefEqProofs [J0,J1,J2,J3,J4,J5,J6,J7,J8,J9,Ja,Jb,Jc,Jd,Je,Jf,Jg,Jh,Ji,Jj,Jk,Jl,Jm,Jn,Jo,Jp,Jq,Jr,Js,Jt,Ju,Jv,Jw,Jx,Jy,Jz,JA,JB,JC,JD,JE,JF,JG,JH,JI,JJ,JK,JL,JM,JN,JO,JP,stillI,IOp.kind,JQ,JR,JS,JT,JU,JV,JW,JX,JY,JZ,Y0,Y1,Y2,Y3,Y4,Y5,Y6,Y7,Y8,Y9,Ya,Yb,Yc,Yd,Ye,Yf,Yg,Yh,Yi,Yj,Yk,Yl,Ym,Yn,ial,Yo,Yp,Yq,Yr,Ys,Yt,Yu,Yv,ires,iresL,ires1,Yw,Yx,Yy,Yz,YA,YB,bin2,YC,YD,YE,YF,YG,YH,YI,YJ,YK,YL,YM,YN,YO,YP,YQ,YR,un1,shOk,eqL,eq1,fillL,putAt,IHeap.load1,IHeap.loadL,IHeap.storeL,YS,YT,YU,YV,YW,YX,YY,YZ,B0,B1,B2,B3,B4,B5,B6,B7,B8,B9,Ba,Bb,Bc,Bd,Be,Bf,Bg,Bh,Bi,Bj,Bk,Bl,Bm, t1, t3, t5, t7, t8, t9, hil, hil', gb']
            refine dcall_of c.mono (Base_st c hc hst ?_)
            simp -implicitDefEqProofs [J0,J1,J2,J3,J4,J5,J6,J7,J8,J9,Ja,Jb,Jc,Jd,Je,Jf,Jg,Jh,Ji,Jj,Jk,Jl,Jm,Jn,Jo,Jp,Jq,Jr,Js,Jt,Ju,Jv,Jw,Jx,Jy,Jz,JA,JB,JC,JD,JE,JF,JG,JH,JI,JJ,JK,JL,JM,JN,JO,JP,stillI,IOp.kind,JQ,JR,JS,JT,JU,JV,JW,JX,JY,JZ,Y0,Y1,Y2,Y3,Y4,Y5,Y6,Y7,Y8,Y9,Ya,Yb,Yc,Yd,Ye,Yf,Yg,Yh,Yi,Yj,Yk,Yl,Ym,Yn,ial,Yo,Yp,Yq,Yr,Ys,Yt,Yu,Yv,ires,iresL,ires1,Yw,Yx,Yy,Yz,YA,YB,bin2,YC,YD,YE,YF,YG,YH,YI,YJ,YK,YL,YM,YN,YO,YP,YQ,YR,un1,shOk,eqL,eq1,fillL,putAt,IHeap.load1,IHeap.loadL,IHeap.storeL,YS,YT,YU,YV,YW,YX,YY,YZ,B0,B1,B2,B3,B4,B5,B6,B7,B8,B9,Ba,Bb,Bc,Bd,Be,Bf,Bg,Bh,Bi,Bj,Bk,Bl,Bm, t5, t7, gb', stillI]
            refine dcall_of c.mono (Promise_st c hc hB (a := ba) (n := bn) (s := A.base) hst (by omega) fun v3 H3 k3 st3 sw3 fw3 => ?_)
            have gx3 := (k3.2 _ (by omega)).trans gx'
            cases hok : (A.promise ba bn A.base).2.2 with
            | false =>
              simp -implicitDefEqProofs [J0,J1,J2,J3,J4,J5,J6,J7,J8,J9,Ja,Jb,Jc,Jd,Je,Jf,Jg,Jh,Ji,Jj,Jk,Jl,Jm,Jn,Jo,Jp,Jq,Jr,Js,Jt,Ju,Jv,Jw,Jx,Jy,Jz,JA,JB,JC,JD,JE,JF,JG,JH,JI,JJ,JK,JL,JM,JN,JO,JP,stillI,IOp.kind,JQ,JR,JS,JT,JU,JV,JW,JX,JY,JZ,Y0,Y1,Y2,Y3,Y4,Y5,Y6,Y7,Y8,Y9,Ya,Yb,Yc,Yd,Ye,Yf,Yg,Yh,Yi,Yj,Yk,Yl,Ym,Yn,ial,Yo,Yp,Yq,Yr,Ys,Yt,Yu,Yv,ires,iresL,ires1,Yw,Yx,Yy,Yz,YA,YB,bin2,YC,YD,YE,YF,YG,YH,YI,YJ,YK,YL,YM,YN,YO,YP,YQ,YR,un1,shOk,eqL,eq1,fillL,putAt,IHeap.load1,IHeap.loadL,IHeap.storeL,YS,YT,YU,YV,YW,YX,YY,YZ,B0,B1,B2,B3,B4,B5,B6,B7,B8,B9,Ba,Bb,Bc,Bd,Be,Bf,Bg,Bh,Bi,Bj,Bk,Bl,Bm]
              refine call_of (hA _ _ fun H' => ?_)
              simp -implicitDefEqProofs [J0,J1,J2,J3,J4,J5,J6,J7,J8,J9,Ja,Jb,Jc,Jd,Je,Jf,Jg,Jh,Ji,Jj,Jk,Jl,Jm,Jn,Jo,Jp,Jq,Jr,Js,Jt,Ju,Jv,Jw,Jx,Jy,Jz,JA,JB,JC,JD,JE,JF,JG,JH,JI,JJ,JK,JL,JM,JN,JO,JP,stillI,IOp.kind,JQ,JR,JS,JT,JU,JV,JW,JX,JY,JZ,Y0,Y1,Y2,Y3,Y4,Y5,Y6,Y7,Y8,Y9,Ya,Yb,Yc,Yd,Ye,Yf,Yg,Yh,Yi,Yj,Yk,Yl,Ym,Yn,ial,Yo,Yp,Yq,Yr,Ys,Yt,Yu,Yv,ires,iresL,ires1,Yw,Yx,Yy,Yz,YA,YB,bin2,YC,YD,YE,YF,YG,YH,YI,YJ,YK,YL,YM,YN,YO,YP,YQ,YR,un1,shOk,eqL,eq1,fillL,putAt,IHeap.load1,IHeap.loadL,IHeap.storeL,YS,YT,YU,YV,YW,YX,YY,YZ,B0,B1,B2,B3,B4,B5,B6,B7,B8,B9,Ba,Bb,Bc,Bd,Be,Bf,Bg,Bh,Bi,Bj,Bk,Bl,Bm]
              exact hK _
            | true =>
              have hvs : (A.promise ba bn A.base).2.1 = A.L := by
                unfold Acc.promise at hok ⊢
                by_cases hc : A.may ba bn = false ∨ A.base < A.base
                · rw [if_pos hc] at hok; cases hok
                · rw [if_neg hc]; exact fromV_all hTI.1 (Int.le_refl _)
              rw [hvs] at sw3
              have htold := hTI.told
              obtain ⟨a3, c3, rfl⟩ := sw3.len
              rw [List.length_map] at sw3 ⊢
              simp -implicitDefEqProofs [J0,J1,J2,J3,J4,J5,J6,J7,J8,J9,Ja,Jb,Jc,Jd,Je,Jf,Jg,Jh,Ji,Jj,Jk,Jl,Jm,Jn,Jo,Jp,Jq,Jr,Js,Jt,Ju,Jv,Jw,Jx,Jy,Jz,JA,JB,JC,JD,JE,JF,JG,JH,JI,JJ,JK,JL,JM,JN,JO,JP,stillI,IOp.kind,JQ,JR,JS,JT,JU,JV,JW,JX,JY,JZ,Y0,Y1,Y2,Y3,Y4,Y5,Y6,Y7,Y8,Y9,Ya,Yb,Yc,Yd,Ye,Yf,Yg,Yh,Yi,Yj,Yk,Yl,Ym,Yn,ial,Yo,Yp,Yq,Yr,Ys,Yt,Yu,Yv,ires,iresL,ires1,Yw,Yx,Yy,Yz,YA,YB,bin2,YC,YD,YE,YF,YG,YH,YI,YJ,YK,YL,YM,YN,YO,YP,YQ,YR,un1,shOk,eqL,eq1,fillL,putAt,IHeap.load1,IHeap.loadL,IHeap.storeL,YS,YT,YU,YV,YW,YX,YY,YZ,B0,B1,B2,B3,B4,B5,B6,B7,B8,B9,Ba,Bb,Bc,Bd,Be,Bf,Bg,Bh,Bi,Bj,Bk,Bl,Bm, t3, t8]
              refine loop_nat c.mono (fun k T H' => ∃ j : Nat, j ≤ A.L.length ∧ k = A.L.length - j ∧ T 3 = .pointer (some ⟨H.next, 0, none⟩) ∧ T 8 = .bool g ∧ T 11 = .slice a3 A.L.length c3 ∧ T 14 = .int .i64 j ∧ H' = H3 ∧ ToldV (T 13) w (A.L.take j)) A.L.length ?_ ?_
              · refine ⟨0, by omega, rfl, ?_⟩
                simp -implicitDefEqProofs [J0,J1,J2,J3,J4,J5,J6,J7,J8,J9,Ja,Jb,Jc,Jd,Je,Jf,Jg,Jh,Ji,Jj,Jk,Jl,Jm,Jn,Jo,Jp,Jq,Jr,Js,Jt,Ju,Jv,Jw,Jx,Jy,Jz,JA,JB,JC,JD,JE,JF,JG,JH,JI,JJ,JK,JL,JM,JN,JO,JP,stillI,IOp.kind,JQ,JR,JS,JT,JU,JV,JW,JX,JY,JZ,Y0,Y1,Y2,Y3,Y4,Y5,Y6,Y7,Y8,Y9,Ya,Yb,Yc,Yd,Ye,Yf,Yg,Yh,Yi,Yj,Yk,Yl,Ym,Yn,ial,Yo,Yp,Yq,Yr,Ys,Yt,Yu,Yv,ires,iresL,ires1,Yw,Yx,Yy,Yz,YA,YB,bin2,YC,YD,YE,YF,YG,YH,YI,YJ,YK,YL,YM,YN,YO,YP,YQ,YR,un1,shOk,eqL,eq1,fillL,putAt,IHeap.load1,IHeap.loadL,IHeap.storeL,YS,YT,YU,YV,YW,YX,YY,YZ,B0,B1,B2,B3,B4,B5,B6,B7,B8,B9,Ba,Bb,Bc,Bd,Be,Bf,Bg,Bh,Bi,Bj,Bk,Bl,Bm, t3, t8]
                simp [ToldV]
              · rintro k T2 H4 ⟨j, hj, rfl, t3, t8, t11, t14, rfl, t13⟩
                unfold ToldV at t13
                by_cases hjl : j < A.L.length
                · have hjl' : (j : Int) < (A.L.length : Int) := by omega
                  have hwj : IntKind.i64.wrap ((j : Int) + 1) = (j : Int) + 1 := wrap64 (by omega) (by omega)
                  have hy : A.L[j]? = some A.L[j] := List.getElem?_eq_getElem hjl
                  obtain ⟨y, hye⟩ : ∃ y, y = A.L[j] := ⟨_, rfl⟩
                  rw [← hye] at hy
                  obtain ⟨b2, o2, cp2, cs2, ro2, ea2, hb2, hget2, hrl2, hrow2, hbd2⟩ := sw3.1.at (i := j) (r := rowV y) (by simp [hy])
                  rw [List.length_map] at ea2
                  simp only [Value.slice.injEq] at ea2
                  obtain ⟨rfl, -, rfl⟩ := ea2
                  simp only [rowV] at hrow2
                  have htk : A.L.take (j + 1) = A.L.take j ++ [y] := by rw [List.take_add_one, hy]; rfl
                  by_cases hm : w ∈ A.L.take j
                  · rw [decide_eq_true hm] at t13
                    simp -implicitDefEqProofs [J0,J1,J2,J3,J4,J5,J6,J7,J8,J9,Ja,Jb,Jc,Jd,Je,Jf,Jg,Jh,Ji,Jj,Jk,Jl,Jm,Jn,Jo,Jp,Jq,Jr,Js,Jt,Ju,Jv,Jw,Jx,Jy,Jz,JA,JB,JC,JD,JE,JF,JG,JH,JI,JJ,JK,JL,JM,JN,JO,JP,stillI,IOp.kind,JQ,JR,JS,JT,JU,JV,JW,JX,JY,JZ,Y0,Y1,Y2,Y3,Y4,Y5,Y6,Y7,Y8,Y9,Ya,Yb,Yc,Yd,Ye,Yf,Yg,Yh,Yi,Yj,Yk,Yl,Ym,Yn,ial,Yo,Yp,Yq,Yr,Ys,Yt,Yu,Yv,ires,iresL,ires1,Yw,Yx,Yy,Yz,YA,YB,bin2,YC,YD,YE,YF,YG,YH,YI,YJ,YK,YL,YM,YN,YO,YP,YQ,YR,un1,shOk,eqL,eq1,fillL,putAt,IHeap.load1,IHeap.loadL,IHeap.storeL,YS,YT,YU,YV,YW,YX,YY,YZ,B0,B1,B2,B3,B4,B5,B6,B7,B8,B9,Ba,Bb,Bc,Bd,Be,Bf,Bg,Bh,Bi,Bj,Bk,Bl,Bm, t3, t8, t11, t13, t14, hjl, hjl', hwj]
                    exact ⟨A.L.length - (j + 1), by omega, j + 1, by omega, rfl, by simp, by simp [ToldV, htk, hm]⟩
                  · rw [decide_eq_false hm] at t13
                    have hmm : decide (w ∈ A.L.take (j + 1)) = decide (y = w) := by
                      rw [htk]
                      simp only [List.mem_append, List.mem_singleton, hm, false_or]
                      exact decide_eq_decide.2 eq_comm
                    simp -implicitDefEqProofs [J0,J1,J2,J3,J4,J5,J6,J7,J8,J9,Ja,Jb,Jc,Jd,Je,Jf,Jg,Jh,Ji,Jj,Jk,Jl,Jm,Jn,Jo,Jp,Jq,Jr,Js,Jt,Ju,Jv,Jw,Jx,Jy,Jz,JA,JB,JC,JD,JE,JF,JG,JH,JI,JJ,JK,JL,JM,JN,JO,JP,stillI,IOp.kind,JQ,JR,JS,JT,JU,JV,JW,JX,JY,JZ,Y0,Y1,Y2,Y3,Y4,Y5,Y6,Y7,Y8,Y9,Ya,Yb,Yc,Yd,Ye,Yf,Yg,Yh,Yi,Yj,Yk,Yl,Ym,Yn,ial,Yo,Yp,Yq,Yr,Ys,Yt,Yu,Yv,ires,iresL,ires1,Yw,Yx,Yy,Yz,YA,YB,bin2,YC,YD,YE,YF,YG,YH,YI,YJ,YK,YL,YM,YN,YO,YP,YQ,YR,un1,shOk,eqL,eq1,fillL,putAt,IHeap.load1,IHeap.loadL,IHeap.storeL,YS,YT,YU,YV,YW,YX,YY,YZ,B0,B1,B2,B3,B4,B5,B6,B7,B8,B9,Ba,Bb,Bc,Bd,Be,Bf,Bg,Bh,Bi,Bj,Bk,Bl,Bm, t3, t8, t11, t13, t14, hjl, hjl', hget2, hrow2, hbd2, gx3, hwj]
                    refine ⟨A.L.length - (j + 1), by omega, j + 1, by omega, rfl, by simp, ?_⟩
                    unfold ToldV
                    rw [hmm]
                    congr 1
                    rw [Bool.eq_iff_iff]
                    simp [vote_eq]
                · have hjl' : ¬ (j : Int) < (A.L.length : Int) := by omega
                  rw [List.take_of_length_le (by omega), htold] at t13
                  simp -implicitDefEqProofs [J0,J1,J2,J3,J4,J5,J6,J7,J8,J9,Ja,Jb,Jc,Jd,Je,Jf,Jg,Jh,Ji,Jj,Jk,Jl,Jm,Jn,Jo,Jp,Jq,Jr,Js,Jt,Ju,Jv,Jw,Jx,Jy,Jz,JA,JB,JC,JD,JE,JF,JG,JH,JI,JJ,JK,JL,JM,JN,JO,JP,stillI,IOp.kind,JQ,JR,JS,JT,JU,JV,JW,JX,JY,JZ,Y0,Y1,Y2,Y3,Y4,Y5,Y6,Y7,Y8,Y9,Ya,Yb,Yc,Yd,Ye,Yf,Yg,Yh,Yi,Yj,Yk,Yl,Ym,Yn,ial,Yo,Yp,Yq,Yr,Ys,Yt,Yu,Yv,ires,iresL,ires1,Yw,Yx,Yy,Yz,YA,YB,bin2,YC,YD,YE,YF,YG,YH,YI,YJ,YK,YL,YM,YN,YO,YP,YQ,YR,un1,shOk,eqL,eq1,fillL,putAt,IHeap.load1,IHeap.loadL,IHeap.storeL,YS,YT,YU,YV,YW,YX,YY,YZ,B0,B1,B2,B3,B4,B5,B6,B7,B8,B9,Ba,Bb,Bc,Bd,Be,Bf,Bg,Bh,Bi,Bj,Bk,Bl,Bm, t3, t8, t11, t13, t14, hjl, hjl']
                  refine call_of (hA _ _ fun H' => ?_)
                  simp -implicitDefEqProofs [J0,J1,J2,J3,J4,J5,J6,J7,J8,J9,Ja,Jb,Jc,Jd,Je,Jf,Jg,Jh,Ji,Jj,Jk,Jl,Jm,Jn,Jo,Jp,Jq,Jr,Js,Jt,Ju,Jv,Jw,Jx,Jy,Jz,JA,JB,JC,JD,JE,JF,JG,JH,JI,JJ,JK,JL,JM,JN,JO,JP,stillI,IOp.kind,JQ,JR,JS,JT,JU,JV,JW,JX,JY,JZ,Y0,Y1,Y2,Y3,Y4,Y5,Y6,Y7,Y8,Y9,Ya,Yb,Yc,Yd,Ye,Yf,Yg,Yh,Yi,Yj,Yk,Yl,Ym,Yn,ial,Yo,Yp,Yq,Yr,Ys,Yt,Yu,Yv,ires,iresL,ires1,Yw,Yx,Yy,Yz,YA,YB,bin2,YC,YD,YE,YF,YG,YH,YI,YJ,YK,YL,YM,YN,YO,YP,YQ,YR,un1,shOk,eqL,eq1,fillL,putAt,IHeap.load1,IHeap.loadL,IHeap.storeL,YS,YT,YU,YV,YW,YX,YY,YZ,B0,B1,B2,B3,B4,B5,B6,B7,B8,B9,Ba,Bb,Bc,Bd,Be,Bf,Bg,Bh,Bi,Bj,Bk,Bl,Bm]
                  exact hK _

end
end Go.Proofs.YtkgfnelapcpibaaI
