/- Who accepts: deeds, and what stays while they are done. -/
import Derived.Test.YtkgfnelapcpibaaRefX17
import Derived.Test.YtkgfnelapcpibaaPartLaw17
namespace Go.Proofs.YtkgfnelapcpibaaI
set_option linter.unusedSimpArgs false
set_option linter.unusedVariables false
open Go

structure DeedA where
  k : Int
  v : VoteD
def rowD (d : DeedA) : List Value := [.int .i64 d.k, .int .i64 d.v.slot, .int .i64 d.v.a, .int .i64 d.v.n, .string d.v.val]
def deedA (A : Acc) (d : DeedA) : Acc := if d.k = 0 then (A.promise d.v.a d.v.n d.v.slot).1 else if d.k = 1 then (A.accept d.v).1 else if d.k = 2 then (A.trim d.v.slot).1 else A
def GoodA (A : Acc) : Prop := 0 ≤ A.base ∧ ∀ v ∈ A.L, A.base ≤ v.slot

theorem promise_L (A : Acc) (a n s : Int) : (A.promise a n s).1.L = A.L ∧ (A.promise a n s).1.base = A.base := by
  unfold Acc.promise
  split <;> exact ⟨rfl, rfl⟩
theorem promise_votes_len (A : Acc) (a n s : Int) : (A.promise a n s).2.1.length ≤ A.L.length := by
  unfold Acc.promise
  split
  · exact Nat.zero_le _
  · exact List.length_filter_le _ _
theorem fromV_len (L : List VoteD) (s : Int) : (fromV L s).length ≤ L.length := List.length_filter_le _ _
theorem deedA_len (A : Acc) (d : DeedA) : (deedA A d).L.length ≤ A.L.length + 1 := by
  unfold deedA
  split
  · rw [(promise_L ..).1]; omega
  · split
    · unfold Acc.accept
      split
      · exact Nat.le_succ _
      · exact putV_len _ _
    · split
      · exact Nat.le_succ_of_le (fromV_len _ _)
      · exact Nat.le_succ _
theorem putV_mem {L : List VoteD} {v x : VoteD} : x ∈ putV L v ↔ x = v ∨ (x ∈ L ∧ x.slot ≠ v.slot) := by
  unfold putV
  simp only [List.mem_append, List.mem_filter, List.mem_cons, decide_eq_true_eq]
  constructor
  · rintro (⟨h1, h2⟩ | rfl | ⟨h1, h2⟩)
    · exact .inr ⟨h1, by omega⟩
    · exact .inl rfl
    · exact .inr ⟨h1, by omega⟩
  · rintro (rfl | ⟨h1, h2⟩)
    · exact .inr (.inl rfl)
    · rcases Int.lt_or_gt_of_ne h2 with h | h
      · exact .inl ⟨h1, h⟩
      · exact .inr (.inr ⟨h1, h⟩)
theorem fromV_mem {L : List VoteD} {s : Int} {x : VoteD} : x ∈ fromV L s ↔ x ∈ L ∧ s ≤ x.slot := by
  unfold fromV
  rw [List.mem_filter, decide_eq_true_eq]
theorem accept_true {A : Acc} {v : VoteD} (h : (A.accept v).2 = true) : A.may v.a v.n = true ∧ A.base ≤ v.slot ∧ v.slot < 1024 ∧ (A.accept v).1 = { A with pa := v.a, pn := v.n, L := putV A.L v } := by
  unfold Acc.accept at h ⊢
  by_cases hc : A.may v.a v.n = false ∨ v.slot < A.base ∨ 1024 ≤ v.slot ∨ (4096 : Int) < v.val.data.toList.length
  · rw [if_pos hc] at h; cases h
  · rw [if_neg hc]
    simp only [not_or, Bool.not_eq_false] at hc
    exact ⟨hc.1, by omega, by omega, rfl⟩
theorem accept_false {A : Acc} {v : VoteD} (h : (A.accept v).2 = false) : (A.accept v).1 = A := by
  unfold Acc.accept at h ⊢
  by_cases hc : A.may v.a v.n = false ∨ v.slot < A.base ∨ 1024 ≤ v.slot ∨ (4096 : Int) < v.val.data.toList.length
  · rw [if_pos hc]
  · rw [if_neg hc] at h; cases h
theorem deedA_good {A : Acc} (h : GoodA A) (d : DeedA) : GoodA (deedA A d) := by
  obtain ⟨h0, h1⟩ := h
  unfold deedA
  split
  · obtain ⟨e1, e2⟩ := promise_L A d.v.a d.v.n d.v.slot
    exact ⟨by rw [e2]; exact h0, by rw [e1, e2]; exact h1⟩
  · split
    · cases hb : (A.accept d.v).2 with
      | false => rw [accept_false hb]; exact ⟨h0, h1⟩
      | true =>
        obtain ⟨_, a2, _, a4⟩ := accept_true hb
        rw [a4]
        refine ⟨h0, fun v hv => ?_⟩
        rcases putV_mem.1 hv with rfl | ⟨hv, _⟩
        · exact a2
        · exact h1 v hv
    · split
      · unfold Acc.trim
        refine ⟨?_, fun v hv => ?_⟩
        · simp only [maxI]; split <;> omega
        · obtain ⟨q1, q2⟩ := fromV_mem.1 hv
          have := h1 v q1
          simp only [maxI]; split <;> omega
      · exact ⟨h0, h1⟩
theorem fromV_all {A : Acc} (h : GoodA A) {s : Int} (hs : s ≤ A.base) : fromV A.L s = A.L := by
  unfold fromV
  rw [List.filter_eq_self]
  intro v hv
  have := h.2 v hv
  simp; omega

/-! ### what stays -/

def inB (u : Value) (b : Nat) : Prop := ∃ o m c, u = .slice (some ⟨b, o, none⟩) m c ∧ m ≠ 0
theorem SlW.in {H : IHeap} {u : Value} {rows : List (List Value)} (h : SlW H 4 u rows) {b : Nat} (hb : inB u b) : b < H.next := by
  obtain ⟨o, m, c, rfl, hm⟩ := hb
  obtain ⟨⟨a', cap', e, h2⟩, _⟩ := h
  simp only [Value.slice.injEq] at e
  obtain ⟨rfl, rfl, rfl⟩ := e
  obtain ⟨b', o', cs, ro, e, hb, _⟩ := h2 (fun e => hm (by rw [e]; rfl))
  simp only [Option.some.injEq, Addr.mk.injEq] at e
  omega
theorem SlW.kept {H H' : IHeap} {u : Value} {rows : List (List Value)} (h : SlW H 4 u rows) (hn : H.next ≤ H'.next) (hk : ∀ b, inB u b → H'.get b = H.get b) : SlW H' 4 u rows := by
  obtain ⟨⟨a, cap, rfl, h2⟩, h3⟩ := h
  refine ⟨⟨a, cap, rfl, fun hr => ?_⟩, h3⟩
  obtain ⟨b, o, cs, ro, rfl, hb, hget, hrow⟩ := h2 hr
  exact ⟨b, o, cs, ro, rfl, by omega, (hk b ⟨o, _, _, rfl, fun e => hr (List.length_eq_zero_iff.1 e)⟩).trans hget, hrow⟩
theorem Blk.in {n m : Nat} {u : Value} (h : Blk n m u) {b : Nat} (hb : inB u b) : n ≤ b ∧ b < m := by
  obtain ⟨o, l, c, e, _⟩ := hb
  exact h b o l c e
theorem Fresh.in {n : Nat} {u : Value} (h : Fresh n u) {b : Nat} (hb : inB u b) : n ≤ b := by
  obtain ⟨o, l, c, e, _⟩ := hb
  exact h b o l c e

/-- What is known of S stays. -/
def keptS (S : Nat → Prop) (H H' : IHeap) : Prop := H.next ≤ H'.next ∧ ∀ b, S b → H'.get b = H.get b
theorem keptS.trans {S : Nat → Prop} {A B C : IHeap} (h : keptS S A B) (k : keptS S B C) : keptS S A C := ⟨Nat.le_trans h.1 k.1, fun b hb => (k.2 b hb).trans (h.2 b hb)⟩
/-- An acceptor that has none of S. -/
def StA (S : Nat → Prop) (H : IHeap) (p : Nat) (A : Acc) : Prop := (∀ b, S b → b < H.next) ∧ ¬ S p ∧ ∃ q, IsA H p q A ∧ ¬ S q
theorem StA.sub {S S' : Nat → Prop} {H : IHeap} {p : Nat} {A : Acc} (h : StA S H p A) (hs : ∀ b, S' b → S b) : StA S' H p A := by
  obtain ⟨a, b, q, c, d⟩ := h
  exact ⟨fun x hx => a x (hs x hx), fun hx => b (hs p hx), q, c, fun hx => d (hs q hx)⟩
theorem StA.grow {S : Nat → Prop} {H H' : IHeap} {p : Nat} {A : Acc} (h : StA S H p A) (hl : H.le H') : StA (fun b => S b ∨ (H.next ≤ b ∧ b < H'.next)) H' p A := by
  obtain ⟨a, b, q, c, d⟩ := h
  have hn := hl.next
  have hp := c.lt
  refine ⟨fun x hx => ?_, fun hx => ?_, ?_⟩
  · rcases hx with hx | hx
    · have := a x hx; omega
    · exact hx.2
  · rcases hx with hx | hx
    · exact b hx
    · omega
  · by_cases hq : q < H.next
    · refine ⟨q, c.le hl, fun hx => ?_⟩
      rcases hx with hx | hx
      · exact d hx
      · omega
    · refine ⟨H'.next, ?_, fun hx => ?_⟩
      · obtain ⟨u, g1, g2⟩ := c.rep
        have g3 : VS H H'.next u (A.L.map rowV) := by
          rcases g2 with g2 | ⟨cs, g2, _⟩
          · exact .inl g2
          · exact absurd g2 hq
        have c' : IsA H p H'.next A := ⟨c.lt, by omega, ⟨u, g1, g3⟩, c.sorted⟩
        exact c'.le hl
      · rcases hx with hx | hx
        · have := a _ hx; omega
        · omega
theorem StA.le {S : Nat → Prop} {H H' : IHeap} {p : Nat} {A : Acc} (h : StA S H p A) (hl : H.le H') : StA S H' p A := (h.grow hl).sub fun b hb => .inl hb
theorem StA.set {S : Nat → Prop} {H : IHeap} {p i : Nat} {A : Acc} (h : StA S H p A) (hi : S i) (o : IObj) : StA S (H.set i o) p A := by
  obtain ⟨a, b, q, c, d⟩ := h
  exact ⟨a, b, q, c.upd (S := [i]) ((IHeap.upd_refl _ _).set (.inr (by simp)) _) (fun hm => by simp at hm; exact b (hm ▸ hi)) (fun hm => by simp at hm; exact d (hm ▸ hi)), d⟩
theorem StA.sorted {S : Nat → Prop} {H : IHeap} {p : Nat} {A : Acc} (h : StA S H p A) : Sorted A.L := h.2.2.elim fun _ h => h.1.sorted
theorem StA.kept {S : Nat → Prop} {H H' : IHeap} {p q : Nat} {A : Acc} (h : StA S H p A) (hq : ¬ S q) (hu : IHeap.upd [p, q] H H') : keptS S H H' :=
  ⟨hu.next, fun b hb => hu.get b (h.1 b hb) fun hm => by
    simp only [List.mem_cons, List.not_mem_nil, or_false] at hm
    rcases hm with e | e
    · exact h.2.1 (e ▸ hb)
    · exact hq (e ▸ hb)⟩

section
variable (c : Ctx) (hc : HasAcc c) (hB : HasBalA c) (hI : InsOk c) (hT : HasLaw17 c) {H : IHeap} {K : Value → IHeap → Prop}

include hc in
theorem New_st {S : Nat → Prop} (hS : ∀ b, S b → b < H.next) (hK : ∀ H', H.le H' → H.next < H'.next → StA S H' H.next ⟨0, 0, 0, []⟩ → K (.pointer (some ⟨H.next, 0, none⟩)) H') : c.C (c.F n_acceptor_New) [] H K := by
  refine ANew_ok c hc fun H' k i => hK H' k i.lt ?_
  obtain ⟨u, g1, g2⟩ := i.rep
  have hn := k.next
  have hlt := i.lt
  rcases g2 with g2 | ⟨cs, _, _, _, _, _⟩
  · exact ⟨fun b hb => by have := hS b hb; omega, fun hb => by have := hS _ hb; omega, H'.next, ⟨i.lt, by omega, ⟨u, g1, .inl g2⟩, i.sorted⟩, fun hb => by have := hS _ hb; omega⟩
  · exact ⟨fun b hb => by have := hS b hb; omega, fun hb => by have := hS _ hb; omega, H.next + 1, i, fun hb => by have := hS _ hb; omega⟩

include hc in
theorem Promised_st {S : Nat → Prop} {p : Nat} {A : Acc} (h : StA S H p A) (hK : ∀ H', H.le H' → K (vB A.pa A.pn) H') : c.C (c.F n_acceptor_Acceptor_Promised) [.pointer (some ⟨p, 0, none⟩)] H K :=
  h.2.2.elim fun _ h => APromised_ok c hc h.1 hK
include hc in
theorem Base_st {S : Nat → Prop} {p : Nat} {A : Acc} (h : StA S H p A) (hK : K (.int .i64 A.base) H) : c.C (c.F n_acceptor_Acceptor_Base) [.pointer (some ⟨p, 0, none⟩)] H K :=
  h.2.2.elim fun _ h => ABase_ok c hc h.1 hK
include hc in
theorem Votes_st {S : Nat → Prop} {p : Nat} {A : Acc} {s : Int} (h : StA S H p A) (hl : A.L.length ≤ 1000000) (hK : ∀ v' H', H.le H' → SlW H' 4 v' ((fromV A.L s).map rowV) → Fresh H.next v' → K v' H') :
    c.C (c.F n_acceptor_Acceptor_Votes) [.pointer (some ⟨p, 0, none⟩), .int .i64 s] H K :=
  h.2.2.elim fun _ h => AVotes_ok c hc h.1 hl hK
include hc hB in
theorem Promise_st {S : Nat → Prop} {p : Nat} {A : Acc} {a n s : Int} (h : StA S H p A) (hl : A.L.length ≤ 1000000)
    (hK : ∀ v' H', keptS S H H' → StA (fun b => S b ∨ (H.next ≤ b ∧ b < H'.next)) H' p (A.promise a n s).1 → SlW H' 4 v' ((A.promise a n s).2.1.map rowV) → Fresh H.next v' → K (.tuple #[v', .bool (A.promise a n s).2.2]) H') :
    c.C (c.F n_acceptor_Acceptor_Promise) [.pointer (some ⟨p, 0, none⟩), vB a n, .int .i64 s] H K := by
  have h' := h
  obtain ⟨x, y, q, i, z⟩ := h'
  refine APromise_ok c hc hB i hl fun v' H' u i' s' f' => hK v' H' (h.kept z ⟨u.next, fun b hb hn => u.get b hb fun hm => hn (by simp at hm; simp [hm])⟩) ⟨fun b hb => ?_, fun hb => ?_, ?_⟩ s' f'
  · have := u.next
    rcases hb with hb | hb
    · have := x b hb; omega
    · exact hb.2
  · have := i.lt
    rcases hb with hb | hb
    · exact y hb
    · omega
  · have hpl := i.lt
    have hn := u.next
    by_cases hq : q < H.next
    · refine ⟨q, i' q i, fun hx => ?_⟩
      rcases hx with hx | hx
      · exact z hx
      · omega
    · refine ⟨H'.next, i' _ ?_, fun hx => ?_⟩
      · obtain ⟨u, g1, g2⟩ := i.rep
        rcases g2 with g2 | ⟨cs, g2, _⟩
        · exact ⟨i.lt, by omega, ⟨u, g1, .inl g2⟩, i.sorted⟩
        · exact absurd g2 hq
      · rcases hx with hx | hx
        · have := x _ hx; omega
        · omega
include hc hB hI in
theorem Accept_st {S : Nat → Prop} {p : Nat} {A : Acc} {v : VoteD} (h : StA S H p A) (hl : A.L.length ≤ 1000000)
    (hK : ∀ H', keptS S H H' → StA S H' p (A.accept v).1 → K (.bool (A.accept v).2) H') :
    c.C (c.F n_acceptor_Acceptor_Accept) [.pointer (some ⟨p, 0, none⟩), vV v] H K := by
  have h' := h
  obtain ⟨x, y, q, i, z⟩ := h'
  refine AAccept_ok c hc hB hI i hl fun q' H' u hq i' => hK H' (h.kept z u) ⟨fun b hb => Nat.lt_of_lt_of_le (x b hb) u.next, y, q', i', fun hb => ?_⟩
  rcases hq with rfl | hq
  · exact z hb
  · have := x _ hb; omega
include hc in
theorem Trim_st {S : Nat → Prop} {p : Nat} {A : Acc} {s : Int} (h : StA S H p A) (hl : A.L.length ≤ 1000000)
    (hK : ∀ H', keptS S H H' → StA S H' p (A.trim s).1 → K (.int .i64 (A.trim s).2) H') :
    c.C (c.F n_acceptor_Acceptor_Trim) [.pointer (some ⟨p, 0, none⟩), .int .i64 s] H K := by
  have h' := h
  obtain ⟨x, y, q, i, z⟩ := h'
  exact ATrim_ok c hc i hl fun H' u i' => hK H' (h.kept z u) ⟨fun b hb => Nat.lt_of_lt_of_le (x b hb) u.next, y, q, i', z⟩

include hT in
theorem Few_ok17 {u : Value} {l : List DeedA} (hu : SlR H 5 u (l.map rowD)) (h0 : K (.int .i64 0) H) (h1 : l.length ≤ 60 → K (.int .i64 1) H) :
    c.C (c.F n_hurdlelaw17_Few) [u] H K := by
  refine c.enter hT.hurdlelaw17_Few rfl ?_
  have hu' := hu
  obtain ⟨a, cap, rfl, _⟩ := hu
  simp only [List.length_map] at hu' ⊢
  by_cases h80 : 60 < l.length
  · have h80' : (60 : Int) < (l.length : Int) := by omega
    simp -implicitDefEqProofs [J0,J1,J2,J3,J4,J5,J6,J7,J8,J9,Ja,Jb,Jc,Jd,Je,Jf,Jg,Jh,Ji,Jj,Jk,Jl,Jm,Jn,Jo,Jp,Jq,Jr,Js,Jt,Ju,Jv,Jw,Jx,Jy,Jz,JA,JB,JC,JD,JE,JF,JG,JH,JI,JJ,JK,JL,JM,JN,JO,JP,stillI,IOp.kind,JQ,JR,JS,JT,JU,JV,JW,JX,JY,JZ,Y0,Y1,Y2,Y3,Y4,Y5,Y6,Y7,Y8,Y9,Ya,Yb,Yc,Yd,Ye,Yf,Yg,Yh,Yi,Yj,Yk,Yl,Ym,Yn,ial,Yo,Yp,Yq,Yr,Ys,Yt,Yu,Yv,ires,iresL,ires1,Yw,Yx,Yy,Yz,YA,YB,bin2,YC,YD,YE,YF,YG,YH,YI,YJ,YK,YL,YM,YN,YO,YP,YQ,YR,un1,shOk,eqL,eq1,fillL,putAt,IHeap.load1,IHeap.loadL,IHeap.storeL,YS,YT,YU,YV,YW,YX,YY,YZ,B0,B1,B2,B3,B4,B5,B6,B7,B8,B9,Ba,Bb,Bc,Bd,Be,Bf,Bg,Bh,Bi,Bj,Bk,Bl,Bm, c_hurdlelaw17_Few, h80, h80']
    exact h0
  · have h80' : ¬ (60 : Int) < (l.length : Int) := by omega
    simp -implicitDefEqProofs [J0,J1,J2,J3,J4,J5,J6,J7,J8,J9,Ja,Jb,Jc,Jd,Je,Jf,Jg,Jh,Ji,Jj,Jk,Jl,Jm,Jn,Jo,Jp,Jq,Jr,Js,Jt,Ju,Jv,Jw,Jx,Jy,Jz,JA,JB,JC,JD,JE,JF,JG,JH,JI,JJ,JK,JL,JM,JN,JO,JP,stillI,IOp.kind,JQ,JR,JS,JT,JU,JV,JW,JX,JY,JZ,Y0,Y1,Y2,Y3,Y4,Y5,Y6,Y7,Y8,Y9,Ya,Yb,Yc,Yd,Ye,Yf,Yg,Yh,Yi,Yj,Yk,Yl,Ym,Yn,ial,Yo,Yp,Yq,Yr,Ys,Yt,Yu,Yv,ires,iresL,ires1,Yw,Yx,Yy,Yz,YA,YB,bin2,YC,YD,YE,YF,YG,YH,YI,YJ,YK,YL,YM,YN,YO,YP,YQ,YR,un1,shOk,eqL,eq1,fillL,putAt,IHeap.load1,IHeap.loadL,IHeap.storeL,YS,YT,YU,YV,YW,YX,YY,YZ,B0,B1,B2,B3,B4,B5,B6,B7,B8,B9,Ba,Bb,Bc,Bd,Be,Bf,Bg,Bh,Bi,Bj,Bk,Bl,Bm, c_hurdlelaw17_Few, h80, h80']
    refine loop_nat c.mono (fun k T H' => ∃ i : Nat, i ≤ l.length ∧ k = l.length - i ∧ T 0 = .slice a l.length cap ∧ T 3 = .int .i64 i ∧ H' = H) l.length ?_ ?_
    · refine ⟨0, by omega, rfl, ?_⟩
      simp -implicitDefEqProofs [J0,J1,J2,J3,J4,J5,J6,J7,J8,J9,Ja,Jb,Jc,Jd,Je,Jf,Jg,Jh,Ji,Jj,Jk,Jl,Jm,Jn,Jo,Jp,Jq,Jr,Js,Jt,Ju,Jv,Jw,Jx,Jy,Jz,JA,JB,JC,JD,JE,JF,JG,JH,JI,JJ,JK,JL,JM,JN,JO,JP,stillI,IOp.kind,JQ,JR,JS,JT,JU,JV,JW,JX,JY,JZ,Y0,Y1,Y2,Y3,Y4,Y5,Y6,Y7,Y8,Y9,Ya,Yb,Yc,Yd,Ye,Yf,Yg,Yh,Yi,Yj,Yk,Yl,Ym,Yn,ial,Yo,Yp,Yq,Yr,Ys,Yt,Yu,Yv,ires,iresL,ires1,Yw,Yx,Yy,Yz,YA,YB,bin2,YC,YD,YE,YF,YG,YH,YI,YJ,YK,YL,YM,YN,YO,YP,YQ,YR,un1,shOk,eqL,eq1,fillL,putAt,IHeap.load1,IHeap.loadL,IHeap.storeL,YS,YT,YU,YV,YW,YX,YY,YZ,B0,B1,B2,B3,B4,B5,B6,B7,B8,B9,Ba,Bb,Bc,Bd,Be,Bf,Bg,Bh,Bi,Bj,Bk,Bl,Bm]
    · rintro k T H' ⟨i, hi, rfl, t0, t3, rfl⟩
      by_cases hil : i < l.length
      · have hil' : (i : Int) < (l.length : Int) := by omega
        have hd : l[i]? = some l[i] := List.getElem?_eq_getElem hil
        obtain ⟨d, hde⟩ : ∃ d, d = l[i] := ⟨_, rfl⟩
        rw [← hde] at hd
        obtain ⟨b, o, cp, cs, ro, ea, hb, hget, hrl, hrow, hbd⟩ := hu'.at (i := i) (r := rowD d) (by simp [hd])
        rw [List.length_map] at ea
        simp only [Value.slice.injEq] at ea
        obtain ⟨rfl, -, rfl⟩ := ea
        have hw : IntKind.i64.wrap ((i : Int) + 1) = (i : Int) + 1 := wrap64 (by omega) (by omega)
        have r4 := row_get hrow 4 (by omega)
        simp only [rowD, List.getElem?_cons_succ, List.getElem?_cons_zero] at r4
        by_cases h20 : (5000 : Int) < (d.v.val.size : Int)
        · simp -implicitDefEqProofs [J0,J1,J2,J3,J4,J5,J6,J7,J8,J9,Ja,Jb,Jc,Jd,Je,Jf,Jg,Jh,Ji,Jj,Jk,Jl,Jm,Jn,Jo,Jp,Jq,Jr,Js,Jt,Ju,Jv,Jw,Jx,Jy,Jz,JA,JB,JC,JD,JE,JF,JG,JH,JI,JJ,JK,JL,JM,JN,JO,JP,stillI,IOp.kind,JQ,JR,JS,JT,JU,JV,JW,JX,JY,JZ,Y0,Y1,Y2,Y3,Y4,Y5,Y6,Y7,Y8,Y9,Ya,Yb,Yc,Yd,Ye,Yf,Yg,Yh,Yi,Yj,Yk,Yl,Ym,Yn,ial,Yo,Yp,Yq,Yr,Ys,Yt,Yu,Yv,ires,iresL,ires1,Yw,Yx,Yy,Yz,YA,YB,bin2,YC,YD,YE,YF,YG,YH,YI,YJ,YK,YL,YM,YN,YO,YP,YQ,YR,un1,shOk,eqL,eq1,fillL,putAt,IHeap.load1,IHeap.loadL,IHeap.storeL,YS,YT,YU,YV,YW,YX,YY,YZ,B0,B1,B2,B3,B4,B5,B6,B7,B8,B9,Ba,Bb,Bc,Bd,Be,Bf,Bg,Bh,Bi,Bj,Bk,Bl,Bm, t0, t3, hil, hil', hget, r4, h20]
          exact h0
        · simp -implicitDefEqProofs [J0,J1,J2,J3,J4,J5,J6,J7,J8,J9,Ja,Jb,Jc,Jd,Je,Jf,Jg,Jh,Ji,Jj,Jk,Jl,Jm,Jn,Jo,Jp,Jq,Jr,Js,Jt,Ju,Jv,Jw,Jx,Jy,Jz,JA,JB,JC,JD,JE,JF,JG,JH,JI,JJ,JK,JL,JM,JN,JO,JP,stillI,IOp.kind,JQ,JR,JS,JT,JU,JV,JW,JX,JY,JZ,Y0,Y1,Y2,Y3,Y4,Y5,Y6,Y7,Y8,Y9,Ya,Yb,Yc,Yd,Ye,Yf,Yg,Yh,Yi,Yj,Yk,Yl,Ym,Yn,ial,Yo,Yp,Yq,Yr,Ys,Yt,Yu,Yv,ires,iresL,ires1,Yw,Yx,Yy,Yz,YA,YB,bin2,YC,YD,YE,YF,YG,YH,YI,YJ,YK,YL,YM,YN,YO,YP,YQ,YR,un1,shOk,eqL,eq1,fillL,putAt,IHeap.load1,IHeap.loadL,IHeap.storeL,YS,YT,YU,YV,YW,YX,YY,YZ,B0,B1,B2,B3,B4,B5,B6,B7,B8,B9,Ba,Bb,Bc,Bd,Be,Bf,Bg,Bh,Bi,Bj,Bk,Bl,Bm, t0, t3, hil, hil', hget, r4, h20, hw]
          exact ⟨l.length - (i + 1), by omega, i + 1, by omega, rfl, by simp⟩
      · have hil' : ¬ (i : Int) < (l.length : Int) := by omega
        simp -implicitDefEqProofs [J0,J1,J2,J3,J4,J5,J6,J7,J8,J9,Ja,Jb,Jc,Jd,Je,Jf,Jg,Jh,Ji,Jj,Jk,Jl,Jm,Jn,Jo,Jp,Jq,Jr,Js,Jt,Ju,Jv,Jw,Jx,Jy,Jz,JA,JB,JC,JD,JE,JF,JG,JH,JI,JJ,JK,JL,JM,JN,JO,JP,stillI,IOp.kind,JQ,JR,JS,JT,JU,JV,JW,JX,JY,JZ,Y0,Y1,Y2,Y3,Y4,Y5,Y6,Y7,Y8,Y9,Ya,Yb,Yc,Yd,Ye,Yf,Yg,Yh,Yi,Yj,Yk,Yl,Ym,Yn,ial,Yo,Yp,Yq,Yr,Ys,Yt,Yu,Yv,ires,iresL,ires1,Yw,Yx,Yy,Yz,YA,YB,bin2,YC,YD,YE,YF,YG,YH,YI,YJ,YK,YL,YM,YN,YO,YP,YQ,YR,un1,shOk,eqL,eq1,fillL,putAt,IHeap.load1,IHeap.loadL,IHeap.storeL,YS,YT,YU,YV,YW,YX,YY,YZ,B0,B1,B2,B3,B4,B5,B6,B7,B8,B9,Ba,Bb,Bc,Bd,Be,Bf,Bg,Bh,Bi,Bj,Bk,Bl,Bm, t0, t3, hil, hil']
        exact h1 (by omega)

end
end Go.Proofs.YtkgfnelapcpibaaI
