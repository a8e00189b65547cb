/- Managers that do the same texts; plain law of fences. / Managers: deeds. -/
import Derived.Test.YtndndcdblfejnaaGreatRMgV
namespace Go.Proofs.YtndndcdblfejnaaGreatRI
set_option linter.unusedSimpArgs false
set_option linter.unusedVariables false
open Go

structure DeedG where
  x : Cmd
  t : ByteArray
def rowDG (d : DeedG) : List Value := [.int .i64 d.x.cl, .int .i64 d.x.sq, .int .i64 d.x.kd, .int .i64 d.x.a, .int .i64 d.x.b, .int .i64 d.x.c, .int .i64 d.x.d, .int .i64 d.x.e, .string d.t]
def bytesOf (d : DeedG) : List UInt8 := if okC d.x = true then encC d.x else d.t.data.toList
theorem bytesOf_len {d : DeedG} (hx : okX d.x) (ht : d.t.size ≤ 1000) : (bytesOf d).length ≤ 1000000 := by
  unfold bytesOf
  split
  · have := encC_len hx; omega
  · have : d.t.data.toList.length = d.t.size := by rw [Array.length_toList]; rfl
    omega

/-! ### fences -/
theorem getS_set {L : List St} {i : Nat} {y : St} {id : Int} {z : St} (h : getS (L.set i y) id = some z) : (id.toNat = i ∧ z = y ∧ 0 ≤ id ∧ i < L.length) ∨ (id.toNat ≠ i ∧ getS L id = some z) := by
  obtain ⟨h0, h1, h2⟩ := getS_some h
  rw [List.getElem?_set] at h2
  by_cases e : i = id.toNat
  · rw [if_pos e] at h2
    split at h2
    · simp only [Option.some.injEq] at h2
      exact .inl ⟨e.symm, h2.symm, h0, by assumption⟩
    · cases h2
  · rw [if_neg e] at h2
    refine .inr ⟨fun z => e z.symm, ?_⟩
    unfold getS
    rw [if_neg (by omega)]; exact h2
/-- Committed only what was, or what was begun in this epoch. -/
def FencedTo (e : Int) (L L' : List St) : Prop := ∀ id z, getS L' id = some z → z.st = 2 → (∃ y, getS L id = some y ∧ y.st = 2) ∨ z.ep = e
theorem FencedTo.refl (e : Int) (L : List St) : FencedTo e L L := fun id z h h2 => .inl ⟨z, h, h2⟩
/-- All states stay. -/
def SameSt (L L' : List St) : Prop := ∀ id z, getS L' id = some z → ∃ y, getS L id = some y ∧ y.st = z.st ∧ y.ep = z.ep
theorem SMove_same (L : List St) (id ix sr : Int) : SameSt L (SMove L id ix sr).1 := by
  intro k z hz
  cases hy : getS L id with
  | none =>
    unfold SMove at hz
    rw [hy] at hz
    simp only at hz
    split at hz
    · exact ⟨z, hz, rfl, rfl⟩
    · exact ⟨z, hz, rfl, rfl⟩
  | some y =>
    unfold SMove at hz
    rw [hy] at hz
    simp only at hz
    split at hz
    · exact ⟨z, hz, rfl, rfl⟩
    split at hz
    · exact ⟨z, hz, rfl, rfl⟩
    split at hz
    · exact ⟨z, hz, rfl, rfl⟩
    rcases getS_set hz with ⟨e, rfl, h0, _⟩ | ⟨_, h⟩
    · obtain ⟨g0, g1, g2⟩ := getS_some hy
      refine ⟨y, ?_, rfl, rfl⟩
      unfold getS
      rw [if_neg (by omega), e]; exact g2
    · exact ⟨z, h, rfl, rfl⟩
theorem mvAll_same (gone to : Int) (ids : List Int) : ∀ L : List St, SameSt L (mvAll gone to L ids) := by
  induction ids with
  | nil => intro L id z hz; exact ⟨z, hz, rfl, rfl⟩
  | cons a ids ih =>
    intro L id z hz
    obtain ⟨y, hy, e1, e2⟩ := ih _ id z hz
    obtain ⟨x, hx, f1, f2⟩ := SMove_same L a _ _ id y hy
    exact ⟨x, hx, f1.trans e1, f2.trans e2⟩
theorem does_fenced (S : Mst) (x : Cmd) : FencedTo S.g.e S.s (mDoes S x).1.s := by
  unfold mDoes
  repeat' split
  · intro id z hz h2
    simp only [mBegin, SBegin] at hz
    split at hz
    · exact .inl ⟨z, hz, h2⟩
    split at hz
    · exact .inl ⟨z, hz, h2⟩
    obtain ⟨h0, h1, h3⟩ := getS_some hz
    by_cases hl : id.toNat < S.s.length
    · rw [List.getElem?_append_left hl] at h3
      exact .inl ⟨z, by unfold getS; rw [if_neg (by omega)]; exact h3, h2⟩
    · rw [List.getElem?_append_right (by omega)] at h3
      simp only [List.length_append, List.length_singleton] at h1
      rw [show id.toNat - S.s.length = 0 by omega] at h3
      simp only [List.getElem?_cons_zero, Option.some.injEq] at h3
      subst h3
      cases h2
  · intro id z hz h2
    unfold mCommit at hz
    split at hz
    · exact .inl ⟨z, hz, h2⟩
    rename_i hf
    simp only [SCommit] at hz
    split at hz
    · exact .inl ⟨z, hz, h2⟩
    rename_i y hy
    split at hz
    · exact .inl ⟨z, hz, h2⟩
    rename_i hn
    rcases getS_set hz with ⟨e, rfl, h0, _⟩ | ⟨_, h⟩
    · right
      unfold fenced at hf
      rw [hy] at hf
      simp only [ne_eq, not_or, Decidable.not_not] at hn
      simpa [hn.1, hn.2] using hf
    · exact .inl ⟨z, h, h2⟩
  · intro id z hz h2
    simp only [mFree, SFree] at hz
    split at hz
    · exact .inl ⟨z, hz, h2⟩
    split at hz
    · exact .inl ⟨z, hz, h2⟩
    rcases getS_set hz with ⟨e, rfl, h0, _⟩ | ⟨_, h⟩
    · cases h2
    · exact .inl ⟨z, h, h2⟩
  · unfold mMove
    repeat' split
    all_goals exact FencedTo.refl _ _
  · exact FencedTo.refl _ _
  · unfold mSwap
    split
    · exact FencedTo.refl _ _
    · intro id z hz h2
      obtain ⟨y, hy, e1, e2⟩ := mvAll_same _ _ _ _ id z hz
      exact .inl ⟨y, hy, e1.trans h2⟩
  · exact FencedTo.refl _ _
  · exact FencedTo.refl _ _
  · exact FencedTo.refl _ _
theorem do_fenced (S : Mst) (s : List UInt8) : FencedTo S.g.e S.s (mDo S s).1.s := by
  unfold mDo
  cases decC s with
  | none => exact FencedTo.refl _ _
  | some x =>
    simp only [mDoC]
    split
    · exact FencedTo.refl _ _
    split
    · exact FencedTo.refl _ _
    · exact does_fenced { S with r := (taE S.r x.cl x.sq).1 } x
/-- Those of a state. -/
theorem wh_mem (f : St → Bool) : ∀ (L : List St) (n : Nat) (k : Int), k ∈ wh f n L ↔ ∃ i y, L[i]? = some y ∧ f y = true ∧ k = ((n + i : Nat) : Int)
  | [], n, k => by simp [wh]
  | x :: L, n, k => by
    have ih := wh_mem f L (n + 1) k
    rw [wh]
    constructor
    · intro h
      have : (k = (n : Int) ∧ f x = true) ∨ k ∈ wh f (n + 1) L := by
        split at h
        · rename_i hf
          rcases List.mem_cons.1 h with h | h
          · exact .inl ⟨h, hf⟩
          · exact .inr h
        · exact .inr h
      rcases this with ⟨rfl, hf⟩ | h
      · exact ⟨0, x, rfl, hf, rfl⟩
      · obtain ⟨i, y, h1, h2, h3⟩ := ih.1 h
        exact ⟨i + 1, y, h1, h2, by rw [h3]; omega⟩
    · rintro ⟨i, y, h1, h2, h3⟩
      cases i with
      | zero =>
        simp only [List.getElem?_cons_zero, Option.some.injEq] at h1
        subst h1
        rw [if_pos h2, h3]; simp
      | succ i =>
        have : k ∈ wh f (n + 1) L := ih.2 ⟨i, y, by simpa using h1, h2, by rw [h3]; omega⟩
        split
        · exact List.mem_cons_of_mem _ this
        · exact this
theorem com_mem {L : List St} {k : Int} : k ∈ wh (fun x => decide (x.st = 2)) 0 L ↔ ∃ y, getS L k = some y ∧ y.st = 2 := by
  rw [wh_mem]
  constructor
  · rintro ⟨i, y, h1, h2, rfl⟩
    refine ⟨y, ?_, of_decide_eq_true h2⟩
    unfold getS
    rw [if_neg (by omega)]
    simpa using h1
  · rintro ⟨y, h1, h2⟩
    obtain ⟨h0, h3, h4⟩ := getS_some h1
    exact ⟨k.toNat, y, h4, by simp [h2], by omega⟩
end Go.Proofs.YtndndcdblfejnaaGreatRI
namespace Go.Proofs.YtndndcdblfejnaaGreatRI
attribute [local simp] J0 J1 J2 J3 J4 J5 J6 J7 J8 J9 Ja Jb Jc Jd Je Jf Jg Jh Ji Jj Jk Jl Jm Jn Jo Jp Jq Jr Js Jt Ju Jv Jw Jx Jy Jz JA JB JC JD JE JF JG JH JI JJ JK JL JM JN JO JP JQ JR JS stillI IOp.kind JT JU JV JW JX JY JZ Y0 Y1 Y2 Y3 Y4 Y5 Y6 Y7 Y8 Y9 Ya Yb Yc Yd Ye Yf Yg Yh Yi Yj Yk Yl Ym Yn Yo Yp Yq ial Yr Ys Yt Yu Yv Yw Yx Yy ires iresL ires1 Yz YA YB YC YD YE bin2 YF YG YH YI YJ YK YL YM YN YO YP YQ YR YS YT YU un1 shOk eqL eq1 fillL putAt IHeap.load1 IHeap.loadL IHeap.storeL YV YW YX YY YZ B0 B1 B2 B3 B4 B5 B6 B7 B8 B9 Ba Bb Bc Bd Be Bf Bg Bh Bi Bj Bk Bl Bm Bn Bo Bp
set_option linter.unusedSimpArgs false
set_option linter.unusedVariables false
open Go

def dgV (d : DeedG) : Value := .agg #[.int .i64 d.x.cl, .int .i64 d.x.sq, .int .i64 d.x.kd, .int .i64 d.x.a, .int .i64 d.x.b, .int .i64 d.x.c, .int .i64 d.x.d, .int .i64 d.x.e, .string d.t]
theorem MgO.fr {w : Nat → Nat} {H H' : IHeap} {p : Nat} {q : Pts} {S : Mst} {C : Nat → Prop} (h : MgO w H p q S) (k : Fr C H H') (hd : ∀ b, w b ≠ 0 → ¬ C b) : MgO w H' p q S :=
  ⟨fun b hb => Nat.lt_of_lt_of_le (h.lt b hb) k.next, h.own, (k.get p h.lp (hd p (by rw [h.own]; decide))).trans h.get, h.g.fr k fun b hb => hd b (by rw [hb]; decide), h.s.fr k fun b hb => hd b (by rw [hb]; decide), h.i.fr k fun b hb => hd b (by rw [hb]; decide),
    h.u.fr k fun b hb => hd b (by rw [hb]; decide), h.l.fr k fun b hb => hd b (by rw [hb]; decide), h.r.fr k fun b hb => hd b (by rw [hb]; decide)⟩
/-- One of two managers is turned. -/
theorem two_step {wA wB wA' : Nat → Nat} {H H' : IHeap} {pB : Nat} {qB : Pts} {S : Mst} (hB : MgO wB H pB qB S) (k : Sg wA H wA' H') (hd : ∀ b, wA b ≠ 0 → wB b = 0) : MgO wB H' pB qB S ∧ ∀ b, wA' b ≠ 0 → wB b = 0 :=
  ⟨hB.fr k.fr fun b hb ha => hb (hd b ha), fun b hb => (k.gw b hb).elim (hd b) fun h => hB.zero h⟩

section
variable (c : Ctx) (hc : MgC c) (h3 : HasRef03 c) (hL : HasLaw28 c) (h01 : HasRef01 c) (hA : ∀ H K, (∀ H', K (.bool true) H') → c.C (c.F n_hurdlelaw28_awake) [] H K) {H : IHeap} {K : Value → IHeap → Prop}

include h3 hL in
theorem bytesG_ok {d : DeedG} (hx : okX d.x) (hK : ∀ H', H.le H' → K (strV (bytesOf d)) H') : c.C (c.F n_hurdlelaw28_bytes) [dgV d] H K := by
  refine c.enter hL.hurdlelaw28_bytes rfl ?_
  obtain ⟨HA, hHA⟩ : ∃ X : IHeap, X = H.alloc (.cells (rowDG d) false) := ⟨_, rfl⟩
  have kA : H.le HA := by rw [hHA]; exact H.le_alloc _
  have nA : HA.next = H.next + 1 := by rw [hHA]; rfl
  have gA : HA.get H.next = some (.cells (rowDG d) false) := by rw [hHA, YV, if_pos rfl]
  unfold rowDG at hHA gA
  simp -implicitDefEqProofs [c_hurdlelaw28_bytes, dgV, ← hHA, gA]
  refine call_of (rEncode_ok c h3 hL (x := d.x) hx fun H1 k1 => ?_)
  have g1 := (k1.get _ (by omega)).trans gA
  unfold bytesOf at hK
  by_cases ho : okC d.x = true
  · rw [if_pos ho] at hK
    simp -implicitDefEqProofs [ho]
    exact hK _ (kA.trans k1)
  · rw [if_neg ho] at hK
    simp -implicitDefEqProofs [ho, g1]
    have := hK _ (kA.trans k1)
    simpa [strV] using this
include hL in
theorem Few28_ok {a1 a2 a3 : Option Addr} {n1 n2 n3 c1 c2 c3 : Nat} (hK : ∀ H', H.le H' → K (.int .i64 (if 20 < n1 ∨ 80 < n2 ∨ 60 < n3 then 0 else 1)) H') :
    c.C (c.F n_hurdlelaw23_Few) [.agg #[.slice a1 n1 c1, .slice a2 n2 c2], .slice a3 n3 c3] H K := by
  refine c.enter hL.hurdlelaw23_Few rfl ?_
  by_cases h1 : 20 < n1
  · have h1' : (20 : Int) < n1 := by omega
    rw [if_pos (.inl h1)] at hK
    simp -implicitDefEqProofs [c_hurdlelaw23_Few, h1, h1']
    exact hK _ (H.le_alloc _)
  · have h1' : ¬ (20 : Int) < n1 := by omega
    by_cases h2 : 80 < n2
    · have h2' : (80 : Int) < n2 := by omega
      rw [if_pos (.inr (.inl h2))] at hK
      simp -implicitDefEqProofs [c_hurdlelaw23_Few, h1, h1', h2, h2']
      exact hK _ (H.le_alloc _)
    · have h2' : ¬ (80 : Int) < n2 := by omega
      by_cases h3 : 60 < n3
      · have h3' : (60 : Int) < n3 := by omega
        rw [if_pos (.inr (.inr h3))] at hK
        simp -implicitDefEqProofs [c_hurdlelaw23_Few, h1, h1', h2, h2', h3, h3']
        exact hK _ (H.le_alloc _)
      · have h3' : ¬ (60 : Int) < n3 := by omega
        rw [if_neg (by omega)] at hK
        simp -implicitDefEqProofs [c_hurdlelaw23_Few, h1, h1', h2, h2', h3, h3']
        exact hK _ (H.le_alloc _)

include hL in
theorem fewG_ok {u1 u2 v : Value} {L P : List Int} {l : List DeedG} (h1 : SlW H 1 u1 (L.map rowI)) (h2 : SlW H 1 u2 (P.map rowI)) (hl : SlR H 9 v (l.map rowDG)) (hF : ∀ H', H.le H' → K (.bool false) H')
    (hT : ∀ H', H.le H' → L.length ≤ 20 → P.length ≤ 80 → l.length ≤ 50 → (∀ d ∈ l, d.t.size ≤ 1000) → K (.bool true) H') : c.C (c.F n_hurdlelaw28_few) [.agg #[u1, u2], v] H K := by
  refine c.enter hL.hurdlelaw28_few rfl ?_
  have h1' := h1
  have h2' := h2
  obtain ⟨a1, c1, rfl⟩ := h1.len
  obtain ⟨a2, c2, rfl⟩ := h2.len
  have hl' := hl
  obtain ⟨a3, c3, rfl, _⟩ := hl
  simp only [List.length_map] at *
  obtain ⟨HA, hHA⟩ : ∃ X : IHeap, X = H.alloc (.cells [.slice a1 L.length c1, .slice a2 P.length c2] false) := ⟨_, rfl⟩
  have kA : H.le HA := by rw [hHA]; exact H.le_alloc _
  have gA : HA.get H.next = some (.cells [.slice a1 L.length c1, .slice a2 P.length c2] false) := by rw [hHA, YV, if_pos rfl]
  simp -implicitDefEqProofs [c_hurdlelaw28_few, ← hHA, gA]
  refine call_of (Few28_ok c hL fun H1 k1 => ?_)
  have kk := kA.trans k1
  by_cases hf : 20 < L.length ∨ 80 < P.length ∨ 60 < 0
  · rw [if_pos hf]
    simp -implicitDefEqProofs []
    exact hF _ kk
  · rw [if_neg hf]
    by_cases h50 : 50 < l.length
    · have h50I : (50 : Int) < (l.length : Int) := by omega
      simp -implicitDefEqProofs [h50, h50I]
      exact hF _ kk
    · have h50I : ¬ (50 : Int) < (l.length : Int) := by omega
      simp -implicitDefEqProofs [h50, h50I]
      have hl1 := hl'.le kk
      refine loop_nat c.mono (fun m T H' => ∃ i : Nat, i ≤ l.length ∧ m = l.length - i ∧ H' = H1 ∧ T 1 = .slice a3 l.length c3 ∧ T 5 = .int .i64 i ∧ ∀ j d, j < i → l[j]? = some d → d.t.size ≤ 1000) l.length ?_ ?_
      · exact ⟨0, by omega, by omega, rfl, by simp -implicitDefEqProofs [], by simp -implicitDefEqProofs [], fun j d hj => by omega⟩
      · rintro m T H' ⟨i, hi, rfl, rfl, t1, t5, hall⟩
        by_cases hlt : i < l.length
        · have hltI : (i : Int) < (l.length : Int) := by omega
          have hx0 : l[i]? = some l[i] := List.getElem?_eq_getElem hlt
          obtain ⟨d, hd⟩ : ∃ d, d = l[i] := ⟨_, rfl⟩
          rw [← hd] at hx0
          obtain ⟨b, o, cp, cs, ro, ea, hbl, hget, hrl, hrow, hbd⟩ := hl1.at (i := i) (r := rowDG d) (by simp [hx0])
          rw [List.length_map] at ea
          simp only [Value.slice.injEq] at ea
          obtain ⟨rfl, -, rfl⟩ := ea
          have r8 := row_at hrow 8 (by omega)
          simp only [rowDG, List.getElem?_cons_succ, List.getElem?_cons_zero] at r8
          have hsz : d.t.data.size = d.t.size := rfl
          by_cases hs : 1000 < d.t.size
          · have hsI : (1000 : Int) < (d.t.size : Int) := by omega
            simp -implicitDefEqProofs [t1, t5, hlt, hltI, hget, r8, hsz, hs, hsI]
            exact hF _ kk
          · have hsI : ¬ (1000 : Int) < (d.t.size : Int) := by omega
            have w5 : IntKind.i64.wrap ((i : Int) + 1) = (i : Int) + 1 := wrap64 (by omega) (by omega)
            simp -implicitDefEqProofs [t1, t5, hlt, hltI, hget, r8, hsz, hs, hsI, w5]
            refine ⟨l.length - (i + 1), by omega, i + 1, by omega, rfl, by omega, fun j e hj he => ?_⟩
            by_cases hji : j = i
            · subst hji
              rw [hx0] at he
              injection he with he
              subst he
              omega
            · exact hall j e (by omega) he
        · have : i = l.length := by omega
          subst this
          have hltI : ¬ (l.length : Int) < (l.length : Int) := by omega
          simp -implicitDefEqProofs [t1, t5, hltI]
          refine hT _ kk (by omega) (by omega) (by omega) fun d hd => ?_
          obtain ⟨j, hj⟩ := List.getElem?_of_mem hd
          exact hall j d (List.getElem?_eq_some_iff.1 hj).1 hj
end
end Go.Proofs.YtndndcdblfejnaaGreatRI
