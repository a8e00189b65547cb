/- Nodes, and notes under way: deeds. / Nodes, and notes under way: what is in a log was proposed, or is empty. / Nodes, and notes under way: what is in a log was proposed, or is empty (the walk). -/
import Derived.Test.YtpbbjfighohokaaTroJ
import Derived.Test.YtpbbjfighohokaaSeat22
namespace Go.Proofs.YtpbbjfighohokaaI
attribute [local simp] J0 J1 J2 J3 J4 J5 J6 J7 J8 J9 Ja Jb Jc Jd Je Jf Jg Jh Ji Jj Jk Jl Jm Jn Jo Jp Jq Jr Js Jt Ju Jv Jw Jx Jy Jz JA JB JC JD JE JF JG JH JI JJ JK JL JM JN JO JP JQ JR JS stillI IOp.kind JT JU JV JW JX JY JZ Y0 Y1 Y2 Y3 Y4 Y5 Y6 Y7 Y8 Y9 Ya Yb Yc Yd Ye Yf Yg Yh Yi Yj Yk Yl Ym Yn Yo Yp Yq ial Yr Ys Yt Yu Yv Yw Yx Yy ires iresL ires1 Yz YA YB YC YD YE bin2 YF YG YH YI YJ YK YL YM YN YO YP YQ YR YS YT YU un1 shOk eqL eq1 fillL putAt IHeap.load1 IHeap.loadL IHeap.storeL YV YW YX YY YZ B0 B1 B2 B3 B4 B5 B6 B7 B8 B9 Ba Bb Bc Bd Be Bf Bg Bh Bi Bj Bk Bl Bm Bn Bo Bp
set_option linter.unusedSimpArgs false
set_option linter.unusedVariables false
open Go

def Tp.place (S : Tp) (i : Int) : Nat := (atI i S.way.length).toNat
def Tp.doD (S : Tp) (d : DeedT) : Tp × Bool :=
  if d.kind = 0 then (if S.way = [] then (S, false) else (S.arrive (S.place d.a), true))
  else if d.kind = 1 then (if S.way = [] then (S, false) else (S.drop (S.place d.a), true))
  else if d.kind = 2 then (if S.way = [] ∨ S.way.length = 1024 then (S, false) else ((S.way[S.place d.a]?).elim S S.double, true))
  else if d.kind = 3 then (match S.at d.a with
    | none => (S, false)
    | some R => (S.say d.a.toNat R.lead, true))
  else if d.kind = 4 then (match S.at d.a with
    | none => (S, false)
    | some R => if (R.propose d.text).2.2 = 0 then (S.say d.a.toNat ((R.propose d.text).1, (R.propose d.text).2.1), true) else (S, false))
  else if d.kind = 5 then (match S.at d.a, S.at d.b with
    | some R, some _ => (S.say d.a.toNat (R, R.ask d.b), true)
    | _, _ => (S, false))
  else if d.kind = 6 then (match S.at d.a with
    | none => (S, false)
    | some R => (S.say d.a.toNat (R.crash, []), true))
  else (S, false)

section
variable (c : Ctx) (hc : HasTroop c) (hN : NodeC c) (hL : HasLaw22 c) {H : IHeap} {K : Value → IHeap → Prop} {w : Nat → Nat} {t : Nat} {S : Tp} {n : Int}

include hL in
theorem few_ok {v : Value} {l : List DeedT} (hv : SlR H 4 v (l.map rowDT)) (h0 : K (.bool false) H) (h1 : l.length ≤ 200 → (∀ d ∈ l, d.text.size ≤ 100) → K (.bool true) H) :
    c.C (c.F n_hurdlelaw22_few) [v] H K := by
  refine c.enter hL.hurdlelaw22_few rfl ?_
  obtain ⟨va, vc, hve⟩ : ∃ a cap, v = .slice a l.length cap := by obtain ⟨a, cap, e, _⟩ := hv; rw [List.length_map] at e; exact ⟨a, cap, e⟩
  by_cases h60 : l.length ≤ 200
  · have h60' : ¬ (200 : Int) < (l.length : Int) := by omega
    rw [hve]
    simp -implicitDefEqProofs [c_hurdlelaw22_few, h60']
    refine loop_nat c.mono (fun k T H' => ∃ i : Nat, i ≤ l.length ∧ k = l.length - i ∧ T 0 = v ∧ T 3 = .int .i64 i ∧ H = H' ∧ ∀ d ∈ l.take i, d.text.size ≤ 100) l.length ?_ ?_
    · refine ⟨0, by omega, rfl, ?_⟩
      simp -implicitDefEqProofs []
      exact hve.symm
    · rintro k T H' ⟨i, hi, rfl, t0, t3, rfl, hd⟩
      by_cases hil : i < l.length
      · have hil' : (i : Int) < (l.length : Int) := by omega
        have wi : IntKind.i64.wrap ((i : Int) + 1) = (i : Int) + 1 := wrap64 (by omega) (by omega)
        obtain ⟨x, hx⟩ : ∃ x, l[i]? = some x := ⟨l[i], List.getElem?_eq_getElem hil⟩
        obtain ⟨b, o, cap, cs, ro, e, hb, hg, _, hrow, hbd⟩ := hv.at (i := i) (r := rowDT x) (by rw [List.getElem?_map, hx]; rfl)
        rw [List.length_map] at e
        have e3 := row_at hrow 3 (by omega)
        simp only [rowDT, List.getElem?_cons_zero, List.getElem?_cons_succ] at e3
        have ht : x.text.data.toList.length = x.text.size := rfl
        by_cases c1 : 100 < x.text.size
        · have c1' : (100 : Int) < (x.text.size : Int) := by omega
          simp -implicitDefEqProofs [t0, t3, e, hg, hil, hil', hbd, e3, ht, c1, c1']
          exact h0
        · have c1' : ¬ (100 : Int) < (x.text.size : Int) := by omega
          simp -implicitDefEqProofs [t0, t3, e, hg, hil, hil', hbd, e3, ht, c1, c1', wi]
          refine ⟨l.length - (i + 1), by omega, i + 1, by omega, rfl, rfl, fun d hd' => ?_⟩
          rw [List.take_add_one, hx] at hd'
          rcases List.mem_append.1 hd' with hd' | hd'
          · exact hd d hd'
          · simp only [Option.toList_some, List.mem_singleton] at hd'
            subst hd'
            omega
      · have hil' : ¬ (i : Int) < (l.length : Int) := by omega
        simp -implicitDefEqProofs [t0, t3, hve, hil, hil']
        exact h1 h60 (by rw [List.take_of_length_le (by omega)] at hd; exact hd)
  · have h60' : (200 : Int) < (l.length : Int) := by omega
    rw [hve]
    simp -implicitDefEqProofs [c_hurdlelaw22_few, h60']
    exact h0

include hc hN hL in
theorem do_ok {d : DeedT} (h : IsT w H t (c.F n_troop_New_F1) S) (ho : S.ok n) (hK : ∀ H', Tn w H t (c.F n_troop_New_F1) (S.doD d).1 H' → (S.doD d).1.ok n → K (.bool (S.doD d).2) H') :
    c.C (c.F n_hurdlelaw22_do) [.pointer (some ⟨t, 0, none⟩), .agg #[.int .i64 d.kind, .int .i64 d.a, .int .i64 d.b, .string d.text]] H K := by
  refine c.enter hL.hurdlelaw22_do rfl ?_
  obtain ⟨H0, hH0⟩ : ∃ X : IHeap, X = H.alloc (.cells [.int .i64 d.kind, .int .i64 d.a, .int .i64 d.b, .string d.text] false) := ⟨_, rfl⟩
  have k0 : H.le H0 := by rw [hH0]; exact H.le_alloc _
  have b0 : H0.get H.next = some (.cells [.int .i64 d.kind, .int .i64 d.a, .int .i64 d.b, .string d.text] false) := by rw [hH0, YV, if_pos rfl]
  have h' := h.le k0
  have up : ∀ {S' : Tp} {H' : IHeap}, Tn w H0 t (c.F n_troop_New_F1) S' H' → Tn w H t (c.F n_troop_New_F1) S' H' := fun tn => tn.of_le k0 h.lt
  have st := up (Tn.same h')
  unfold Tp.doD at hK
  by_cases e0 : d.kind = 0
  · rw [if_pos e0] at hK
    rw [e0] at b0 hH0
    simp -implicitDefEqProofs [c_hurdlelaw22_do, ← hH0, e0, b0]
    refine call_of (TDeliver_ok c hc hN (i := d.a) h' ho (fun hz H1 tn => ?_) fun a x R ha hx hR H1 tn ok1 => ?_)
    · rw [if_pos hz] at hK
      simp -implicitDefEqProofs []
      exact hK H1 (up tn) ho
    · have hp : S.place d.a = a := by unfold Tp.place; omega
      rw [if_neg (fun hz => by rw [hz] at hx; simp at hx), hp, Tp.arrive_eq hx hR] at hK
      simp -implicitDefEqProofs []
      exact hK H1 (up tn) ok1
  rw [if_neg e0] at hK
  by_cases e1 : d.kind = 1
  · rw [if_pos e1] at hK
    rw [e1] at b0 hH0
    simp -implicitDefEqProofs [c_hurdlelaw22_do, ← hH0, e1, b0]
    refine call_of (TDrop_ok c hc (i := d.a) h' ho (fun hz H1 tn => ?_) fun a x ha hx H1 tn => ?_)
    · rw [if_pos hz] at hK
      simp -implicitDefEqProofs []
      exact hK H1 (up tn) ho
    · have hp : S.place d.a = a := by unfold Tp.place; omega
      rw [if_neg (fun hz => by rw [hz] at hx; simp at hx), hp] at hK
      simp -implicitDefEqProofs []
      exact hK H1 (up tn) (ho.drop a)
  rw [if_neg e1] at hK
  by_cases e2 : d.kind = 2
  · rw [if_pos e2] at hK
    rw [e2] at b0 hH0
    simp -implicitDefEqProofs [c_hurdlelaw22_do, ← hH0, e2, b0]
    refine call_of (TDouble_ok c hc (i := d.a) h' ho (fun hz => ?_) fun a x ha hl hx H1 tn ok1 => ?_)
    · rw [if_pos hz] at hK
      simp -implicitDefEqProofs []
      exact hK H0 st ho
    · have hp : S.place d.a = a := by unfold Tp.place; omega
      rw [if_neg (fun hz => by rcases hz with hz | hz; rw [hz] at hx; simp at hx; omega), hp, hx] at hK
      simp -implicitDefEqProofs []
      exact hK H1 (up tn) ok1
  rw [if_neg e2] at hK
  by_cases e3 : d.kind = 3
  · rw [if_pos e3] at hK
    rw [e3] at b0 hH0
    simp -implicitDefEqProofs [c_hurdlelaw22_do, ← hH0, e3, b0]
    refine call_of (TLead_ok c hc hN (i := d.a) h' ho (fun hz => ?_) fun R hR H1 tn ok1 => ?_)
    · rw [hz] at hK
      simp -implicitDefEqProofs []
      exact hK H0 st ho
    · rw [hR] at hK
      simp -implicitDefEqProofs []
      exact hK H1 (up tn) ok1
  rw [if_neg e3] at hK
  by_cases e4 : d.kind = 4
  · rw [if_pos e4] at hK
    rw [e4] at b0 hH0
    simp -implicitDefEqProofs [c_hurdlelaw22_do, ← hH0, e4, b0]
    refine call_of (TPropose_ok c hc hN (i := d.a) (s := d.text) h' ho (fun hz => ?_) (fun R hR he H1 tn ok1 => ?_) fun R hR he H1 tn => ?_)
    · rw [hz] at hK
      simp -implicitDefEqProofs []
      exact hK H0 st ho
    · rw [hR] at hK
      simp only [he, if_true] at hK
      simp -implicitDefEqProofs []
      exact hK H1 (up tn) ok1
    · rw [hR] at hK
      simp only [he, if_false] at hK
      simp -implicitDefEqProofs [he]
      exact hK H1 (up tn) ho
  rw [if_neg e4] at hK
  by_cases e5 : d.kind = 5
  · rw [if_pos e5] at hK
    rw [e5] at b0 hH0
    simp -implicitDefEqProofs [c_hurdlelaw22_do, ← hH0, e5, b0]
    refine call_of (TAsk_ok c hc hN (i := d.a) (j := d.b) h' ho (fun hz => ?_) fun R Q hR hQ H1 tn ok1 => ?_)
    · have : (match S.at d.a, S.at d.b with | some R, some _ => (S.say d.a.toNat (R, R.ask d.b), true) | _, _ => (S, false)) = (S, false) := by
        rcases hz with hz | hz
        · rw [hz]
        · rw [hz]; cases S.at d.a <;> rfl
      rw [this] at hK
      simp -implicitDefEqProofs []
      exact hK H0 st ho
    · rw [hR, hQ] at hK
      simp -implicitDefEqProofs []
      exact hK H1 (up tn) ok1
  rw [if_neg e5] at hK
  by_cases e6 : d.kind = 6
  · rw [if_pos e6] at hK
    rw [e6] at b0 hH0
    simp -implicitDefEqProofs [c_hurdlelaw22_do, ← hH0, e6, b0]
    refine call_of (TCrash_ok c hc hN (i := d.a) h' ho (fun hz => ?_) fun R hR H1 tn ok1 => ?_)
    · rw [hz] at hK
      simp -implicitDefEqProofs []
      exact hK H0 st ho
    · rw [hR] at hK
      simp -implicitDefEqProofs []
      exact hK H1 (up tn) ok1
  rw [if_neg e6] at hK
  simp -implicitDefEqProofs [c_hurdlelaw22_do, ← hH0, e0, e1, e2, e3, e4, e5, e6, b0]
  exact hK H0 st ho
end
end Go.Proofs.YtpbbjfighohokaaI
namespace Go.Proofs.YtpbbjfighohokaaI
set_option linter.unusedSimpArgs false
set_option linter.unusedVariables false
open Go

def VokR (Q : ByteArray → Prop) (R : Rp) : Prop := (∀ v ∈ R.A.L, Q v.val) ∧ (∀ s v, R.P.best s = some v → Q v.val) ∧ ∀ s x, R.L.told s = some x → Q x
def VokN (Q : ByteArray → Prop) (l : List NoteD) : Prop := ∀ y ∈ l, ∀ v ∈ y.votes, Q v.val
def VokT (Q : ByteArray → Prop) (S : Tp) : Prop := (∀ R ∈ S.R, VokR Q R) ∧ VokN Q S.way
section
variable {Q : ByteArray → Prop} (h0 : Q noS)
theorem vokN_nil : VokN Q [] := by intro y hy; cases hy
theorem vokN_all {R : Rp} {x : NoteD} (h : ∀ v ∈ x.votes, Q v.val) : VokN Q (allN R x) := fun y hy => by
  obtain ⟨i, _, rfl⟩ := allN_mem hy
  exact h
theorem acc_promise_L (A : Acc) (a n s : Int) : (A.promise a n s).1.L = A.L := by
  unfold Acc.promise; split <;> rfl
theorem acc_promise_out {A : Acc} {a n s : Int} {v : VoteD} (h : v ∈ (A.promise a n s).2.1) : v ∈ A.L := by
  unfold Acc.promise at h
  split at h
  · cases h
  · exact (List.mem_filter.1 h).1
theorem acc_accept_L {A : Acc} {v w : VoteD} (h : w ∈ (A.accept v).1.L) : w ∈ A.L ∨ w = v := by
  unfold Acc.accept at h
  split at h
  · exact .inl h
  · unfold putV at h
    simp only [List.mem_append, List.mem_filter, List.mem_cons] at h
    rcases h with h | h | h
    · exact .inl h.1
    · exact .inr h
    · exact .inl h.1
theorem step_best (P : Pro) (a n : Int) : (P.step a n).1.best = P.best := by
  unfold Pro.step; split <;> rfl
theorem count_best {P : Pro} {w : VoteD} (h : ∀ s v, P.best s = some v → Q v.val) (hw : Q w.val) : ∀ s v, (P.count w).best s = some v → Q v.val := by
  unfold Pro.count
  split
  · split
    · intro s v hs
      simp only [Pro.setBest, Pro.setNext] at hs
      split at hs
      · injection hs with hs; rw [← hs]; exact hw
      · exact h s v hs
    · exact h
  · exact h
theorem counts_best : ∀ (l : List VoteD) (P : Pro), (∀ s v, P.best s = some v → Q v.val) → (∀ w ∈ l, Q w.val) → ∀ s v, (l.foldl Pro.count P).best s = some v → Q v.val
  | [], _, h, _ => h
  | w :: l, P, h, hw => counts_best l _ (count_best h (hw w (by simp))) fun x hx => hw x (by simp [hx])
theorem promise_best {P : Pro} {fr a n : Int} {l : List VoteD} (h : ∀ s v, P.best s = some v → Q v.val) (hl : ∀ w ∈ l, Q w.val) : ∀ s v, (P.promise fr a n l).1.best s = some v → Q v.val := by
  unfold Pro.promise
  split
  · exact h
  split
  · exact counts_best l _ h hl
  · exact counts_best l (P.setWho fr.toNat) h hl
include h0 in
theorem filledL_val {P : Pro} (h : ∀ s v, P.best s = some v → Q v.val) : ∀ (k : Nat) (s : Int), ∀ v ∈ filledL P s k, Q v.val
  | 0, _, v, hv => by cases hv
  | k + 1, s, v, hv => by
    simp only [filledL, List.mem_cons] at hv
    rcases hv with rfl | hv
    · show Q (valOf (P.best s))
      cases hb : P.best s with
      | none => exact h0
      | some w => exact h s w hb
    · exact filledL_val h k (s + 1) v hv
theorem tell_told {L : Lr} {s : Int} {x : ByteArray} (h : ∀ s x, L.told s = some x → Q x) (hx : Q x) : ∀ t y, (L.tell s x).told t = some y → Q y := by
  intro t y ht
  simp only [Lr.tell] at ht
  split at ht
  · injection ht with ht; rw [← ht]; exact hx
  · exact h t y ht
theorem hear_told {L : Lr} {fr : Int} {v : VoteD} (h : ∀ s x, L.told s = some x → Q x) (hv : Q v.val) : ∀ t y, (L.hear fr v).1.told t = some y → Q y := by
  unfold Lr.hear
  split
  · split
    · exact h
    · exact tell_told (L := L.vote fr v) h hv
  · exact h
theorem tells_told : ∀ (l : List VoteD) (L : Lr), (∀ s x, L.told s = some x → Q x) → (∀ v ∈ l, Q v.val) → ∀ t y, (tells L l).told t = some y → Q y
  | [], _, h, _ => h
  | v :: l, L, h, hv => by
    unfold tells
    rw [List.foldl_cons]
    have := tells_told l (if mayB L v.slot v.val = true then L.tell v.slot v.val else L) (by split; exact tell_told h (hv v (by simp)); exact h) fun x hx => hv x (by simp [hx])
    exact this
include h0 in
theorem logL_val {L : Lr} (h : ∀ s x, L.told s = some x → Q x) (u : Int) : ∀ x ∈ logL L u, Q x := by
  intro x hx
  unfold logL at hx
  obtain ⟨i, _, rfl⟩ := List.mem_map.1 hx
  cases ht : L.told ((if u < L.base then L.base else u) + i) with
  | none => exact h0
  | some y => exact h _ y ht
theorem votesFrom_val (s : Int) : ∀ (l : List ByteArray) (i : Nat), ∀ v ∈ votesFrom s i l, v.val ∈ l
  | [], _, v, hv => by cases hv
  | x :: l, i, v, hv => by
    simp only [votesFrom, List.mem_cons] at hv
    rcases hv with rfl | hv
    · simp
    · simp [votesFrom_val s l (i + 1) v hv]
include h0 in
theorem tellE_told : ∀ (k : Nat) (L : Lr), (∀ s x, L.told s = some x → Q x) → ∀ t y, (tellE L k).told t = some y → Q y
  | 0, _, h => h
  | k + 1, L, h => by
    simp only [tellE]
    have ih := tellE_told k L h
    split
    · exact tell_told ih h0
    · exact ih
theorem headV_mem {l : List VoteD} (h : l.length = 1) : headV l ∈ l := by
  obtain ⟨v, rfl⟩ := List.length_eq_one_iff.1 h
  simp [headV]

include h0 in
theorem vok_take {R : Rp} {x : NoteD} (h : VokR Q R) (hx : ∀ v ∈ x.votes, Q v.val) : VokR Q (R.take x).1 ∧ VokN Q (R.take x).2 := by
  obtain ⟨h1, h2, h3⟩ := h
  have hstep : ∀ (a n : Int), ∀ s v, (R.P.step a n).1.best s = some v → Q v.val := fun a n => by rw [step_best]; exact h2
  unfold Rp.take
  split
  · exact ⟨⟨h1, h2, h3⟩, vokN_nil⟩
  split
  · unfold Rp.prepare
    split
    · exact ⟨⟨h1, hstep _ _, h3⟩, vokN_nil⟩
    split
    · exact ⟨⟨by show ∀ v ∈ (R.A.promise _ _ _).1.L, _; rw [acc_promise_L]; exact h1, hstep _ _, h3⟩, vokN_nil⟩
    · refine ⟨⟨by show ∀ v ∈ (R.A.promise _ _ _).1.L, _; rw [acc_promise_L]; exact h1, hstep _ _, h3⟩, fun y hy v hv => ?_⟩
      simp only [List.mem_singleton] at hy
      subst hy
      exact h1 v (acc_promise_out hv)
  split
  · have hp := promise_best (fr := x.fr) (a := x.ba) (n := x.bn) (l := x.votes) h2 hx
    unfold Rp.promise
    split
    · exact ⟨⟨h1, hp, h3⟩, vokN_nil⟩
    split
    · exact ⟨⟨h1, hp, h3⟩, vokN_nil⟩
    · refine ⟨⟨h1, hp, h3⟩, fun y hy v hv => ?_⟩
      obtain ⟨u, hu, hy⟩ := List.mem_flatMap.1 hy
      obtain ⟨i, _, rfl⟩ := allN_mem hy
      simp only [voteN, List.mem_singleton] at hv
      subst hv
      exact filledL_val h0 hp _ _ v hu
  split
  · rename_i hk
    have hv := hx _ (headV_mem hk.2)
    unfold Rp.accept
    refine ⟨⟨fun w hw => ?_, hstep _ _, h3⟩, ?_⟩
    · rcases acc_accept_L hw with hw | rfl
      · exact h1 w hw
      · exact hv
    · show VokN Q (if (R.A.accept (headV x.votes)).2 then allN R (voteN 4 (headV x.votes)) else [])
      split
      · exact vokN_all (by intro w hw; simp only [voteN, List.mem_singleton] at hw; subst hw; exact hv)
      · exact vokN_nil
  split
  · rename_i hk
    exact ⟨⟨h1, h2, hear_told h3 (hx _ (headV_mem hk.2))⟩, vokN_nil⟩
  split
  · refine ⟨⟨h1, h2, h3⟩, ?_⟩
    unfold Rp.tell
    split
    · exact vokN_nil
    split
    · exact vokN_nil
    · intro y hy v hv
      simp only [List.mem_singleton] at hy
      subst hy
      have := votesFrom_val _ _ _ v (show v ∈ tellN R x from hv)
      exact logL_val h0 h3 _ _ (List.mem_of_mem_take this)
  split
  · exact ⟨⟨h1, h2, tells_told _ _ h3 hx⟩, vokN_nil⟩
  · exact ⟨⟨h1, h2, h3⟩, vokN_nil⟩
theorem vok_lead {R : Rp} (h : VokR Q R) : VokR Q R.lead.1 ∧ VokN Q R.lead.2 := by
  obtain ⟨h1, h2, h3⟩ := h
  unfold Rp.lead
  split
  · exact ⟨⟨h1, h2, h3⟩, vokN_nil⟩
  · refine ⟨⟨by show ∀ v ∈ (R.A.promise _ _ _).1.L, _; rw [acc_promise_L]; exact h1, ?_, h3⟩, vokN_all (by intro v hv; simp [prepN] at hv)⟩
    show ∀ s v, (R.P.lead _ _ _).1.best s = some v → Q v.val
    unfold Pro.lead
    split
    · exact h2
    split
    · exact h2
    · intro s v hs; cases hs
theorem vok_propose {R : Rp} {s : ByteArray} (h : VokR Q R) (hs : (R.propose s).2.2 = 0 → Q s) : VokR Q (R.propose s).1 ∧ VokN Q (R.propose s).2.1 := by
  obtain ⟨h1, h2, h3⟩ := h
  unfold Rp.propose at hs ⊢
  split
  · exact ⟨⟨h1, h2, h3⟩, vokN_nil⟩
  · rename_i he
    rw [if_neg he] at hs
    have he' : (R.P.propose s).2 = 0 := Classical.byContradiction he
    refine ⟨⟨h1, ?_, h3⟩, vokN_all (by
      intro v hv
      simp only [voteN, List.mem_singleton] at hv
      subst hv
      unfold Pro.proposeV
      rw [if_pos he']
      exact hs rfl)⟩
    show ∀ t v, (R.P.propose s).1.best t = some v → Q v.val
    have : (R.P.propose s).1.best = R.P.best := by unfold Pro.propose; (repeat' split) <;> rfl
    rw [this]; exact h2
theorem vok_ask {R : Rp} (i : Int) : VokN Q (R.ask i) := by
  unfold Rp.ask
  split
  · intro y hy v hv
    simp only [List.mem_singleton] at hy
    subst hy
    simp [askN] at hv
  · exact vokN_nil
include h0 in
theorem vok_crash {R : Rp} (h : VokR Q R) : VokR Q R.crash := by
  refine ⟨h.1, fun s v hs => (by cases hs), fun s x hs => ?_⟩
  have hs : ((tellE ⟨R.n, 0, fun _ => none, fun _ => none⟩ R.A.base.toNat).trim (trimTo (tellE ⟨R.n, 0, fun _ => none, fun _ => none⟩ R.A.base.toNat) R.A.base)).told s = some x := hs
  simp only [Lr.trim] at hs
  split at hs
  · cases hs
  · exact tellE_told h0 _ _ (fun s x hs => (by cases hs)) s x hs
theorem vok_say {S : Tp} {i : Nat} {r : Rp × List NoteD} (h : VokT Q S) (h1 : VokR Q r.1) (h2 : VokN Q r.2) : VokT Q (S.say i r) := by
  refine ⟨fun R hR => ?_, fun y hy => ?_⟩
  · rcases List.mem_or_eq_of_mem_set hR with hR | rfl
    · exact h.1 R hR
    · exact h1
  · rcases List.mem_append.1 (show y ∈ S.way ++ _ from hy) with hy | hy
    · exact h.2 y hy
    · exact h2 y (List.mem_of_mem_take hy)
theorem vok_drop {S : Tp} (h : VokT Q S) (a : Nat) : VokT Q (S.drop a) := ⟨h.1, fun y hy => h.2 y (List.mem_of_mem_eraseIdx hy)⟩
theorem Tp.at_mem {S : Tp} {i : Int} {R : Rp} (h : S.at i = some R) : R ∈ S.R := List.mem_of_getElem? (Tp.at_some h).2.2

include h0 in
theorem vok_do {S : Tp} {d : DeedT} (h : VokT Q S) (hd : (S.doD d).2 = true → d.kind = 4 → Q d.text) : VokT Q (S.doD d).1 := by
  unfold Tp.doD at hd ⊢
  split
  · split
    · exact h
    · show VokT Q (S.arrive (S.place d.a))
      unfold Tp.arrive
      split
      · exact h
      · rename_i x hx
        split
        · exact h
        · rename_i R hR
          have := vok_take h0 (h.1 R (List.mem_of_getElem? hR)) (h.2 x (List.mem_of_getElem? hx))
          exact vok_say (vok_drop h _) this.1 this.2
  split
  · split
    · exact h
    · exact vok_drop h _
  split
  · split
    · exact h
    · show VokT Q ((S.way[S.place d.a]?).elim S S.double)
      cases hx : S.way[S.place d.a]? with
      | none => exact h
      | some x =>
        refine ⟨h.1, fun y hy => ?_⟩
        rcases List.mem_append.1 (show y ∈ S.way ++ [x] from hy) with hy | hy
        · exact h.2 y hy
        · rw [List.mem_singleton.1 hy]; exact h.2 x (List.mem_of_getElem? hx)
  split
  · split
    · exact h
    · rename_i R hR
      have := vok_lead (h.1 R (Tp.at_mem hR))
      exact vok_say h this.1 this.2
  split
  · rename_i e0 e1 e2 e3 e4
    rw [if_neg e0, if_neg e1, if_neg e2, if_neg e3, if_pos e4] at hd
    split
    · exact h
    · rename_i R hR
      rw [hR] at hd
      split
      · rename_i he
        simp only [he, if_true] at hd
        have := vok_propose (s := d.text) (h.1 R (Tp.at_mem hR)) fun _ => hd trivial e4
        exact vok_say h this.1 this.2
      · exact h
  split
  · split
    · rename_i R Q' hR hQ
      exact vok_say h (h.1 R (Tp.at_mem hR)) (vok_ask _)
    · exact h
  split
  · split
    · exact h
    · rename_i R hR
      exact vok_say h (vok_crash h0 (h.1 R (Tp.at_mem hR))) vokN_nil
  · exact h
end
theorem VokT.mono {Q Q' : ByteArray → Prop} {S : Tp} (h : VokT Q S) (k : ∀ x, Q x → Q' x) : VokT Q' S :=
  ⟨fun R hR => ⟨fun v hv => k _ ((h.1 R hR).1 v hv), fun s v hs => k _ ((h.1 R hR).2.1 s v hs), fun s x hs => k _ ((h.1 R hR).2.2 s x hs)⟩, fun y hy v hv => k _ (h.2 y hy v hv)⟩
theorem vok_new {Q : ByteArray → Prop} (n : Int) : VokT Q (Tp.new n) := by
  refine ⟨fun R hR => ?_, by intro y hy; cases hy⟩
  obtain ⟨i, _, rfl⟩ := List.mem_map.1 hR
  refine ⟨(by intro v hv; cases hv), (by intro s v hs; cases hs), (by intro s x hs; cases hs)⟩
end Go.Proofs.YtpbbjfighohokaaI
namespace Go.Proofs.YtpbbjfighohokaaI
attribute [local simp] J0 J1 J2 J3 J4 J5 J6 J7 J8 J9 Ja Jb Jc Jd Je Jf Jg Jh Ji Jj Jk Jl Jm Jn Jo Jp Jq Jr Js Jt Ju Jv Jw Jx Jy Jz JA JB JC JD JE JF JG JH JI JJ JK JL JM JN JO JP JQ JR JS stillI IOp.kind JT JU JV JW JX JY JZ Y0 Y1 Y2 Y3 Y4 Y5 Y6 Y7 Y8 Y9 Ya Yb Yc Yd Ye Yf Yg Yh Yi Yj Yk Yl Ym Yn Yo Yp Yq ial Yr Ys Yt Yu Yv Yw Yx Yy ires iresL ires1 Yz YA YB YC YD YE bin2 YF YG YH YI YJ YK YL YM YN YO YP YQ YR YS YT YU un1 shOk eqL eq1 fillL putAt IHeap.load1 IHeap.loadL IHeap.storeL YV YW YX YY YZ B0 B1 B2 B3 B4 B5 B6 B7 B8 B9 Ba Bb Bc Bd Be Bf Bg Bh Bi Bj Bk Bl Bm Bn Bo Bp
set_option linter.unusedSimpArgs false
set_option linter.unusedVariables false
open Go

def row1 (x : ByteArray) : List Value := [.string x]
def ValI (n : Int) (t : Nat) (g : FuncId) (H : IHeap) (i : Nat) (wv : Value) (H' : IHeap) : Prop :=
  ∃ (w : Nat → Nat) (S : Tp) (sd : List ByteArray) (o : Option Nat), H.le H' ∧ (∀ b, w b ≠ 0 → H.next ≤ b) ∧ IsT w H' t g S ∧ S.ok n ∧ GrowAt o H' 1 wv (sd.map row1) ∧ (∀ b, o = some b → w b = 0 ∧ H.next ≤ b) ∧ VokT (fun x => x = noS ∨ x ∈ sd) S ∧ sd.length ≤ i
theorem deed_row {H : IHeap} {v : Value} {l : List DeedT} (hv : SlR H 4 v (l.map rowDT)) {i : Nat} {d : DeedT} (hd : l[i]? = some d) :
    ∃ b o cap cs ro, v = .slice (some ⟨b, o, none⟩) l.length cap ∧ b < H.next ∧ H.get b = some (.cells cs ro) ∧ (cs.drop (o + i * 4)).take 4 = [.int .i64 d.kind, .int .i64 d.a, .int .i64 d.b, .string d.text] ∧ o + i * 4 + 4 ≤ cs.length ∧
      cs[o + i * 4]? = some (.int .i64 d.kind) ∧ cs[o + i * 4 + 3]? = some (.string d.text) := by
  obtain ⟨b, o, cap, cs, ro, e, hb, hg, _, hrow, hbd⟩ := hv.at (i := i) (r := rowDT d) (by rw [List.getElem?_map, hd]; rfl)
  rw [List.length_map] at e
  have e0 := row_at hrow 0 (by omega)
  have e3 := row_at hrow 3 (by omega)
  exact ⟨b, o, cap, cs, ro, e, hb, hg, hrow, hbd, e0, e3⟩

def thB (x : ByteArray) (sd : List ByteArray) (j : Nat) : Bool := decide (x.data = #[]) || (sd.take j).any fun y => decide (y.data = x.data)
theorem thB_zero (x : ByteArray) (sd : List ByteArray) : thB x sd 0 = decide (x.data = #[]) := by unfold thB; simp
theorem thB_succ {x y : ByteArray} {sd : List ByteArray} {j : Nat} (hy : sd[j]? = some y) : thB x sd (j + 1) = (thB x sd j || decide (y.data = x.data)) := by
  unfold thB
  rw [List.take_add_one, hy, List.any_append, Bool.or_assoc]
  simp

section
variable (c : Ctx) (hc : HasTroop c) (hN : NodeC c) (hL : HasLaw22 c) {H : IHeap} {K : Value → IHeap → Prop}

include hc hN hL in
theorem valid_ok22 (hW : ∀ H K, (∀ H', K (.bool true) H') → c.C (c.F n_hurdlelaw22_awake) [] H K) {n : Int} {v : Value} {l : List DeedT} (hv : SlR H 4 v (l.map rowDT)) (hK : ∀ H', K (.bool true) H') :
    c.C (c.F n_hurdlelaw22_TroopValid) [.int .i64 n, v] H K := by
  refine c.enter hL.hurdlelaw22_TroopValid rfl ?_
  obtain ⟨va, vc, hve⟩ : ∃ a cap, v = .slice a l.length cap := by obtain ⟨a, cap, e, _⟩ := hv; rw [List.length_map] at e; exact ⟨a, cap, e⟩
  simp -implicitDefEqProofs [c_hurdlelaw22_TroopValid]
  refine call_of (few_ok c hL hv ?_ fun h200 htx => ?_)
  · simp -implicitDefEqProofs []
    refine call_of (hW _ _ fun H' => ?_)
    simp -implicitDefEqProofs []
    exact hK _
  · simp -implicitDefEqProofs []
    refine call_of (refQuorum_ok c hN.bb ?_)
    by_cases hq : quorumI n = 0
    · simp -implicitDefEqProofs [hq]
      refine call_of (hW _ _ fun H' => ?_)
      simp -implicitDefEqProofs []
      exact hK _
    · simp -implicitDefEqProofs [hq]
      refine call_of (TNew_ok c hc hN (fun h => absurd h hq) fun _ t w0 H1 k1 hw0 i1 => ?_)
      have hqn := quorumI_ne hq
      simp -implicitDefEqProofs []
      refine loop_nat c.mono (fun k T H' => ∃ i : Nat, i ≤ l.length ∧ k = l.length - i ∧ T 0 = .int .i64 n ∧ T 1 = v ∧ T 5 = .pointer (some ⟨t, 0, none⟩) ∧ T 7 = .int .i64 i ∧ ValI n t (c.F n_troop_New_F1) H i (T 6) H') l.length ?_ ?_
      · refine ⟨0, by omega, rfl, ?_⟩
        simp -implicitDefEqProofs []
        exact ⟨w0, Tp.new n, [], none, k1, hw0, i1, .new hq, ⟨rfl, rfl⟩, by simp, vok_new n, by simp⟩
      · rintro k T H' ⟨i, hi, rfl, t0, t1, t5, t7, w, S, sd, o, hle, hw, hS, ho, hgr, hO, hvk, hsd⟩
        obtain ⟨wv, t6⟩ : ∃ wv, T 6 = wv := ⟨_, rfl⟩
        rw [t6] at hgr
        by_cases hil : i < l.length
        · have hil' : (i : Int) < (l.length : Int) := by omega
          have wi : IntKind.i64.wrap ((i : Int) + 1) = (i : Int) + 1 := wrap64 (by omega) (by omega)
          obtain ⟨d, hd⟩ : ∃ d, l[i]? = some d := ⟨l[i], List.getElem?_eq_getElem hil⟩
          obtain ⟨b, oo, cap, cs, ro, e, hb, hg0, hrow, hbd, e0, e3⟩ := deed_row hv hd
          have hg := (hle.get b hb).trans hg0
          simp -implicitDefEqProofs [t0, t1, t5, t6, t7, e, hil, hil', hg, hrow, hbd]
          refine call_of (do_ok c hc hN hL (d := d) hS ho fun H2 tn ok2 => ?_)
          obtain ⟨w2, p1, p2, p3, p4⟩ := tn
          have n2 := p1.next
          have hle2 : H.le H2 := ⟨by have := hle.next; omega, fun x hx => (p1.get x (by have := hle.next; omega) fun hh => by have := hw x hh; omega).trans (hle.get x hx)⟩
          have hg2 := (hle2.get b hb).trans hg0
          have hob : ∀ x, o = some x → x < H'.next := fun x hx => by subst hx; exact hgr.1
          have gr2 : GrowAt o H2 1 wv (sd.map row1) := hgr.fr p1 fun x hx => by have := (hO x hx).1; omega
          have hO2 : ∀ x, o = some x → w2 x = 0 ∧ H.next ≤ x := fun x hx => ⟨Classical.byContradiction fun hh => by rcases p2 x hh with z | z; exact z (hO x hx).1; have := hob x hx; omega, (hO x hx).2⟩
          have hw2 : ∀ x, w2 x ≠ 0 → H.next ≤ x := fun x hx => (p2 x hx).elim (hw x) fun z => by have := hle.next; omega
          obtain ⟨b1, hb1⟩ : ∃ b1, b1 = (S.doD d).2 := ⟨_, rfl⟩
          obtain ⟨S2, hS2⟩ : ∃ S2, S2 = (S.doD d).1 := ⟨_, rfl⟩
          have hvk2 : ∀ Q : ByteArray → Prop, (∀ x, x = noS ∨ x ∈ sd → Q x) → Q noS → ((S.doD d).2 = true → d.kind = 4 → Q d.text) → VokT Q S2 := fun Q q1 q2 q3 => by rw [hS2]; exact vok_do q2 (hvk.mono q1) q3
          rw [← hb1] at hvk2 ⊢
          rw [← hS2] at p4 ok2
          cases b1 with
          | false =>
            simp -implicitDefEqProofs [t0, t1, t5, t6, t7, wi]
            exact ⟨l.length - (i + 1), by omega, i + 1, by omega, rfl, e, rfl, w2, S2, sd, o, hle2, hw2, p4, ok2, gr2, hO2, hvk2 _ (fun x h => h) (.inl rfl) (fun h => by cases h), by omega⟩
          | true =>
            by_cases h4 : d.kind = 4
            · obtain ⟨H3, hH3⟩ : ∃ X : IHeap, X = H2.alloc (.cells [.string d.text] false) := ⟨_, rfl⟩
              have k3 : H2.le H3 := by rw [hH3]; exact H2.le_alloc _
              have n3 : H3.next = H2.next + 1 := by rw [hH3]; rfl
              have x3 : H3.get H2.next = some (.cells [.string d.text] false) := by rw [hH3, YV, if_pos rfl]
              have fB : firstI H3 1 1 (.slice (some ⟨H2.next, 0, none⟩) 1 1) = some [.string d.text] := by simp [firstI, IHeap.loadL, x3]
              obtain ⟨wv', H4, o', a1, a2, a3, a4⟩ := (gr2.fr (k3.fr fun _ => False) fun _ _ h => h).append (bytes := 16) (new := [row1 d.text]) (by omega) (by omega) (by rw [List.length_map, List.length_singleton]; omega) (by rw [List.length_map, List.length_singleton]; omega) (by simp [row1]) rfl
              simp only [List.length_singleton, List.flatten_singleton, row1] at a1
              have n4 := a3.next
              have hle3 := hle2.next
              rcases a4 with ⟨_, a4⟩ | ⟨q, a4, a5, _⟩
              · cases a4
              · have i4 : IsT w2 H4 t (c.F n_troop_New_F1) S2 := (p4.le k3).fr a3 fun x hx hh => hx (hO2 x hh).1
                have hle4 : H.le H4 := ⟨by omega, fun x hx => (a3.get x (by omega) fun hh => by have := (hO2 x hh).2; omega).trans ((k3.get x (by omega)).trans (hle2.get x hx))⟩
                have hO4 : ∀ x, o' = some x → w2 x = 0 ∧ H.next ≤ x := fun x hx => by
                  rw [a4] at hx
                  injection hx with hx
                  subst hx
                  exact ⟨Classical.byContradiction fun hh => by have := p4.lt _ hh; omega, by omega⟩
                have hvk4 : VokT (fun x => x = noS ∨ x ∈ sd ++ [d.text]) S2 := hvk2 _ (fun x h => h.imp id fun h => List.mem_append.2 (.inl h)) (.inl rfl) fun _ _ => .inr (by simp)
                have gr4 : GrowAt o' H4 1 wv' ((sd ++ [d.text]).map row1) := by rw [List.map_append]; exact a2
                rw [h4] at e0
                simp -implicitDefEqProofs [t0, t1, t5, t6, t7, e, hil, hil', hg2, hbd, e0, e3, h4, ← hH3, lenOfI, fB, a1, wi]
                exact ⟨l.length - (i + 1), by omega, i + 1, by omega, rfl, rfl, w2, S2, sd ++ [d.text], o', hle4, hw2, i4, ok2, gr4, hO4, hvk4, by rw [List.length_append, List.length_singleton]; omega⟩
            · simp -implicitDefEqProofs [t0, t1, t5, t6, t7, e, hil, hil', hg2, hbd, e0, h4, wi]
              exact ⟨l.length - (i + 1), by omega, i + 1, by omega, rfl, rfl, w2, S2, sd, o, hle2, hw2, p4, ok2, gr2, hO2, hvk2 _ (fun x h => h) (.inl rfl) (fun _ h => absurd h h4), by omega⟩
        · have hil' : ¬ (i : Int) < (l.length : Int) := by omega
          simp -implicitDefEqProofs [t0, t1, t5, t6, t7, hve, hil, hil']
          have hlen := ho.len
          refine loop_nat c.mono (fun m T HX => ∃ k : Nat, (k : Int) ≤ n ∧ m = n.toNat - k ∧ T 0 = .int .i64 n ∧ T 5 = .pointer (some ⟨t, 0, none⟩) ∧ T 6 = wv ∧ T 8 = .int .i64 k ∧ H'.le HX) n.toNat ?_ ?_
          · refine ⟨0, by omega, by omega, ?_⟩
            simp -implicitDefEqProofs [t0, t1, t5, t6, t7]
            exact IHeap.le_refl _
          · rintro m T HX ⟨k, hk, rfl, t0, t5, t6, t8, kX⟩
            have iX := hS.le kX
            have gX : GrowAt o HX 1 wv (sd.map row1) := hgr.fr (kX.fr fun _ => False) fun _ _ h => h
            by_cases hkl : (k : Int) < n
            · have wk : IntKind.i64.wrap ((k : Int) + 1) = (k : Int) + 1 := wrap64 (by omega) (by omega)
              obtain ⟨R, hR⟩ : ∃ R, S.at k = some R := by
                unfold Tp.at
                rw [if_pos (by omega), Int.toNat_natCast, List.getElem?_eq_getElem (by omega)]
                exact ⟨_, rfl⟩
              simp -implicitDefEqProofs [t0, t5, t6, t8, hkl]
              refine call_of (TLog_ok c hc hN iX (fun h => by rw [h] at hR; cases hR) fun R' hR' v9 HY kY gY => ?_)
              rw [hR] at hR'
              injection hR' with hR'
              subst hR'
              obtain ⟨lg, hlg⟩ : ∃ lg, lg = logL R.L 0 := ⟨_, rfl⟩
              have hQ : ∀ x ∈ lg, x = noS ∨ x ∈ sd := by rw [hlg]; exact logL_val (.inl rfl) (hvk.1 R (Tp.at_mem hR)).2.2 0
              have hlgl : lg.length ≤ 1024 := by
                obtain ⟨lb, cap, wv9, fv, p, cs, ro, e1, e2, e3, e4, e5⟩ := iX.node (Tp.at_some hR).2.2
                rw [hlg]; exact logL_len e5.lok 0
              rw [← hlg] at gY
              have gYs := gY.slr
              have gO : GrowAt o HY 1 wv (sd.map row1) := gX.fr (kY.fr fun _ => False) fun _ _ h => h
              have gOs := (gO.grow (N := 0) fun _ _ => Nat.zero_le _).slr
              obtain ⟨ga, gc, hge⟩ := gY.len
              obtain ⟨sa, sc, hse⟩ := (gO.grow (N := 0) fun _ _ => Nat.zero_le _).len
              rw [List.length_map] at hge hse
              simp -implicitDefEqProofs [t0, t5, t6, t8]
              refine loop_nat c.mono (fun m T HZ => ∃ i : Nat, i ≤ lg.length ∧ m = lg.length - i ∧ T 0 = .int .i64 n ∧ T 5 = .pointer (some ⟨t, 0, none⟩) ∧ T 6 = wv ∧ T 8 = .int .i64 k ∧ T 9 = v9 ∧ T 10 = .int .i64 i ∧ HY = HZ) lg.length ?_ ?_
              · refine ⟨0, by omega, rfl, ?_⟩
                simp -implicitDefEqProofs [t0, t5, t6, t8]
                done
              · rintro m T HZ ⟨i, hi, rfl, t0, t5, t6, t8, t9, t10, rfl⟩
                by_cases hig : i < lg.length
                · have hig' : (i : Int) < (lg.length : Int) := by omega
                  have wi : IntKind.i64.wrap ((i : Int) + 1) = (i : Int) + 1 := wrap64 (by omega) (by omega)
                  obtain ⟨x, hx⟩ : ∃ x, lg[i]? = some x := ⟨lg[i], List.getElem?_eq_getElem hig⟩
                  have hQx := hQ x (List.mem_of_getElem? hx)
                  obtain ⟨b7, o7, cp7, cs7, ro7, e7, hb7, hg7, hat7⟩ := gYs.at1 (i := i) (x := .string x) (by rw [List.getElem?_map, hx]; rfl)
                  rw [List.length_map] at e7
                  simp -implicitDefEqProofs [t0, t5, t6, t8, t9, t10, e7, hig, hig', hg7, hat7, str2]
                  rw [← thB_zero x sd]
                  refine loop_nat c.mono (fun m T HZ => ∃ j : Nat, j ≤ sd.length ∧ m = sd.length - j ∧ T 0 = .int .i64 n ∧ T 5 = .pointer (some ⟨t, 0, none⟩) ∧ T 6 = wv ∧ T 8 = .int .i64 k ∧ T 9 = v9 ∧ T 10 = .int .i64 i ∧ T 11 = .bool (thB x sd j) ∧ T 12 = .int .i64 j ∧ HY = HZ) sd.length ?_ ?_
                  · refine ⟨0, by omega, rfl, ?_⟩
                    simp -implicitDefEqProofs [t0, t5, t6, t8, t9, t10]
                    done
                  · rintro m T HZ ⟨j, hj, rfl, t0, t5, t6, t8, t9, t10, t11, t12, rfl⟩
                    by_cases hjs : j < sd.length
                    · have hjs' : (j : Int) < (sd.length : Int) := by omega
                      have wj : IntKind.i64.wrap ((j : Int) + 1) = (j : Int) + 1 := wrap64 (by omega) (by omega)
                      obtain ⟨y, hy⟩ : ∃ y, sd[j]? = some y := ⟨sd[j], List.getElem?_eq_getElem hjs⟩
                      obtain ⟨b8, o8, cp8, cs8, ro8, e8, hb8, hg8, hat8⟩ := gOs.at1 (i := j) (x := .string y) (by rw [List.getElem?_map, hy]; rfl)
                      rw [List.length_map] at e8
                      have hth := thB_succ (x := x) hy
                      cases hb : thB x sd j with
                      | true =>
                        rw [hb, Bool.true_or] at hth
                        rw [hb] at t11
                        simp -implicitDefEqProofs [t0, t5, t6, t8, t9, t10, t11, t12, e8, e7, hjs, hjs', hig, hig', hg7, hat7, hg8, hat8, str2, wj]
                        exact ⟨sd.length - (j + 1), by omega, j + 1, by omega, rfl, hth, rfl⟩
                      | false =>
                        rw [hb, Bool.false_or] at hth
                        rw [hb] at t11
                        simp -implicitDefEqProofs [t0, t5, t6, t8, t9, t10, t11, t12, e8, e7, hjs, hjs', hig, hig', hg7, hat7, hg8, hat8, str2, wj]
                        exact ⟨sd.length - (j + 1), by omega, j + 1, by omega, rfl, hth.symm, rfl⟩
                    · have hjs' : ¬ (j : Int) < (sd.length : Int) := by omega
                      have hje : j = sd.length := by omega
                      subst hje
                      have hth : thB x sd sd.length = true := by
                        unfold thB
                        rw [List.take_length, Bool.or_eq_true]
                        rcases hQx with h | h
                        · left; rw [h]; rfl
                        · right; rw [List.any_eq_true]; exact ⟨x, h, by simp⟩
                      rw [hth] at t11
                      simp -implicitDefEqProofs [t0, t5, t6, t8, t9, t10, t11, t12, hse, hjs, hjs', wi]
                      exact ⟨lg.length - (i + 1), by omega, i + 1, by omega, rfl, e7, rfl⟩
                · have hig' : ¬ (i : Int) < (lg.length : Int) := by omega
                  simp -implicitDefEqProofs [t0, t5, t6, t8, t9, t10, hge, hig, hig', wk]
                  exact ⟨n.toNat - (k + 1), by omega, k + 1, by omega, rfl, rfl, kX.trans kY⟩
            · have hkl' : k = n.toNat := by omega
              simp -implicitDefEqProofs [t0, t5, t6, t8, hkl]
              refine call_of (hW _ _ fun H' => ?_)
              simp -implicitDefEqProofs []
              exact hK _
end
end Go.Proofs.YtpbbjfighohokaaI
