/- Nodes, and notes under way: what each function does. / Nodes, and notes under way: what each function does (second part). / Nodes, and notes under way: what arrives, is dropped, doubled. / Nodes, and notes under way: new ones; none. -/
import Derived.Test.YtpbbjfighohokaaTroD
namespace Go.Proofs.YtpbbjfighohokaaI
attribute [local simp] J0 J1 J2 J3 J4 J5 J6 J7 J8 J9 Ja Jb Jc Jd Je Jf Jg Jh Ji Jj Jk Jl Jm Jn Jo Jp Jq Jr Js Jt Ju Jv Jw Jx Jy Jz JA JB JC JD JE JF JG JH JI JJ JK JL JM JN JO JP JQ JR JS stillI IOp.kind JT JU JV JW JX JY JZ Y0 Y1 Y2 Y3 Y4 Y5 Y6 Y7 Y8 Y9 Ya Yb Yc Yd Ye Yf Yg Yh Yi Yj Yk Yl Ym Yn Yo Yp Yq ial Yr Ys Yt Yu Yv Yw Yx Yy ires iresL ires1 Yz YA YB YC YD YE bin2 YF YG YH YI YJ YK YL YM YN YO YP YQ YR YS YT YU un1 shOk eqL eq1 fillL putAt IHeap.load1 IHeap.loadL IHeap.storeL YV YW YX YY YZ B0 B1 B2 B3 B4 B5 B6 B7 B8 B9 Ba Bb Bc Bd Be Bf Bg Bh Bi Bj Bk Bl Bm Bn Bo Bp
set_option linter.unusedSimpArgs false
set_option linter.unusedVariables false
open Go

structure Tp.ok (n : Int) (S : Tp) : Prop where
  q : quorumI n ≠ 0
  len : (S.R.length : Int) = n
  node : ∀ (i : Nat) (R : Rp), S.R[i]? = some R → R.ok ∧ R.n = n ∧ R.me = i
  way : S.way.length ≤ 1024
  note : ∀ x ∈ S.way, (0 ≤ x.fr ∧ x.fr < n) ∧ (0 ≤ x.to ∧ x.to < n) ∧ x.votes.length ≤ 1024
def Tp.at (S : Tp) (i : Int) : Option Rp := if 0 ≤ i then S.R[i.toNat]? else none
theorem Tp.at_some {S : Tp} {i : Int} {R : Rp} (h : S.at i = some R) : 0 ≤ i ∧ i.toNat < S.R.length ∧ S.R[i.toNat]? = some R := by
  unfold Tp.at at h
  split at h
  · exact ⟨by assumption, (List.getElem?_eq_some_iff.1 h).1, h⟩
  · cases h
theorem Tp.at_none {S : Tp} {i : Int} (h : S.at i = none) : i < 0 ∨ (S.R.length : Int) ≤ i := by
  unfold Tp.at at h
  split at h
  · have := List.getElem?_eq_none_iff.1 h; omega
  · omega
def OkW (n : Int) (l : List NoteD) : Prop := ∀ x ∈ l, (0 ≤ x.fr ∧ x.fr < n) ∧ (0 ≤ x.to ∧ x.to < n) ∧ x.votes.length ≤ 1024
theorem Tp.ok.say {n : Int} {S : Tp} (h : S.ok n) {i : Nat} {R : Rp} {r : Rp × List NoteD} (hi : S.R[i]? = some R) (h1 : r.1.ok ∧ r.1.n = R.n ∧ r.1.me = R.me) (h2 : OkW n r.2) : (S.say i r).ok n := by
  obtain ⟨a1, a2, a3⟩ := h.node i R hi
  have hl := (List.getElem?_eq_some_iff.1 hi).1
  refine ⟨h.q, by unfold Tp.say; rw [List.length_set]; exact h.len, fun j Q hj => ?_, ?_, fun x hx => ?_⟩
  · unfold Tp.say at hj
    by_cases he : i = j
    · subst he
      simp only at hj
      rw [List.getElem?_set_self hl] at hj
      injection hj with hj
      subst hj
      exact ⟨h1.1, h1.2.1.trans a2, h1.2.2.trans a3⟩
    · simp only at hj
      rw [List.getElem?_set_ne he] at hj
      exact h.node j Q hj
  · show (putN S.way r.2).length ≤ 1024
    unfold putN
    have := h.way
    rw [List.length_append, List.length_take]
    omega
  · rcases List.mem_append.1 (show x ∈ S.way ++ _ from hx) with hx | hx
    · exact h.note x hx
    · exact h2 x (List.mem_of_mem_take hx)

theorem OkW.of {n : Int} {R : Rp} {l : List NoteD} (h0 : 0 ≤ R.me ∧ R.me < R.n) (hn : R.n = n) (h1 : ∀ y ∈ l, OkN R y) (h2 : Short l) : OkW n l := fun y hy => by
  obtain ⟨a1, a2, a3, _⟩ := h1 y hy
  exact ⟨⟨by omega, by omega⟩, ⟨a2, by omega⟩, h2.2 y hy⟩
theorem Rp.ok.me {R : Rp} (h : R.ok) : 0 ≤ R.me ∧ R.me < R.n := by
  have := h.1.2.1
  have := h.1.2.2.1
  have := h.2.1
  have := h.2.2.1
  exact ⟨by omega, by omega⟩
def dLead : DeedR := ⟨0, 0, noS, ⟨0, 0, 0, 0, 0, 0, []⟩⟩
def dPropose (s : ByteArray) : DeedR := ⟨1, 0, s, ⟨0, 0, 0, 0, 0, 0, []⟩⟩
def dTake (x : NoteD) : DeedR := ⟨2, 0, noS, x⟩
def dAsk (i : Int) : DeedR := ⟨3, i, noS, ⟨0, 0, 0, 0, 0, 0, []⟩⟩
theorem okW_lead {n : Int} {R : Rp} (h : R.ok) (hn : R.n = n) : OkW n R.lead.2 := .of h.me hn (fun y hy => okN_deed dLead hy) (short_lead h)
theorem okW_propose {n : Int} {R : Rp} (h : R.ok) (hn : R.n = n) (s : ByteArray) : OkW n (R.propose s).2.1 := .of h.me hn (fun y hy => okN_deed (dPropose s) hy) (short_propose h s)
theorem okW_take {n : Int} {R : Rp} (h : R.ok) (hs : Sorted R.A.L) (hn : R.n = n) (x : NoteD) : OkW n (R.take x).2 := .of h.me hn (fun y hy => okN_deed (dTake x) hy) (short_take h hs x)
theorem okW_ask {n : Int} {R : Rp} (h : R.ok) (hn : R.n = n) (i : Int) : OkW n (R.ask i) := .of h.me hn (fun y hy => okN_deed (dAsk i) hy) (short_ask R i)

section
variable (c : Ctx) (hc : HasTroop c) (hN : NodeC c) {H : IHeap} {K : Value → IHeap → Prop} {w : Nat → Nat} {t : Nat} {S : Tp} {n : Int}

include hc in
theorem Tnode_ok {g : FuncId} {i : Int} (h : IsT w H t g S) (hK : K (.bool (S.at i).isSome) H) : c.C (c.F n_troop_Troop_node) [.pointer (some ⟨t, 0, none⟩), .int .i64 i] H K := by
  refine c.enter hc.troop_Troop_node rfl ?_
  obtain ⟨l, y, z, a, m, g⟩ := h.len
  unfold Tp.at at hK
  by_cases h1 : 0 ≤ i
  · rw [if_pos h1] at hK
    by_cases h2 : i < (S.R.length : Int)
    · rw [List.getElem?_eq_getElem (by omega)] at hK
      simp -implicitDefEqProofs [c_troop_Troop_node, nilOf, g, h1, h2]
      exact hK
    · rw [List.getElem?_eq_none (by omega)] at hK
      simp -implicitDefEqProofs [c_troop_Troop_node, nilOf, g, h1, h2]
      exact hK
  · rw [if_neg h1] at hK
    simp -implicitDefEqProofs [c_troop_Troop_node, nilOf, g, h1]
    exact hK
include hc in
theorem Tnode_none {i : Int} (hK : K (.bool false) H) : c.C (c.F n_troop_Troop_node) [.pointer none, .int .i64 i] H K := by
  refine c.enter hc.troop_Troop_node rfl ?_
  simp -implicitDefEqProofs [c_troop_Troop_node, nilOf]
  exact hK

include hc hN in
theorem TLead_ok {i : Int} (h : IsT w H t (c.F n_troop_New_F1) S) (ho : S.ok n) (h0 : S.at i = none → K (.bool false) H) (h1 : ∀ R, S.at i = some R → ∀ H', Tn w H t (c.F n_troop_New_F1) (S.say i.toNat R.lead) H' → (S.say i.toNat R.lead).ok n → K (.bool true) H') :
    c.C (c.F n_troop_Troop_Lead) [.pointer (some ⟨t, 0, none⟩), .int .i64 i] H K := by
  refine c.enter hc.troop_Troop_Lead rfl ?_
  simp -implicitDefEqProofs [c_troop_Troop_Lead]
  refine call_of (Tnode_ok c hc h ?_)
  cases hat : S.at i with
  | none =>
    simp -implicitDefEqProofs []
    exact h0 hat
  | some R =>
    obtain ⟨b1, b2, b3⟩ := Tp.at_some hat
    obtain ⟨lb, cap, wv, fv, p, cs, ro, e1, e2, e3, e4, e5⟩ := h.node b3
    have b4 : i.toNat < S.R.length := b2
    have b5 : i < (S.R.length : Int) := by omega
    obtain ⟨o1, o2, o3⟩ := ho.node _ R b3
    simp -implicitDefEqProofs [nilOf, e1, e2, e3, e4, b1, b4, b5]
    refine dcall_of c.mono (RLead_ok c hN e5 o1 fun u H1 sd => ?_)
    obtain ⟨B', f, hB, hr, hm⟩ := sd
    simp -implicitDefEqProofs []
    refine dcall_of c.mono (say_ok c hc h b2 ⟨lb, cap, wv, fv, cs, ro, e1, e2, e3⟩ ho.way (short_lead o1).1 f hB hr (hm.weak fun b hb => hb) fun H2 tn => ?_)
    simp -implicitDefEqProofs []
    exact h1 R hat H2 tn (ho.say b3 o1.lead (okW_lead o1 o2))
end
end Go.Proofs.YtpbbjfighohokaaI
namespace Go.Proofs.YtpbbjfighohokaaI
attribute [local simp] J0 J1 J2 J3 J4 J5 J6 J7 J8 J9 Ja Jb Jc Jd Je Jf Jg Jh Ji Jj Jk Jl Jm Jn Jo Jp Jq Jr Js Jt Ju Jv Jw Jx Jy Jz JA JB JC JD JE JF JG JH JI JJ JK JL JM JN JO JP JQ JR JS stillI IOp.kind JT JU JV JW JX JY JZ Y0 Y1 Y2 Y3 Y4 Y5 Y6 Y7 Y8 Y9 Ya Yb Yc Yd Ye Yf Yg Yh Yi Yj Yk Yl Ym Yn Yo Yp Yq ial Yr Ys Yt Yu Yv Yw Yx Yy ires iresL ires1 Yz YA YB YC YD YE bin2 YF YG YH YI YJ YK YL YM YN YO YP YQ YR YS YT YU un1 shOk eqL eq1 fillL putAt IHeap.load1 IHeap.loadL IHeap.storeL YV YW YX YY YZ B0 B1 B2 B3 B4 B5 B6 B7 B8 B9 Ba Bb Bc Bd Be Bf Bg Bh Bi Bj Bk Bl Bm Bn Bo Bp
set_option linter.unusedSimpArgs false
set_option linter.unusedVariables false
open Go

def Tp.drop (S : Tp) (a : Nat) : Tp := ⟨S.R, S.way.eraseIdx a⟩
theorem Tp.ok.drop {n : Int} {S : Tp} (h : S.ok n) (a : Nat) : (S.drop a).ok n :=
  ⟨h.q, h.len, h.node, by show (S.way.eraseIdx a).length ≤ 1024; have := h.way; rw [List.length_eraseIdx]; split <;> omega, fun x hx => h.note x (List.mem_of_mem_eraseIdx hx)⟩
theorem set_same {α : Type} {l : List α} {i : Nat} {x : α} (h : l[i]? = some x) : l.set i x = l := by
  obtain ⟨h1, rfl⟩ := List.getElem?_eq_some_iff.1 h
  exact List.set_getElem_self h1

section
variable (c : Ctx) (hc : HasTroop c) (hN : NodeC c) {H : IHeap} {K : Value → IHeap → Prop} {w : Nat → Nat} {t : Nat} {S : Tp} {n : Int}

include hc hN in
theorem TPropose_ok {i : Int} {s : ByteArray} (h : IsT w H t (c.F n_troop_New_F1) S) (ho : S.ok n) (h0 : S.at i = none → K (.int .i64 1) H)
    (h1 : ∀ R, S.at i = some R → (R.propose s).2.2 = 0 → ∀ H', Tn w H t (c.F n_troop_New_F1) (S.say i.toNat ((R.propose s).1, (R.propose s).2.1)) H' → (S.say i.toNat ((R.propose s).1, (R.propose s).2.1)).ok n → K (.int .i64 0) H')
    (h2 : ∀ R, S.at i = some R → (R.propose s).2.2 ≠ 0 → ∀ H', Tn w H t (c.F n_troop_New_F1) S H' → K (.int .i64 (R.propose s).2.2) H') :
    c.C (c.F n_troop_Troop_Propose) [.pointer (some ⟨t, 0, none⟩), .int .i64 i, .string s] H K := by
  refine c.enter hc.troop_Troop_Propose rfl ?_
  simp -implicitDefEqProofs [c_troop_Troop_Propose]
  refine call_of (Tnode_ok c hc h ?_)
  cases hat : S.at i with
  | none =>
    simp -implicitDefEqProofs []
    exact h0 hat
  | some R =>
    obtain ⟨b1, b2, b3⟩ := Tp.at_some hat
    obtain ⟨lb, cap, wv, fv, p, cs, ro, e1, e2, e3, e4, e5⟩ := h.node b3
    have b5 : i < (S.R.length : Int) := by omega
    obtain ⟨o1, o2, o3⟩ := ho.node _ R b3
    simp -implicitDefEqProofs [nilOf, e1, e2, e3, e4, b1, b2, b5]
    refine call_of (RPropose_ok c hN (s := s) e5 o1 fun u H1 f hr hm => ?_)
    have ht := h.lt t (by have := h.own; omega)
    obtain ⟨e, he⟩ : ∃ e, e = (R.propose s).2.2 := ⟨_, rfl⟩
    rw [← he]
    by_cases hz : e = 0
    · subst hz
      simp -implicitDefEqProofs [nilOf]
      refine call_of (say_ok c hc h b2 ⟨lb, cap, wv, fv, cs, ro, e1, e2, e3⟩ ho.way (short_propose o1 s).1 f (fun b hb => .inl hb) hr (hm.weak fun b hb => ⟨hb.1, hb.2, fun e => by have := h.lt b (by omega); omega⟩) fun H2 tn => ?_)
      simp -implicitDefEqProofs []
      exact h1 R hat he.symm H2 tn (ho.say b3 (o1.propose s) (okW_propose o1 o2 s))
    · have hs : (R.propose s).1 = R := by
        have : (R.propose s).2.2 ≠ 0 := by rw [← he]; exact hz
        unfold Rp.propose at this ⊢
        split
        · rfl
        · rename_i hh; rw [if_neg hh] at this; exact absurd rfl this
      rw [hs] at hr
      simp -implicitDefEqProofs [hz]
      rw [he]
      obtain ⟨q, lv, wv2, fv2, a1, a2, a3, a4, a5, a6⟩ := h.next b2 ⟨lb, cap, wv, fv, cs, ro, e1, e2, e3⟩ f (fun b hb => .inl hb) hr
      have tn := a6 (fun _ => False) S.way wv2 q H1 (fun b hb => hb.elim) (Fr.refl _ _) a1 (a2.weak fun b hb => .inl hb) (.inl rfl)
      rw [set_same b3] at tn
      exact h2 R hat (by rw [← he]; exact hz) H1 tn

include hc hN in
theorem TAsk_ok {i j : Int} (h : IsT w H t (c.F n_troop_New_F1) S) (ho : S.ok n) (h0 : S.at i = none ∨ S.at j = none → K (.bool false) H)
    (h1 : ∀ R Q, S.at i = some R → S.at j = some Q → ∀ H', Tn w H t (c.F n_troop_New_F1) (S.say i.toNat (R, R.ask j)) H' → (S.say i.toNat (R, R.ask j)).ok n → K (.bool true) H') :
    c.C (c.F n_troop_Troop_Ask) [.pointer (some ⟨t, 0, none⟩), .int .i64 i, .int .i64 j] H K := by
  refine c.enter hc.troop_Troop_Ask rfl ?_
  simp -implicitDefEqProofs [c_troop_Troop_Ask]
  refine call_of (Tnode_ok c hc h ?_)
  cases hat : S.at i with
  | none =>
    simp -implicitDefEqProofs []
    exact h0 (.inl hat)
  | some R =>
    simp -implicitDefEqProofs []
    refine call_of (Tnode_ok c hc h ?_)
    cases haj : S.at j with
    | none =>
      simp -implicitDefEqProofs []
      exact h0 (.inr haj)
    | some Q =>
      obtain ⟨b1, b2, b3⟩ := Tp.at_some hat
      obtain ⟨lb, cap, wv, fv, p, cs, ro, e1, e2, e3, e4, e5⟩ := h.node b3
      have b5 : i < (S.R.length : Int) := by omega
      obtain ⟨o1, o2, o3⟩ := ho.node _ R b3
      simp -implicitDefEqProofs [nilOf, e1, e2, e3, e4, b1, b2, b5]
      refine dcall_of c.mono (RAsk_ok c hN e5 fun u H1 k1 hm => ?_)
      simp -implicitDefEqProofs []
      refine dcall_of c.mono (say_ok c hc h b2 ⟨lb, cap, wv, fv, cs, ro, e1, e2, e3⟩ ho.way (short_ask R j).1 (k1.fr _) (fun b hb => .inl hb) (e5.le k1) (hm.weak fun b hb => ⟨hb.1, hb.2, fun e => by have := h.lt b (by omega); omega⟩) fun H2 tn => ?_)
      simp -implicitDefEqProofs []
      exact h1 R Q hat haj H2 tn (ho.say b3 ⟨o1, rfl, rfl⟩ (okW_ask o1 o2 j))

include hc hN in
theorem TCrash_ok {i : Int} (h : IsT w H t (c.F n_troop_New_F1) S) (ho : S.ok n) (h0 : S.at i = none → K (.bool false) H)
    (h1 : ∀ R, S.at i = some R → ∀ H', Tn w H t (c.F n_troop_New_F1) (S.say i.toNat (R.crash, [])) H' → (S.say i.toNat (R.crash, [])).ok n → K (.bool true) H') :
    c.C (c.F n_troop_Troop_Crash) [.pointer (some ⟨t, 0, none⟩), .int .i64 i] H K := by
  refine c.enter hc.troop_Troop_Crash rfl ?_
  simp -implicitDefEqProofs [c_troop_Troop_Crash]
  refine call_of (Tnode_ok c hc h ?_)
  cases hat : S.at i with
  | none =>
    simp -implicitDefEqProofs []
    exact h0 hat
  | some R =>
    obtain ⟨b1, b2, b3⟩ := Tp.at_some hat
    obtain ⟨lb, cap, wv, fv, p, cs, ro, e1, e2, e3, e4, e5⟩ := h.node b3
    have b5 : i < (S.R.length : Int) := by omega
    obtain ⟨o1, o2, o3⟩ := ho.node _ R b3
    simp -implicitDefEqProofs [nilOf, e1, e2, e3, e4, b1, b2, b5]
    refine call_of (RCrash_ok c hN e5 o1 fun H1 B' f hB hr => ?_)
    simp -implicitDefEqProofs []
    obtain ⟨q, lv, wv2, fv2, a1, a2, a3, a4, a5, a6⟩ := h.next b2 ⟨lb, cap, wv, fv, cs, ro, e1, e2, e3⟩ f hB hr
    have tn := a6 (fun _ => False) S.way wv2 q H1 (fun b hb => hb.elim) (Fr.refl _ _) a1 (a2.weak fun b hb => .inl hb) (.inl rfl)
    have hs : S.say i.toNat (R.crash, []) = ⟨S.R.set i.toNat R.crash, S.way⟩ := by unfold Tp.say putN; simp
    rw [← hs] at tn
    exact h1 R hat H1 tn (ho.say b3 o1.crash (by intro x hx; cases hx))

include hc hN in
theorem TLog_ok {i : Int} (h : IsT w H t (c.F n_troop_New_F1) S) (h0 : S.at i = none → K (.slice none 0 0) H)
    (h1 : ∀ R, S.at i = some R → ∀ v H', H.le H' → Grow H' H.next 1 v ((logL R.L 0).map fun x => [.string x]) → K v H') :
    c.C (c.F n_troop_Troop_Log) [.pointer (some ⟨t, 0, none⟩), .int .i64 i] H K := by
  refine c.enter hc.troop_Troop_Log rfl ?_
  simp -implicitDefEqProofs [c_troop_Troop_Log]
  refine call_of (Tnode_ok c hc h ?_)
  cases hat : S.at i with
  | none =>
    simp -implicitDefEqProofs []
    exact h0 hat
  | some R =>
    obtain ⟨b1, b2, b3⟩ := Tp.at_some hat
    obtain ⟨lb, cap, wv, fv, p, cs, ro, e1, e2, e3, e4, e5⟩ := h.node b3
    have b5 : i < (S.R.length : Int) := by omega
    simp -implicitDefEqProofs [nilOf, e1, e2, e3, e4, b1, b2, b5]
    refine call_of (RLog_ok c hN e5 fun v H1 k1 gr => ?_)
    simp -implicitDefEqProofs []
    exact h1 R hat v H1 k1 gr
include hc hN in
theorem TLeads_ok {i : Int} (h : IsT w H t (c.F n_troop_New_F1) S) (h0 : S.at i = none → K (.bool false) H)
    (h1 : ∀ R, S.at i = some R → K (.bool (decide (R.P.does = 2))) H) :
    c.C (c.F n_troop_Troop_Leads) [.pointer (some ⟨t, 0, none⟩), .int .i64 i] H K := by
  refine c.enter hc.troop_Troop_Leads rfl ?_
  simp -implicitDefEqProofs [c_troop_Troop_Leads]
  refine call_of (Tnode_ok c hc h ?_)
  cases hat : S.at i with
  | none =>
    simp -implicitDefEqProofs []
    exact h0 hat
  | some R =>
    obtain ⟨b1, b2, b3⟩ := Tp.at_some hat
    obtain ⟨lb, cap, wv, fv, p, cs, ro, e1, e2, e3, e4, e5⟩ := h.node b3
    have b5 : i < (S.R.length : Int) := by omega
    simp -implicitDefEqProofs [nilOf, e1, e2, e3, e4, b1, b2, b5]
    refine call_of (RLeads_ok c hN e5 ?_)
    simp -implicitDefEqProofs []
    exact h1 R hat
include hc in
theorem TWaiting_ok {g : FuncId} (h : IsT w H t g S) (hK : K (.int .i64 S.way.length) H) : c.C (c.F n_troop_Troop_Waiting) [.pointer (some ⟨t, 0, none⟩)] H K := by
  refine c.enter hc.troop_Troop_Waiting rfl ?_
  obtain ⟨l, y, z, a, m, g⟩ := h.len
  simp -implicitDefEqProofs [c_troop_Troop_Waiting, nilOf, g]
  exact hK
end
end Go.Proofs.YtpbbjfighohokaaI
namespace Go.Proofs.YtpbbjfighohokaaI
attribute [local simp] J0 J1 J2 J3 J4 J5 J6 J7 J8 J9 Ja Jb Jc Jd Je Jf Jg Jh Ji Jj Jk Jl Jm Jn Jo Jp Jq Jr Js Jt Ju Jv Jw Jx Jy Jz JA JB JC JD JE JF JG JH JI JJ JK JL JM JN JO JP JQ JR JS stillI IOp.kind JT JU JV JW JX JY JZ Y0 Y1 Y2 Y3 Y4 Y5 Y6 Y7 Y8 Y9 Ya Yb Yc Yd Ye Yf Yg Yh Yi Yj Yk Yl Ym Yn Yo Yp Yq ial Yr Ys Yt Yu Yv Yw Yx Yy ires iresL ires1 Yz YA YB YC YD YE bin2 YF YG YH YI YJ YK YL YM YN YO YP YQ YR YS YT YU un1 shOk eqL eq1 fillL putAt IHeap.load1 IHeap.loadL IHeap.storeL YV YW YX YY YZ B0 B1 B2 B3 B4 B5 B6 B7 B8 B9 Ba Bb Bc Bd Be Bf Bg Bh Bi Bj Bk Bl Bm Bn Bo Bp
set_option linter.unusedSimpArgs false
set_option linter.unusedVariables false
open Go

theorem Tn.le {w : Nat → Nat} {H H' H'' : IHeap} {t : Nat} {g : FuncId} {S' : Tp} (h : Tn w H t g S' H') (k : H'.le H'') : Tn w H t g S' H'' := by
  obtain ⟨w', h1, h2, h3, h4⟩ := h
  exact ⟨w', h1.trans_le k, h2, h3, h4.le k⟩
theorem Tn.of_le {w : Nat → Nat} {H H' H'' : IHeap} {t : Nat} {g : FuncId} {S' : Tp} (k : H.le H') (hw : ∀ b, w b ≠ 0 → b < H.next) (h : Tn w H' t g S' H'') : Tn w H t g S' H'' := by
  obtain ⟨w', h1, h2, h3, h4⟩ := h
  have := k.next
  exact ⟨w', k.trans_fr h1, fun b hb => (h2 b hb).imp id fun z => by omega, h3, h4⟩
theorem Tn.same {w : Nat → Nat} {H : IHeap} {t : Nat} {g : FuncId} {S : Tp} (h : IsT w H t g S) : Tn w H t g S H := ⟨w, Fr.refl _ _, fun b hb => .inl hb, fun _ h => h, h⟩
theorem Tn.trans {w : Nat → Nat} {H H' H'' : IHeap} {t : Nat} {g : FuncId} {S' S'' : Tp} (h : Tn w H t g S' H') (k : ∀ w', IsT w' H' t g S' → Tn w' H' t g S'' H'') : Tn w H t g S'' H'' := by
  obtain ⟨w', h1, h2, h3, h4⟩ := h
  obtain ⟨w'', k1, k2, k3, k4⟩ := k w' h4
  have := h1.next
  exact ⟨w'', h1.trans k1 fun b hb => (h2 b hb), fun b hb => (k2 b hb).elim (h2 b) fun z => .inr (by omega), fun b hb => k3 b (h3 b hb), k4⟩
theorem IsT.ways {w : Nat → Nat} {H : IHeap} {t : Nat} {g : FuncId} {S : Tp} (h : IsT w H t g S) (hne : 0 < S.R.length) :
    ∃ q lv wv fv, H.get t = some (.cells [lv, wv, fv] false) ∧ WayD q (fun b => w b = 5) H wv S.way ∧ q ≠ t ∧ (∀ b, w b = 5 → b ≠ t ∧ b ≠ q) ∧
      ∀ (way' : List NoteD) (wv' : Value) (q' : Nat) (H2 : IHeap), Fr (fun b => b = t ∨ b = q) H H2 → H2.get t = some (.cells [lv, wv', fv] false) → WayD q' (fun b => w b = 5) H2 wv' way' → (q' = q ∨ H.next ≤ q') → Tn w H t g ⟨S.R, way'⟩ H2 := by
  obtain ⟨R, hR⟩ : ∃ R, S.R[0]? = some R := ⟨S.R[0], List.getElem?_eq_getElem hne⟩
  obtain ⟨lb, cap, wv, fv, p, cs, ro, e1, e2, e3, e4, e5⟩ := h.node hR
  obtain ⟨q, lv, wv2, fv2, a1, a2, a3, a4, a5, a6⟩ := h.next hne ⟨lb, cap, wv, fv, cs, ro, e1, e2, e3⟩ (Fr.refl _ _) (fun b hb => .inl hb) e5
  refine ⟨q, lv, wv2, fv2, a1, a2, a3, a4, fun way' wv' q' H2 f g w5 hq => ?_⟩
  have := a6 (fun _ => False) way' wv' q' H2 (fun b hb => hb.elim) f g (w5.weak fun b hb => .inl hb) hq
  rwa [set_same hR] at this

section
variable (c : Ctx) (hc : HasTroop c) (hN : NodeC c) {H : IHeap} {K : Value → IHeap → Prop} {w : Nat → Nat} {t : Nat} {S : Tp} {n : Int}

theorem Tp.ok.pos (ho : S.ok n) : 0 < S.R.length := by have := (quorumI_ne ho.q).1; have := ho.len; omega

include hc in
theorem TDrop_ok {g : FuncId} {i : Int} (h : IsT w H t g S) (ho : S.ok n) (h0 : S.way = [] → ∀ H', Tn w H t g S H' → K (.bool false) H')
    (h1 : ∀ (a : Nat) (x : NoteD), (a : Int) = atI i S.way.length → S.way[a]? = some x → ∀ H', Tn w H t g (S.drop a) H' → K (.bool true) H') :
    c.C (c.F n_troop_Troop_Drop) [.pointer (some ⟨t, 0, none⟩), .int .i64 i] H K := by
  refine c.enter hc.troop_Troop_Drop rfl ?_
  obtain ⟨q, lv, wv, fv, a1, a2, a3, a4, a5⟩ := h.ways ho.pos
  have ht := h.lt t (by have := h.own; omega)
  simp -implicitDefEqProofs [c_troop_Troop_Drop, nilOf]
  refine call_of (out_ok c hc (i := i) ht a1 a2 ho.way a3 a4 (fun hz H1 k1 => ?_) fun a x ha hx wv' u H1 f g2 w2 sw => ?_)
  · simp -implicitDefEqProofs []
    exact h0 hz _ ((Tn.same h).le ((k1.alloc _).set (by have := k1.next; omega) _))
  · simp -implicitDefEqProofs []
    have o1 : one1 u = true := by obtain ⟨ua, uc, hue⟩ := sw.2.len; rw [hue]; rfl
    simp only [rowN]
    simp -implicitDefEqProofs [o1]
    exact h1 a x ha hx _ ((a5 _ wv' q H1 f g2 w2 (.inl rfl)).le ((H1.le_alloc _).set (Nat.le_refl _) _))

def Tp.double (S : Tp) (x : NoteD) : Tp := ⟨S.R, S.way ++ [x]⟩
include hc in
theorem TDouble_ok {g : FuncId} {i : Int} (h : IsT w H t g S) (ho : S.ok n) (h0 : S.way = [] ∨ S.way.length = 1024 → K (.bool false) H)
    (h1 : ∀ (a : Nat) (x : NoteD), (a : Int) = atI i S.way.length → S.way.length < 1024 → S.way[a]? = some x → ∀ H', Tn w H t g (S.double x) H' → (S.double x).ok n → K (.bool true) H') :
    c.C (c.F n_troop_Troop_Double) [.pointer (some ⟨t, 0, none⟩), .int .i64 i] H K := by
  refine c.enter hc.troop_Troop_Double rfl ?_
  obtain ⟨q, lv, wv, fv, a1, a2, a3, a4, a5⟩ := h.ways ho.pos
  have ht := h.lt t (by have := h.own; omega)
  obtain ⟨wa, wc, hwe⟩ := a2.len
  have hwl := ho.way
  rw [hwe] at a1
  by_cases hf : S.way.length = 1024
  · simp -implicitDefEqProofs [c_troop_Troop_Double, nilOf, a1, hf]
    exact h0 (.inr hf)
  · have hf' : ¬ (1024 : Int) ≤ (S.way.length : Int) := by omega
    simp -implicitDefEqProofs [c_troop_Troop_Double, nilOf, a1, hf']
    refine call_of (at_ok c hc a1 hwl (fun hz => ?_) fun hz a ha hat => ?_)
    · simp -implicitDefEqProofs []
      exact h0 (.inl (List.length_eq_zero_iff.1 hz))
    · obtain ⟨x, hx⟩ : ∃ x, S.way[a]? = some x := ⟨S.way[a], List.getElem?_eq_getElem ha⟩
      have wa1 : IntKind.i64.wrap ((a : Int) + 1) = (a : Int) + 1 := wrap64 (by omega) (by omega)
      have a2' := a2
      obtain ⟨us, u1, u2, u3⟩ := a2
      have slw := u2.slw (zip_seven _ us)
      have zl := zip_len u1
      rw [hwe] at slw
      obtain ⟨v', s1, s2⟩ := slw.cut (by omega) (Nat.le_succ a) (by rw [zl]; omega)
      have hu : us[a]? = some us[a] := List.getElem?_eq_getElem (by omega)
      have hrow : (List.drop a (List.zipWith rowN S.way us)).take (a + 1 - a) = List.zipWith rowN [x] [us[a]] := by
        rw [show a + 1 - a = 1 by omega, List.drop_zipWith, List.take_zipWith]
        congr 1
        · rw [← List.getElem_cons_drop (h := ha)]
          have := (List.getElem?_eq_some_iff.1 hx).2
          simp [this]
        · rw [List.drop_eq_getElem_cons (by omega : a < us.length), List.take_succ_cons, List.take_zero]
      rw [hrow] at s2
      have ms : MsD (fun b => w b = 5) H v' [x] := ⟨[us[a]], rfl, s2, fun j y z hy hz => by
        match j, hy, hz with
        | 0, hy, hz => simp at hy hz; subst hy; subst hz; exact u3 a x _ hx hu
        | j + 1, hy, _ => simp at hy⟩
      have q1 : (0 : Int) ≤ (a : Int) + 1 := by omega
      have q2 : ((a : Int) + 1).toNat = a + 1 := by omega
      have q3 : ((a : Int) + 1) ≤ (S.way.length : Int) := by omega
      have q4 : (a : Int) ≤ (a : Int) + 1 := by omega
      have q5 : a ≤ a + 1 := by omega
      have q6 : a + 1 ≤ S.way.length := by omega
      simp -implicitDefEqProofs [a1, wa1, boundsI, natI, q1, q2, q3, q4, q5, q6, s1]
      refine dcall_of c.mono (put_ok c hc (D2 := fun b => w b = 5) ht a1 (hwe ▸ a2') ms hwl (by simp) a3 a4 a4 fun wv' q' H2 f2 g2 wd hq' => ?_)
      simp -implicitDefEqProofs []
      have hp : putN S.way [x] = S.way ++ [x] := by unfold putN; rw [List.take_of_length_le (by simp; omega)]
      rw [hp] at wd
      exact h1 a x hat (by omega) hx H2 (a5 _ wv' q' H2 f2 g2 (wd.weak fun b hb => hb.elim id id) hq')
        ⟨ho.q, ho.len, ho.node, by show (S.way ++ [x]).length ≤ 1024; rw [List.length_append, List.length_singleton]; omega, fun y hy => by
          rcases List.mem_append.1 hy with hy | hy
          · exact ho.note y hy
          · rw [List.mem_singleton.1 hy]; exact ho.note x (List.mem_of_getElem? hx)⟩

include hc hN in
theorem TTake_ok {x : NoteD} {u : Value} {tb : Nat} (h : IsT w H t (c.F n_troop_New_F1) S) (ho : S.ok n) (hx : (0 ≤ x.fr ∧ x.fr < n) ∧ (0 ≤ x.to ∧ x.to < n) ∧ x.votes.length ≤ 1024) (hu : SwD (fun b => w b = 5) H 4 u (x.votes.map rowV))
    (htb : H.get tb = some (.cells [.pointer (some ⟨t, 0, none⟩)] false)) (hw3 : w tb = 3)
    (h1 : ∀ R, S.R[x.to.toNat]? = some R → ∀ H', Tn w H t (c.F n_troop_New_F1) (S.say x.to.toNat (R.take x)) H' → (S.say x.to.toNat (R.take x)).ok n → K (.tuple #[]) H') :
    c.C (c.F n_troop_New_F1) [.agg (rowN x u).toArray, .pointer (some ⟨tb, 0, none⟩)] H K := by
  refine c.enter hc.troop_New_F1 rfl ?_
  obtain ⟨H0, hH0⟩ : ∃ X : IHeap, X = H.alloc (.cells [.int .i64 x.kind, .int .i64 x.fr, .int .i64 x.to, .int .i64 x.slot, .int .i64 x.ba, .int .i64 x.bn, u] false) := ⟨_, rfl⟩
  have k0 : H.le H0 := by rw [hH0]; exact H.le_alloc _
  have n0 : H0.next = H.next + 1 := by rw [hH0]; rfl
  have x0 : H0.get H.next = some (.cells [.int .i64 x.kind, .int .i64 x.fr, .int .i64 x.to, .int .i64 x.slot, .int .i64 x.ba, .int .i64 x.bn, u] false) := by rw [hH0, YV, if_pos rfl]
  have h' := h.le k0
  have htn := h.lt tb (by omega)
  have t0 := (k0.get tb htn).trans htb
  obtain ⟨R, hR⟩ : ∃ R, S.R[x.to.toNat]? = some R := ⟨S.R[x.to.toNat]'(by have := ho.len; omega), List.getElem?_eq_getElem _⟩
  have b2 := (List.getElem?_eq_some_iff.1 hR).1
  have b2' : x.to.toNat < S.R.length := b2
  obtain ⟨lb, cap, wv, fv, p, cs, ro, e1, e2, e3, e4, e5⟩ := h'.node hR
  have b1 : 0 ≤ x.to := hx.2.1.1
  have b5 : x.to < (S.R.length : Int) := by have := ho.len; omega
  obtain ⟨o1, o2, o3⟩ := ho.node _ R hR
  have o1u : one1 u = true := by obtain ⟨ua, uc, hue⟩ := hu.2.len; rw [hue]; rfl
  simp -implicitDefEqProofs [c_troop_New_F1, rowN, ← hH0, nilOf, t0, x0, e1, e2, e3, e4, b1, b2, b2', b5]
  refine dcall_of c.mono (RTake_ok c hN (x := x) (u := u) e5 o1 (hu.le k0) (fun b hb e => by rw [hb] at e; omega) (by have := hx.2.2; omega) fun u2 H1 sd => ?_)
  obtain ⟨B', f, hB, hr, hm⟩ := sd
  have t1 := (f.get tb (by omega) (by omega)).trans t0
  simp -implicitDefEqProofs [t1]
  have hms : (R.take x).2.length ≤ 7168 := (short_take o1 e5.sorted x).1
  refine dcall_of c.mono (say_ok c hc h' b2 ⟨lb, cap, wv, fv, cs, ro, e1, e2, e3⟩ ho.way hms f hB hr (hm.weak fun b hb => hb) fun H2 tn => ?_)
  simp -implicitDefEqProofs []
  exact h1 R hR H2 (tn.of_le k0 h.lt) (ho.say hR (o1.take x) (okW_take o1 e5.sorted o2 x))

include hc hN in
theorem TDeliver_ok {i : Int} (h : IsT w H t (c.F n_troop_New_F1) S) (ho : S.ok n) (h0 : S.way = [] → ∀ H', Tn w H t (c.F n_troop_New_F1) S H' → K (.bool false) H')
    (h1 : ∀ (a : Nat) (x : NoteD) (R : Rp), (a : Int) = atI i S.way.length → S.way[a]? = some x → S.R[x.to.toNat]? = some R → ∀ H', Tn w H t (c.F n_troop_New_F1) ((S.drop a).say x.to.toNat (R.take x)) H' → ((S.drop a).say x.to.toNat (R.take x)).ok n → K (.bool true) H') :
    c.C (c.F n_troop_Troop_Deliver) [.pointer (some ⟨t, 0, none⟩), .int .i64 i] H K := by
  refine c.enter hc.troop_Troop_Deliver rfl ?_
  obtain ⟨q, lv, wv, fv, a1, a2, a3, a4, a5⟩ := h.ways ho.pos
  have ht := h.lt t (by have := h.own; omega)
  simp -implicitDefEqProofs [c_troop_Troop_Deliver, nilOf]
  refine call_of (out_ok c hc (i := i) ht a1 a2 ho.way a3 a4 (fun hz H1 k1 => ?_) fun a x ha hx wv' u H1 f g2 w2 sw => ?_)
  · simp -implicitDefEqProofs []
    exact h0 hz _ ((Tn.same h).le ((k1.alloc _).set (by have := k1.next; omega) _))
  · simp -implicitDefEqProofs []
    have o1 : one1 u = true := by obtain ⟨ua, uc, hue⟩ := sw.2.len; rw [hue]; rfl
    have n1 := f.next
    obtain ⟨w', t1, t2, t3, t4⟩ := a5 _ wv' q H1 f g2 w2 (.inl rfl)
    obtain ⟨H2, hH2⟩ : ∃ X : IHeap, X = (H1.alloc (.cells [.int .i64 0, .int .i64 0, .int .i64 0, .int .i64 0, .int .i64 0, .int .i64 0, .slice none 0 0] false)).set H1.next (.cells [.int .i64 x.kind, .int .i64 x.fr, .int .i64 x.to, .int .i64 x.slot, .int .i64 x.ba, .int .i64 x.bn, u] false) := ⟨_, rfl⟩
    have k2 : H1.le H2 := by rw [hH2]; exact (H1.le_alloc _).set (Nat.le_refl _) _
    have x2 : H2.get H1.next = some (.cells [.int .i64 x.kind, .int .i64 x.fr, .int .i64 x.to, .int .i64 x.slot, .int .i64 x.ba, .int .i64 x.bn, u] false) := by rw [hH2, YW, if_pos rfl]
    have tn2 := t4.le k2
    have tn2' := tn2
    obtain ⟨_, _, lb, tb, q9, cap, ps, wv9, r1, r2, r3, r4, r5, _⟩ := tn2'
    simp only [rowN]
    simp -implicitDefEqProofs [o1, ← hH2, nilOf, r4, x2]
    refine dcall_of c.mono (TTake_ok c hc hN (S := S.drop a) (n := n) (x := x) (u := u) tn2 (ho.drop a) (ho.note x (List.mem_of_getElem? hx)) ((sw.le k2).weak fun b hb => t3 b hb) r5 r2 fun R hR H3 tn ok3 => ?_)
    simp -implicitDefEqProofs []
    refine h1 a x R ha hx hR H3 ?_ ok3
    obtain ⟨w'', s1, s2, s3, s4⟩ := tn
    have := k2.next
    have := t1.next
    exact ⟨w'', (t1.trans_le k2).trans s1 t2, fun b hb => (s2 b hb).elim (t2 b) fun z => .inr (by omega), fun b hb => s3 b (t3 b hb), s4⟩
end
end Go.Proofs.YtpbbjfighohokaaI
namespace Go.Proofs.YtpbbjfighohokaaI
attribute [local simp] J0 J1 J2 J3 J4 J5 J6 J7 J8 J9 Ja Jb Jc Jd Je Jf Jg Jh Ji Jj Jk Jl Jm Jn Jo Jp Jq Jr Js Jt Ju Jv Jw Jx Jy Jz JA JB JC JD JE JF JG JH JI JJ JK JL JM JN JO JP JQ JR JS stillI IOp.kind JT JU JV JW JX JY JZ Y0 Y1 Y2 Y3 Y4 Y5 Y6 Y7 Y8 Y9 Ya Yb Yc Yd Ye Yf Yg Yh Yi Yj Yk Yl Ym Yn Yo Yp Yq ial Yr Ys Yt Yu Yv Yw Yx Yy ires iresL ires1 Yz YA YB YC YD YE bin2 YF YG YH YI YJ YK YL YM YN YO YP YQ YR YS YT YU un1 shOk eqL eq1 fillL putAt IHeap.load1 IHeap.loadL IHeap.storeL YV YW YX YY YZ B0 B1 B2 B3 B4 B5 B6 B7 B8 B9 Ba Bb Bc Bd Be Bf Bg Bh Bi Bj Bk Bl Bm Bn Bo Bp
set_option linter.unusedSimpArgs false
set_option linter.unusedVariables false
open Go

def Tp.new (n : Int) : Tp := ⟨(List.range n.toNat).map fun (j : Nat) => Rp.new n j, []⟩
theorem Tp.ok.new {n : Int} (h : quorumI n ≠ 0) : (Tp.new n).ok n := by
  have hq := quorumI_ne h
  refine ⟨h, by unfold Tp.new; rw [List.length_map, List.length_range]; omega, fun i R hi => ?_, by simp [Tp.new], by simp [Tp.new]⟩
  unfold Tp.new at hi
  rw [List.getElem?_map] at hi
  have hl : i < n.toNat := by
    refine Classical.byContradiction fun hh => ?_
    rw [List.getElem?_eq_none (by simp; omega)] at hi
    cases hi
  rw [List.getElem?_range hl] at hi
  simp only [Option.map_some, Option.some.injEq] at hi
  subst hi
  exact ⟨Rp.new_ok h (by omega) (by omega), rfl, rfl⟩
/-- So many of them. -/
def NewI (n : Int) (H : IHeap) (t tb : Nat) (i : Nat) (H' : IHeap) : Prop :=
  ∃ (w : Nat → Nat) (ps : List Nat) (o : Option Nat) (lv : Value), (∀ b, w b ≠ 0 → b < H'.next ∧ H.next ≤ b ∧ w b < 6 + i) ∧ w t = 1 ∧ w tb = 3 ∧ H.le H' ∧ H'.get t = some (.cells [lv, .slice none 0 0, .nilFunc] false) ∧ H'.get tb = some (.cells [.pointer (some ⟨t, 0, none⟩)] false) ∧
    ps.length = i ∧ GrowAt o H' 1 lv (ps.map rowPt) ∧ (∀ b, o = some b → w b = 2) ∧ ∀ (j p : Nat), ps[j]? = some p → IsR (fun b => w b = 6 + j) H' p (Rp.new n j)
open Classical in
noncomputable def lab2 (w : Nat → Nat) (i : Nat) (B : Nat → Prop) (k b : Nat) : Nat := if B b then 6 + i else if b = k then 2 else if w b = 2 then 0 else w b

section
variable (c : Ctx) (hc : HasTroop c) (hN : NodeC c) {H : IHeap} {K : Value → IHeap → Prop}

include hc hN in
theorem TNew_ok {n : Int} (h0 : quorumI n = 0 → ∀ H', H.le H' → K (.pointer none) H')
    (h1 : quorumI n ≠ 0 → ∀ t w H', H.le H' → (∀ b, w b ≠ 0 → H.next ≤ b) → IsT w H' t (c.F n_troop_New_F1) (Tp.new n) → K (.pointer (some ⟨t, 0, none⟩)) H') :
    c.C (c.F n_troop_New) [.int .i64 n] H K := by
  refine c.enter hc.troop_New rfl ?_
  simp -implicitDefEqProofs [c_troop_New]
  refine call_of (RNew_ok c hN (fun hbad H1 k1 => ?_) fun q1 q2 q3 p0 B0' H1 k1 bb1 i1 => ?_)
  · have hq : quorumI n = 0 := by
      rcases hbad with h | h | h
      · exact h
      · omega
      · unfold quorumI; rw [if_pos (.inl (by omega))]
    simp -implicitDefEqProofs [nilOf]
    exact h0 hq H1 k1
  · have hq := quorumI_ne q1
    obtain ⟨N, hNn⟩ : ∃ N : Nat, n = N := ⟨n.toNat, by omega⟩
    obtain ⟨H2, hH2⟩ : ∃ X : IHeap, X = ((H1.alloc (.cells [.slice none 0 0, .slice none 0 0, .nilFunc] false)).alloc (.cells [.pointer none] false)).set (H1.next + 1) (.cells [.pointer (some ⟨H1.next, 0, none⟩)] false) := ⟨_, rfl⟩
    have k2 : H1.le H2 := by rw [hH2]; exact ((H1.le_alloc _).alloc _).set (by omega) _
    have n2 : H2.next = H1.next + 2 := by rw [hH2]; rfl
    have t2 : H2.get H1.next = some (.cells [.slice none 0 0, .slice none 0 0, .nilFunc] false) := by rw [hH2, YW, if_neg (by omega), YV, YX, if_neg (by omega), YV, if_pos rfl]
    have b2 : H2.get (H1.next + 1) = some (.cells [.pointer (some ⟨H1.next, 0, none⟩)] false) := by rw [hH2, YW, if_pos rfl]
    simp -implicitDefEqProofs [nilOf, ← hH2]
    refine loop_nat c.mono (fun k T H' => ∃ i : Nat, i ≤ N ∧ k = N - i ∧ T 0 = .int .i64 n ∧ T 3 = .pointer (some ⟨H1.next + 1, 0, none⟩) ∧ T 10 = .int .i64 n ∧ T 11 = .int .i64 i ∧ NewI n H1 H1.next (H1.next + 1) i H') N ?_ ?_
    · refine ⟨0, by omega, rfl, ?_⟩
      simp -implicitDefEqProofs []
      refine ⟨fun b => if b = H1.next then 1 else if b = H1.next + 1 then 3 else 0, [], none, _, fun b hb => ?_, if_pos rfl, by simp, k2, t2, b2, rfl, ⟨rfl, rfl⟩, by simp, by simp⟩
      simp only at hb
      by_cases e1 : b = H1.next
      · simp only [e1, if_true]; omega
      · by_cases e2 : b = H1.next + 1
        · simp only [e2]; simp; omega
        · simp [e1, e2] at hb
    · rintro k T H' ⟨i, hi, rfl, t0, t3, t10, t11, w, ps, o, lv, w1, w2, w3, w4, w5, w6, w7, w8, w9, w10⟩
      by_cases hil : i < N
      · have hil' : (i : Int) < n := by omega
        have wi : IntKind.i64.wrap ((i : Int) + 1) = (i : Int) + 1 := wrap64 (by omega) (by omega)
        simp -implicitDefEqProofs [t0, t3, t10, t11, hil', nilOf, w5, w6]
        refine dcall_of c.mono (RNew_ok c hN (fun hbad => ?_) fun _ _ _ p B1' H3 k3 bb3 i3 => ?_)
        · exfalso
          rcases hbad with h | h | h
          · exact q1 h
          · omega
          · omega
        · have t3' := (k3.get H1.next (w1 _ (by omega)).1).trans w5
          have b3' := (k3.get (H1.next + 1) (w1 _ (by omega)).1).trans w6
          have nn3 := k3.next
          obtain ⟨H4, hH4⟩ : ∃ X : IHeap, X = H3.alloc (.cells [.pointer (some ⟨p, 0, none⟩)] false) := ⟨_, rfl⟩
          have k4 : H3.le H4 := by rw [hH4]; exact H3.le_alloc _
          have n4 : H4.next = H3.next + 1 := by rw [hH4]; rfl
          have x4 : H4.get H3.next = some (.cells [.pointer (some ⟨p, 0, none⟩)] false) := by rw [hH4, YV, if_pos rfl]
          have fB : firstI H4 1 1 (.slice (some ⟨H3.next, 0, none⟩) 1 1) = some [.pointer (some ⟨p, 0, none⟩)] := by simp [firstI, IHeap.loadL, x4]
          have g4 : GrowAt o H4 1 lv (ps.map rowPt) := w8.fr ((k3.trans k4).fr fun _ => False) fun _ _ h => h
          obtain ⟨lv', H5, o', p1, p2, p3, p4⟩ := g4.append (bytes := 8) (new := [rowPt p]) (by omega) (by omega) (by rw [List.length_map, List.length_singleton]; omega) (by rw [List.length_map, List.length_singleton]; omega) (by simp [rowPt]) rfl
          simp only [List.length_singleton, List.flatten_singleton, rowPt] at p1
          have n5 := p3.next
          have wt := (w1 H1.next (by omega)).1
          have wb := (w1 (H1.next + 1) (by omega)).1
          have ot : ¬ o = some H1.next := fun e => by have := w9 _ e; omega
          have ob : ¬ o = some (H1.next + 1) := fun e => by have := w9 _ e; omega
          have g5 := (p3.get H1.next (by omega) ot).trans ((k4.get H1.next (by omega)).trans t3')
          have b5 := (p3.get (H1.next + 1) (by omega) ob).trans ((k4.get (H1.next + 1) (by omega)).trans b3')
          rcases p4 with ⟨_, p4⟩ | ⟨k, p4, p5, _⟩
          · cases p4
          · subst p4
            obtain ⟨xa, xc, hxe⟩ := (p2.grow (N := 0) fun _ _ => Nat.zero_le _).len
            have o2 : one1 lv' = true := by rw [hxe]; rfl
            have c2v : lv'.cells = #[lv'] := by rw [hxe]; rfl
            simp -implicitDefEqProofs [t0, t3, t10, t11, t3', b3', nilOf, lenOfI, ← hH4, fB, p1, b5, g5, o2, c2v, wi]
            have hBt : ∀ b, b < H'.next → ¬ B1' b := fun b hb hh => by have := bb3 b hh; omega
            have hn1 := w4.next
            have fS : Fr (fun b => b = H1.next) H5 (H5.set H1.next (.cells [lv', .slice none 0 0, .nilFunc] false)) := (Fr.refl (fun b => b = H1.next) H5).set (.inl rfl) _
            have hk5 := p2.1
            have eqi : ∀ b, lab2 w i B1' k b = 6 + i ↔ B1' b := fun b => by
              unfold lab2
              constructor
              · intro hh
                split at hh
                · assumption
                split at hh
                · omega
                split at hh
                · omega
                · have := (w1 b (by omega)).2.2; omega
              · intro hh; rw [if_pos hh]
            have eqj : ∀ j b, j < i → (lab2 w i B1' k b = 6 + j ↔ w b = 6 + j) := fun j b hj => by
              unfold lab2
              constructor
              · intro hh
                split at hh
                · omega
                split at hh
                · omega
                split at hh
                · omega
                · exact hh
              · intro hh
                have := (w1 b (by omega)).1
                rw [if_neg (hBt b this), if_neg (by omega), if_neg (by omega)]
                exact hh
            refine ⟨N - (i + 1), by omega, i + 1, by omega, rfl, rfl, lab2 w i B1' k, ps ++ [p], some k, lv', fun b hb => ?_, ?_, ?_, ⟨by simp only [YY]; omega, fun b hb => ?_⟩, by rw [YW, if_pos rfl], by rw [YW, if_neg (by omega)]; exact b5, by rw [List.length_append, w7, List.length_singleton], ?_, fun b hb => ?_, fun j x hj => ?_⟩
            · unfold lab2 at hb ⊢
              by_cases c1 : B1' b
              · rw [if_pos c1]; have := i3.lt b c1; have := bb3 b c1; simp only [YY]; omega
              · rw [if_neg c1] at hb ⊢
                by_cases c2 : b = k
                · rw [if_pos c2]; simp only [YY]; omega
                · rw [if_neg c2] at hb ⊢
                  by_cases c3 : w b = 2
                  · rw [if_pos c3] at hb; exact absurd rfl hb
                  · rw [if_neg c3] at hb ⊢; have := w1 b hb; simp only [YY]; omega
            · unfold lab2; rw [if_neg (hBt _ wt), if_neg (by omega), if_neg (by omega)]; exact w2
            · unfold lab2; rw [if_neg (hBt _ wb), if_neg (by omega), if_neg (by omega)]; exact w3
            · have ho : ¬ o = some b := fun e => by have := w9 b e; have := (w1 b (by omega)).2.1; omega
              rw [YW, if_neg (by omega), p3.get b (by omega) ho, k4.get b (by omega), k3.get b (by omega), w4.get b hb]
            · rw [List.map_append]
              exact p2.fr fS fun b hb e => by injection hb with hb; omega
            · injection hb with hb
              subst hb
              unfold lab2
              rw [if_neg (fun hh => by have := i3.lt _ hh; omega), if_pos rfl]
            · by_cases hji : j < ps.length
              · rw [List.getElem?_append_left hji] at hj
                have r1 := ((w10 j x hj).le k3).le k4
                exact ((r1.fr p3 fun b hb e => by have := w9 b e; omega).fr fS fun b hb e => by rw [e] at hb; omega).congr fun b => eqj j b (by omega)
              · rw [List.getElem?_append_right (by omega)] at hj
                have hz : j = ps.length := by
                  refine Classical.byContradiction fun hne => ?_
                  rw [List.getElem?_eq_none (by simp; omega)] at hj
                  cases hj
                subst hz
                simp only [Nat.sub_self, List.getElem?_cons_zero, Option.some.injEq] at hj
                subst hj
                rw [w7]
                exact (((i3.le k4).fr p3 fun b hb e => by have := w9 b e; have := (w1 b (by omega)).1; exact hBt b this hb).fr fS fun b hb e => by rw [e] at hb; exact hBt _ wt hb).congr fun b => eqi b
      · have hil' : ¬ (i : Int) < n := by omega
        have hie : i = N := by omega
        subst hie
        simp -implicitDefEqProofs [t0, t3, t10, t11, hil', nilOf, w5, w6]
        refine h1 q1 H1.next w _ ?_ ?_ ?_
        · exact (k1.trans w4).set k1.next _
        · intro b hb; have := (w1 b hb).2.1; have := k1.next; omega
        · have fS : Fr (fun b => b = H1.next) H' (H'.set H1.next (.cells [lv, .slice none 0 0, .func (.func (c.F n_troop_New_F1)) #[] #[.pointer (some ⟨H1.next + 1, 0, none⟩)]] false)) := (Fr.refl (fun b => b = H1.next) H').set (.inl rfl) _
          cases o with
          | none =>
            exfalso
            have := congrArg List.length w8.1
            rw [List.length_map] at this
            simp only [List.length_nil] at this
            omega
          | some lb =>
            have hlb := w9 lb rfl
            have hv := w8.2.2.1
            rw [List.length_map, w7] at hv
            have sl := ((w8.grow (N := 0) fun _ _ => Nat.zero_le _).slr)
            rw [hv] at sl
            have hlen : (Tp.new n).R.length = i := by unfold Tp.new; rw [List.length_map, List.length_range]; omega
            refine ⟨fun b hb => by rw [YY]; exact (w1 b hb).1, w2, lb, H1.next + 1, 0, UNK + 1, ps, _, hlb, w3, .inr rfl, ?_, ?_, ?_, ?_, WayD.nil _ _ _, fun j x R hx hR => ?_⟩
            · rw [YW, if_pos rfl, hlen, hv]
            · rw [YW, if_neg (by omega)]; exact w6
            · rw [w7, hlen]
            · rw [hlen]; exact sl.fr fS fun e => by have e : lb = H1.next := e; rw [e] at hlb; omega
            · have hj := (List.getElem?_eq_some_iff.1 hx).1
              unfold Tp.new at hR
              rw [List.getElem?_map, List.getElem?_range (by omega)] at hR
              simp only [Option.map_some, Option.some.injEq] at hR
              subst hR
              exact (w10 j x hx).fr fS fun b hb e => by rw [e] at hb; omega
end
end Go.Proofs.YtpbbjfighohokaaI
