/- A node: what a note is; promises. / A node: notes that are gathered. / A node: asked for a promise; promised to; asked for values. / A node: a note is taken. / A node: a crash; one that is none. -/
import Derived.Test.YtpbbjfighohokaaRpE
namespace Go.Proofs.YtpbbjfighohokaaI
attribute [local simp] J0 J1 J2 J3 J4 J5 J6 J7 J8 J9 Ja Jb Jc Jd Je Jf Jg Jh Ji Jj Jk Jl Jm Jn Jo Jp Jq Jr Js Jt Ju Jv Jw Jx Jy Jz JA JB JC JD JE JF JG JH JI JJ JK JL JM JN JO JP JQ JR JS stillI IOp.kind JT JU JV JW JX JY JZ Y0 Y1 Y2 Y3 Y4 Y5 Y6 Y7 Y8 Y9 Ya Yb Yc Yd Ye Yf Yg Yh Yi Yj Yk Yl Ym Yn Yo Yp Yq ial Yr Ys Yt Yu Yv Yw Yx Yy ires iresL ires1 Yz YA YB YC YD YE bin2 YF YG YH YI YJ YK YL YM YN YO YP YQ YR YS YT YU un1 shOk eqL eq1 fillL putAt IHeap.load1 IHeap.loadL IHeap.storeL YV YW YX YY YZ B0 B1 B2 B3 B4 B5 B6 B7 B8 B9 Ba Bb Bc Bd Be Bf Bg Bh Bi Bj Bk Bl Bm Bn Bo Bp
set_option linter.unusedSimpArgs false
set_option linter.unusedVariables false
open Go

def headV (l : List VoteD) : VoteD := l.headD zeroVote
def readV (c : Ctx) (x : NoteD) (u : Value) : Value :=
  if x.kind = 1 then .iface (c.Ty 7) (.agg (rowN x u).toArray) else if x.kind = 2 then .iface (c.Ty 8) (.agg (rowN x u).toArray)
  else if x.kind = 3 ∧ x.votes.length = 1 then .iface (c.Ty 9) (vV (headV x.votes))
  else if x.kind = 4 ∧ x.votes.length = 1 then .iface (c.Ty 10) (.agg #[.int .i64 x.fr, .int .i64 (headV x.votes).slot, .int .i64 (headV x.votes).a, .int .i64 (headV x.votes).n, .string (headV x.votes).val])
  else if x.kind = 5 then .iface (c.Ty 11) (.agg (rowN x u).toArray) else if x.kind = 6 then .iface (c.Ty 12) (.agg #[u]) else .nilIface

def Rp.prepare (R : Rp) (x : NoteD) : Rp × List NoteD :=
  if x.slot < 0 ∨ 1024 ≤ x.slot then ({ R with P := (R.P.step x.ba x.bn).1 }, [])
  else if (R.A.promise x.ba x.bn x.slot).2.2 = false then ({ R with P := (R.P.step x.ba x.bn).1, A := (R.A.promise x.ba x.bn x.slot).1 }, [])
  else ({ R with P := (R.P.step x.ba x.bn).1, A := (R.A.promise x.ba x.bn x.slot).1 }, [⟨2, R.me, x.fr, 0, x.ba, x.bn, (R.A.promise x.ba x.bn x.slot).2.1⟩])
def Rp.promise (R : Rp) (x : NoteD) : Rp × List NoteD :=
  if (R.P.promise x.fr x.ba x.bn x.votes).2 = false then ({ R with P := (R.P.promise x.fr x.ba x.bn x.votes).1 }, [])
  else if (R.P.promise x.fr x.ba x.bn x.votes).1.filled = true then ({ R with P := (R.P.promise x.fr x.ba x.bn x.votes).1 }, [])
  else ({ R with P := (R.P.promise x.fr x.ba x.bn x.votes).1.setFilled true }, ((R.P.promise x.fr x.ba x.bn x.votes).1.fill (endP (R.P.promise x.fr x.ba x.bn x.votes).1)).flatMap fun v => allN R (voteN 3 v))

theorem promise_does {P : Pro} {fr a n : Int} {l : List VoteD} (h : (P.promise fr a n l).2 = true) : (P.promise fr a n l).1.does = 2 ∧ (P.promise fr a n l).1.n = P.n ∧ (P.promise fr a n l).1.me = P.me := by
  unfold Pro.promise at h ⊢
  split at h
  · cases h
  · rename_i h1
    rw [if_neg h1]
    split at h
    · cases h
    · rename_i h2
      rw [if_neg h2]
      have := counts_keep l (P.setWho fr.toNat)
      exact ⟨rfl, this.1, this.2.1⟩
theorem promise_n (P : Pro) (fr a n : Int) (l : List VoteD) : (P.promise fr a n l).1.n = P.n ∧ (P.promise fr a n l).1.me = P.me := by
  have := counts_keep l (P.setWho fr.toNat)
  unfold Pro.promise
  split
  · exact ⟨rfl, rfl⟩
  · split
    · exact ⟨this.1, this.2.1⟩
    · exact ⟨this.1, this.2.1⟩
theorem step_n (P : Pro) (a n : Int) : (P.step a n).1.n = P.n ∧ (P.step a n).1.me = P.me := by
  unfold Pro.step
  split <;> exact ⟨rfl, rfl⟩

section
variable (c : Ctx) (hc : NodeC c) {H : IHeap} {K : Value → IHeap → Prop} {B : Nat → Prop} {p : Nat} {R : Rp}

include hc in
theorem Rread_ok {x : NoteD} {u : Value} {D : Nat → Prop} (hu : SwD D H 4 u (x.votes.map rowV)) (hK : ∀ H', H.le H' → K (readV c x u) H') : c.C (c.F n_replica_read) [.agg (rowN x u).toArray] H K := by
  refine c.enter hc.rep.replica_read rfl ?_
  obtain ⟨H0, hH0⟩ : ∃ X : IHeap, X = H.alloc (.cells (rowN x u) false) := ⟨_, rfl⟩
  have k0 : H.le H0 := by rw [hH0]; exact H.le_alloc _
  have b0 : H0.get H.next = some (.cells (rowN x u) false) := by rw [hH0, YV, if_pos rfl]
  have hH0' : H.alloc (.cells [.int .i64 x.kind, .int .i64 x.fr, .int .i64 x.to, .int .i64 x.slot, .int .i64 x.ba, .int .i64 x.bn, u] false) = H0 := by rw [hH0]; rfl
  obtain ⟨ua, ucap, hue⟩ := hu.2.len
  rw [List.length_map] at hue
  have hK0 := hK H0 k0
  simp only [rowN] at b0
  have hu0 := (hu.le k0).1.sl
  subst hue
  by_cases h1 : x.kind = 1
  · have e : readV c x (.slice ua x.votes.length ucap) = .iface (c.Ty 7) (.agg (rowN x (.slice ua x.votes.length ucap)).toArray) := by unfold readV; rw [if_pos h1]
    rw [e] at hK0
    simp only [rowN, h1] at hK0
    simp only [h1] at hH0' b0
    simp -implicitDefEqProofs [c_replica_read, rowN, hH0', b0, h1]
    exact hK0
  · by_cases h2 : x.kind = 2
    · have e : readV c x (.slice ua x.votes.length ucap) = .iface (c.Ty 8) (.agg (rowN x (.slice ua x.votes.length ucap)).toArray) := by unfold readV; rw [if_neg h1, if_pos h2]
      rw [e] at hK0
      simp only [rowN, h2] at hK0
      simp only [h2] at hH0' b0
      simp -implicitDefEqProofs [c_replica_read, rowN, hH0', b0, h2]
      exact hK0
    · have one : ∀ v, x.votes = [v] → ∃ b o cap cs ro, (Value.slice ua x.votes.length ucap) = .slice (some ⟨b, o, none⟩) 1 cap ∧ H0.get b = some (.cells cs ro) ∧ (cs.drop o).take 4 = rowV v ∧ o + 4 ≤ cs.length := by
        intro v hv
        rw [hv] at hu0 ⊢
        obtain ⟨b, o, cp, cs, ro, ea, hb, hget, hrl, hrow, hbd⟩ := hu0.at (i := 0) (r := rowV v) rfl
        exact ⟨b, o, cp, cs, ro, ea, hget, by simpa using hrow, by simpa using hbd⟩
      by_cases h3 : x.kind = 3
      · have n4 : ¬ x.kind = 4 := by omega
        have n5 : ¬ x.kind = 5 := by omega
        have n6 : ¬ x.kind = 6 := by omega
        match hv : x.votes with
        | [v] =>
          have e : readV c x (.slice ua x.votes.length ucap) = .iface (c.Ty 9) (vV v) := by unfold readV; rw [if_neg h1, if_neg h2, if_pos ⟨h3, by rw [hv]; rfl⟩, hv]; rfl
          rw [e] at hK0
          obtain ⟨b, o, cap, cs, ro, ea, hget, hrow, hbd⟩ := one v hv
          rw [ea] at b0 hH0'
          simp only [rowV] at hrow
          rw [hv] at ea
          simp only [List.length_singleton] at ea ⊢
          rw [ea]
          simp only [vV] at hK0
          simp only [h3] at hH0' b0
          simp -implicitDefEqProofs [c_replica_read, rowN, hH0', b0, h3, hget, hrow, hbd]
          exact hK0
        | [] =>
          have e : readV c x (.slice ua x.votes.length ucap) = .nilIface := by unfold readV; rw [if_neg h1, if_neg h2, if_neg (by rw [hv]; simp), if_neg (by rw [hv]; simp), if_neg n5, if_neg n6]
          rw [e] at hK0
          rw [hv] at b0 hH0'
          simp only [List.length_nil] at b0 hH0' ⊢
          simp only [h3] at hH0' b0
          simp -implicitDefEqProofs [c_replica_read, rowN, hH0', b0, h3]
          exact hK0
        | v :: w :: l =>
          have e : readV c x (.slice ua x.votes.length ucap) = .nilIface := by unfold readV; rw [if_neg h1, if_neg h2, if_neg (by rw [hv]; simp), if_neg (by rw [hv]; simp), if_neg n5, if_neg n6]
          rw [e] at hK0
          have hl1 : ¬ ((x.votes.length : Nat) : Int) = 1 := by rw [hv]; simp; omega
          rw [← hv]
          simp only [h3] at hH0' b0
          simp -implicitDefEqProofs [c_replica_read, rowN, hH0', b0, h3, hl1]
          exact hK0
      · by_cases h4 : x.kind = 4
        · have n5 : ¬ x.kind = 5 := by omega
          have n6 : ¬ x.kind = 6 := by omega
          match hv : x.votes with
          | [v] =>
            have e : readV c x (.slice ua x.votes.length ucap) = .iface (c.Ty 10) (.agg #[.int .i64 x.fr, .int .i64 v.slot, .int .i64 v.a, .int .i64 v.n, .string v.val]) := by unfold readV; rw [if_neg h1, if_neg h2, if_neg (fun h => h3 h.1), if_pos ⟨h4, by rw [hv]; rfl⟩, hv]; rfl
            rw [e] at hK0
            obtain ⟨b, o, cap, cs, ro, ea, hget, hrow, hbd⟩ := one v hv
            rw [ea] at b0 hH0'
            simp only [rowV] at hrow
            rw [hv] at ea
            simp only [List.length_singleton] at ea ⊢
            rw [ea]
            simp only [h4] at hH0' b0
            simp -implicitDefEqProofs [c_replica_read, rowN, hH0', b0, h4, hget, hrow, hbd]
            exact hK0
          | [] =>
            have e : readV c x (.slice ua x.votes.length ucap) = .nilIface := by unfold readV; rw [if_neg h1, if_neg h2, if_neg (by rw [hv]; simp), if_neg (by rw [hv]; simp), if_neg n5, if_neg n6]
            rw [e] at hK0
            rw [hv] at b0 hH0'
            simp only [List.length_nil] at b0 hH0' ⊢
            simp only [h4] at hH0' b0
            simp -implicitDefEqProofs [c_replica_read, rowN, hH0', b0, h4]
            exact hK0
          | v :: w :: l =>
            have e : readV c x (.slice ua x.votes.length ucap) = .nilIface := by unfold readV; rw [if_neg h1, if_neg h2, if_neg (by rw [hv]; simp), if_neg (by rw [hv]; simp), if_neg n5, if_neg n6]
            rw [e] at hK0
            have hl1 : ¬ ((x.votes.length : Nat) : Int) = 1 := by rw [hv]; simp; omega
            rw [← hv]
            simp only [h4] at hH0' b0
            simp -implicitDefEqProofs [c_replica_read, rowN, hH0', b0, h4, hl1]
            exact hK0
        · by_cases h5 : x.kind = 5
          · have e : readV c x (.slice ua x.votes.length ucap) = .iface (c.Ty 11) (.agg (rowN x (.slice ua x.votes.length ucap)).toArray) := by unfold readV; rw [if_neg h1, if_neg h2, if_neg (fun h => h3 h.1), if_neg (fun h => h4 h.1), if_pos h5]
            rw [e] at hK0
            simp only [rowN, h5] at hK0
            simp only [h5] at hH0' b0
            simp -implicitDefEqProofs [c_replica_read, rowN, hH0', b0, h5]
            exact hK0
          · by_cases h6 : x.kind = 6
            · have e : readV c x (.slice ua x.votes.length ucap) = .iface (c.Ty 12) (.agg #[.slice ua x.votes.length ucap]) := by unfold readV; rw [if_neg h1, if_neg h2, if_neg (fun h => h3 h.1), if_neg (fun h => h4 h.1), if_neg h5, if_pos h6]
              rw [e] at hK0
              simp only [h6] at hH0' b0
              simp -implicitDefEqProofs [c_replica_read, rowN, hH0', b0, h6]
              exact hK0
            · have e : readV c x (.slice ua x.votes.length ucap) = .nilIface := by unfold readV; rw [if_neg h1, if_neg h2, if_neg (fun h => h3 h.1), if_neg (fun h => h4 h.1), if_neg h5, if_neg h6]
              rw [e] at hK0
              simp -implicitDefEqProofs [c_replica_read, rowN, hH0', b0, h1, h2, h3, h4, h5, h6]
              exact hK0
end
end Go.Proofs.YtpbbjfighohokaaI
namespace Go.Proofs.YtpbbjfighohokaaI
set_option linter.unusedSimpArgs false
set_option linter.unusedVariables false
open Go

theorem GrowAt.grow {o : Option Nat} {H : IHeap} {size : Nat} {v : Value} {rows : List (List Value)} (h : GrowAt o H size v rows) {N : Nat} (hn : ∀ b, o = some b → N ≤ b) : Grow H N size v rows := by
  cases o with
  | none => exact .inl h
  | some b => exact .inr ⟨h.2.1, b, hn b rfl, h.1, h.2.2.1, h.2.2.2⟩
theorem GrowAt.append {o : Option Nat} {H : IHeap} {size bytes : Nat} {v : Value} {rows new : List (List Value)} (h : GrowAt o H size v rows) (h0 : 0 < size) (h1 : 0 < bytes) (hn : (rows.length + new.length) * bytes ≤ 140737488355328)
    (hl : rows.length + new.length ≤ 140737488355328) (hnew : ∀ r ∈ new, r.length = size) (hone : new.flatten.all one1 = true) :
    ∃ v' H' o', appendI H size bytes v new.length new.flatten = some (v', H') ∧ GrowAt o' H' size v' (rows ++ new) ∧ Fr (fun b => o = some b) H H' ∧ ((o' = o ∧ new = []) ∨ ∃ k, o' = some k ∧ H.next ≤ k ∧ new ≠ []) := by
  by_cases hne : new = []
  · subst hne
    refine ⟨v, H, o, ?_, by simpa using h, Fr.refl _ _, .inl ⟨rfl, rfl⟩⟩
    exact appendI_zero (h.grow (N := 0) fun _ _ => Nat.zero_le _).buf h0 h1 (by simpa using hn) (by simpa using hl)
  · have hlen := flat_len new size hnew
    have hp : new.length ≠ 0 := by simpa using hne
    have hps : 0 < new.length * size := Nat.mul_pos (by omega) h0
    cases o with
    | none =>
      obtain ⟨rfl, rfl⟩ := h
      simp only [List.length_nil, Nat.zero_add] at hn hl
      refine ⟨.slice (some ⟨H.next, 0, none⟩) new.length (UNK + size), H.alloc (.cells new.flatten false), some H.next, ?_, ⟨by rw [YX]; omega, hnew, rfl, by rw [YV, if_pos rfl]; rfl⟩, (H.le_alloc _).fr _, .inr ⟨_, rfl, Nat.le_refl _, hne⟩⟩
      simp only [appendI, Nat.zero_add]
      rw [if_pos ⟨hn, hl, h1, h0, hlen⟩, if_neg hp]
      rfl
    | some blk =>
      obtain ⟨k2, hrows, rfl, k4⟩ := h
      have hall : ∀ r ∈ rows ++ new, r.length = size := fun r hr => by rcases List.mem_append.1 hr with h | h; exact hrows r h; exact hnew r h
      refine ⟨.slice (some ⟨H.next, 0, none⟩) (rows.length + new.length) (UNK + size), (H.set blk .dead).alloc (.cells (rows.flatten ++ new.flatten) false), some H.next, ?_, ⟨by rw [YX, YY]; omega, hall, by simp, by rw [YV, YY, if_pos rfl]; simp⟩, ?_, .inr ⟨_, rfl, Nat.le_refl _, hne⟩⟩
      · have hf : firstI H size rows.length (.slice (some ⟨blk, 0, none⟩) rows.length (UNK + size)) = some rows.flatten := by
          simp only [firstI, IHeap.loadL, k4]
          have hfl := flat_len rows size hrows
          by_cases hz : rows.length * size = 0
          · rw [if_pos hz]
            have : rows.length = 0 := by rcases Nat.mul_eq_zero.1 hz with h | h; exact h; omega
            simp [List.length_eq_zero_iff.1 this]
          · rw [if_neg hz, if_pos (by omega), List.drop_zero, List.take_of_length_le (by omega)]
        have hU : ¬ (UNK + size < UNK) := by omega
        have hfl := flat_len rows size hrows
        have hrl : rows.length * size + new.length * size = (rows.length + new.length) * size := (Nat.add_mul ..).symm
        simp only [appendI]
        rw [if_pos ⟨hn, hl, h1, h0, hlen⟩, if_neg hp, if_neg (fun h => hU h.1)]
        simp only [hf, if_neg hU, if_true, k4, hone]
        rw [if_neg (by omega), if_pos (by omega)]
      · exact ⟨by rw [YX, YY]; omega, fun b hb hnb => by rw [YV, YY, if_neg (by omega), YW, if_neg (fun e => hnb (by rw [e]))]⟩

/-- Notes that are gathered. -/
def NtsG (N : Nat) (o : Option Nat) (H : IHeap) (v : Value) (l : List NoteD) : Prop :=
  ∃ us : List Value, us.length = l.length ∧ GrowAt o H 7 v (List.zipWith rowN l us) ∧ (∀ b, o = some b → N ≤ b ∧ l ≠ []) ∧
    ∀ (i : Nat) (x : NoteD) (u : Value), l[i]? = some x → us[i]? = some u → SwD (fun b => N ≤ b ∧ b < H.next ∧ o ≠ some b) H 4 u (x.votes.map rowV)
theorem NtsG.nil (N : Nat) (H : IHeap) : NtsG N none H (.slice none 0 0) [] := ⟨[], rfl, ⟨rfl, rfl⟩, (fun _ h => by cases h), by simp⟩
theorem NtsG.le {N : Nat} {o : Option Nat} {H H' : IHeap} {v : Value} {l : List NoteD} (h : NtsG N o H v l) (k : H.le H') : NtsG N o H' v l := by
  obtain ⟨us, h1, h2, h3, h4⟩ := h
  exact ⟨us, h1, h2.fr (k.fr fun _ => False) (fun _ _ h => h), h3, fun i x u a b => ((h4 i x u a b).le k).weak fun b hb => ⟨hb.1, Nat.lt_of_lt_of_le hb.2.1 k.next, hb.2.2⟩⟩
theorem NtsG.nts {N : Nat} {o : Option Nat} {H : IHeap} {v : Value} {l : List NoteD} (h : NtsG N o H v l) : NtsD (fun b => N ≤ b ∧ b < H.next) H v l := by
  obtain ⟨us, h1, h2, h3, h4⟩ := h
  refine ⟨us, h1, (h2.grow fun b hb => (h3 b hb).1).swD, fun i x u a b => (h4 i x u a b).weak fun b hb => ⟨hb.1, hb.2.1⟩, ?_⟩
  cases o with
  | none => exact .inl h2
  | some b => exact .inr ⟨fun hz => (h3 b rfl).2 (List.length_eq_zero_iff.1 (by rw [← zip_len h1, hz]; rfl)), .inr ⟨b, h2⟩⟩
theorem zip_seven (l : List NoteD) (us : List Value) : ∀ r ∈ List.zipWith rowN l us, r.length = 7 := by
  intro r hr
  obtain ⟨j, hj⟩ := List.getElem?_of_mem hr
  rw [List.getElem?_zipWith] at hj
  split at hj
  · injection hj with hj; subst hj; rfl
  · cases hj
theorem SlW.one {H : IHeap} {size : Nat} {v : Value} {rows : List (List Value)} (h : SlW H size v rows) : one1 v = true := by
  obtain ⟨a, cap, rfl⟩ := h.len; rfl
theorem zip_one {l : List NoteD} {us : List Value} (h : ∀ u ∈ us, one1 u = true) : (List.zipWith rowN l us).flatten.all one1 = true := by
  rw [List.all_eq_true]
  intro y hy
  obtain ⟨r, hr, hy⟩ := List.mem_flatten.1 hy
  obtain ⟨j, hj⟩ := List.getElem?_of_mem hr
  rw [List.getElem?_zipWith] at hj
  split at hj
  · rename_i a b ha hb
    injection hj with hj; subst hj
    simp only [rowN, List.mem_cons, List.not_mem_nil, or_false] at hy
    rcases hy with rfl | rfl | rfl | rfl | rfl | rfl | rfl <;> first | rfl | exact h _ (List.mem_of_getElem? hb)
  · cases hj
/-- More notes. -/
theorem NtsG.append {N : Nat} {o : Option Nat} {H : IHeap} {v u : Value} {l m : List NoteD} {D : Nat → Prop} (h : NtsG N o H v l) (k : NtsD D H u m) (hD : ∀ b, D b → N ≤ b ∧ b < H.next ∧ o ≠ some b) (hN : N ≤ H.next) (hl : (l.length + m.length) * 72 ≤ 140737488355328) :
    ∃ v' H' o' news, firstI H 7 m.length u = some news ∧ appendI H 7 72 v m.length news = some (v', H') ∧ NtsG N o' H' v' (l ++ m) ∧ Fr (fun b => o = some b) H H' := by
  obtain ⟨us, h1, h2, h3, h4⟩ := h
  obtain ⟨ws, k1, k2, k3, _⟩ := k
  have hzl := zip_len h1
  have hzm := zip_len k1
  have hone : ∀ w ∈ ws, one1 w = true := by
    intro w hw
    obtain ⟨j, hj⟩ := List.getElem?_of_mem hw
    have hjl := (List.getElem?_eq_some_iff.1 hj).1
    exact (k3 j m[j] w (List.getElem?_eq_getElem (by omega)) hj).2.one
  obtain ⟨v', H', o', e1, e2, e3, e4⟩ := h2.append (bytes := 72) (new := List.zipWith rowN m ws) (by omega) (by omega) (by rw [hzl, hzm]; exact hl) (by rw [hzl, hzm]; omega) (zip_seven m ws) (zip_one hone)
  have hf := k2.2.first (by omega)
  rw [hzm] at hf e1
  refine ⟨v', H', o', _, hf, e1, ⟨us ++ ws, by simp [h1, k1], ?_, ?_, ?_⟩, e3⟩
  · rw [List.zipWith_append h1.symm]; exact e2
  · intro b hb
    rcases e4 with ⟨e4, e5⟩ | ⟨x, e4, e5, e6⟩
    · exact ⟨(h3 b (e4 ▸ hb)).1, by simp [(h3 b (e4 ▸ hb)).2]⟩
    · rw [e4] at hb; injection hb with hb
      refine ⟨by omega, fun hz => e6 ?_⟩
      have : m = [] := (List.append_eq_nil_iff.1 hz).2
      rw [this]; rfl
  · have hw : ∀ w (x : NoteD), SwD (fun b => N ≤ b ∧ b < H.next ∧ o ≠ some b) H 4 w (x.votes.map rowV) → SwD (fun b => N ≤ b ∧ b < H'.next ∧ o' ≠ some b) H' 4 w (x.votes.map rowV) := by
      intro w x hw
      refine (hw.fr e3 fun b hb => hb.2.2).weak fun b hb => ⟨hb.1, Nat.lt_of_lt_of_le hb.2.1 e3.next, fun hc => ?_⟩
      rcases e4 with ⟨e4, _⟩ | ⟨z, e4, e5, _⟩
      · exact hb.2.2 (e4 ▸ hc)
      · rw [e4] at hc; injection hc with hc; omega
    intro i x w a b
    by_cases hi : i < l.length
    · rw [List.getElem?_append_left hi] at a
      rw [List.getElem?_append_left (by omega)] at b
      exact hw w x (h4 i x w a b)
    · rw [List.getElem?_append_right (by omega)] at a
      rw [List.getElem?_append_right (by omega), h1] at b
      exact hw w x ((k3 _ x w a b).weak hD)
end Go.Proofs.YtpbbjfighohokaaI
namespace Go.Proofs.YtpbbjfighohokaaI
attribute [local simp] J0 J1 J2 J3 J4 J5 J6 J7 J8 J9 Ja Jb Jc Jd Je Jf Jg Jh Ji Jj Jk Jl Jm Jn Jo Jp Jq Jr Js Jt Ju Jv Jw Jx Jy Jz JA JB JC JD JE JF JG JH JI JJ JK JL JM JN JO JP JQ JR JS stillI IOp.kind JT JU JV JW JX JY JZ Y0 Y1 Y2 Y3 Y4 Y5 Y6 Y7 Y8 Y9 Ya Yb Yc Yd Ye Yf Yg Yh Yi Yj Yk Yl Ym Yn Yo Yp Yq ial Yr Ys Yt Yu Yv Yw Yx Yy ires iresL ires1 Yz YA YB YC YD YE bin2 YF YG YH YI YJ YK YL YM YN YO YP YQ YR YS YT YU un1 shOk eqL eq1 fillL putAt IHeap.load1 IHeap.loadL IHeap.storeL YV YW YX YY YZ B0 B1 B2 B3 B4 B5 B6 B7 B8 B9 Ba Bb Bc Bd Be Bf Bg Bh Bi Bj Bk Bl Bm Bn Bo Bp
set_option linter.unusedSimpArgs false
set_option linter.unusedVariables false
open Go

def votesFrom (s : Int) (i : Nat) : List ByteArray → List VoteD
  | [] => []
  | x :: l => ⟨s + (i : Int), 0, 0, x⟩ :: votesFrom s (i + 1) l
theorem votesFrom_snoc (s : Int) (x : ByteArray) : ∀ (l : List ByteArray) (i : Nat), votesFrom s i (l ++ [x]) = votesFrom s i l ++ [⟨s + ((i + l.length : Nat) : Int), 0, 0, x⟩]
  | [], i => rfl
  | y :: l, i => by
    have := votesFrom_snoc s x l (i + 1)
    simp only [List.cons_append, votesFrom, this, List.length_cons]
    rw [show i + 1 + l.length = i + (l.length + 1) by omega]
theorem votesFrom_len (s : Int) : ∀ (l : List ByteArray) (i : Nat), (votesFrom s i l).length = l.length
  | [], _ => rfl
  | y :: l, i => by simp only [votesFrom, List.length_cons, votesFrom_len s l]
def tellN (R : Rp) (x : NoteD) : List VoteD := votesFrom x.slot 0 ((logL R.L x.slot).take 8)
def Rp.tell (R : Rp) (x : NoteD) : List NoteD := if x.slot < R.L.base then [] else if tellN R x = [] then [] else [⟨6, R.me, x.fr, 0, 0, 0, tellN R x⟩]

section
variable (c : Ctx) (hc : NodeC c) {H : IHeap} {K : Value → IHeap → Prop} {B : Nat → Prop} {p : Nat} {R : Rp}

include hc in
theorem RPrepare_ok {x : NoteD} {u : Value} (h : IsR B H p R) (ho : R.ok) (hK : ∀ v H', Said B H p (R.prepare x).1 (R.prepare x).2 v H' → K v H') :
    c.C (c.F n_replica_Replica_prepare) [.pointer (some ⟨p, 0, none⟩), .agg (rowN x u).toArray] H K := by
  refine c.enter hc.rep.replica_Replica_prepare rfl ?_
  obtain ⟨pa, pp, pl, Bxa, Bxp, Bxl, h, hB⟩ := h
  have g := h.get
  have hlt := h.lt
  obtain ⟨H0, hH0⟩ : ∃ X : IHeap, X = H.alloc (.cells (rowN x u) false) := ⟨_, rfl⟩
  have k0 : H.le H0 := by rw [hH0]; exact H.le_alloc _
  have n0 : H0.next = H.next + 1 := by rw [hH0]; rfl
  have b0 : H0.get H.next = some (.cells (rowN x u) false) := by rw [hH0, YV, if_pos rfl]
  have hH0' : H.alloc (.cells [.int .i64 x.kind, .int .i64 x.fr, .int .i64 x.to, .int .i64 x.slot, .int .i64 x.ba, .int .i64 x.bn, u] false) = H0 := by rw [hH0]; rfl
  simp only [rowN] at b0
  have nu : ¬ uni p Bxa Bxp Bxl H.next := fun hh => by have := h.uni_lt _ hh; omega
  have h0 := h.le k0
  have g0 := h0.get
  simp -implicitDefEqProofs [c_replica_Replica_prepare, rowN, hH0', b0, g0]
  refine dcall_of c.mono (PStep_ok c hc.ba hc.pro (a := x.ba) (n := x.bn) h0.q fun H1 f1 i1 => ?_)
  obtain ⟨h1, f1', _⟩ := h0.pro f1 (fun b hb => .inl hb) i1
  have n1 := f1.next
  have b1 := (f1'.get H.next (by omega) nu).trans b0
  have g1 := h1.get
  simp only at g1
  have F1 : Fr (uni p Bxa Bxp Bxl) H H1 := k0.trans_fr f1'
  by_cases hs : x.slot < 0 ∨ 1024 ≤ x.slot
  · have hp : R.prepare x = ({ R with P := (R.P.step x.ba x.bn).1 }, []) := by unfold Rp.prepare; rw [if_pos hs]
    rw [hp] at hK
    have fin := hK (.slice none 0 0) H1 ⟨B, F1.iff hB, fun b hb => .inl hb, ⟨pa, pp, pl, Bxa, Bxp, Bxl, h1, hB⟩, NtsD.nil _ _⟩
    by_cases hs1 : x.slot < 0
    · simp -implicitDefEqProofs [b1, hs1]
      exact fin
    · have hs2 : 1024 ≤ x.slot := hs.resolve_left hs1
      simp -implicitDefEqProofs [b1, hs1, hs2]
      exact fin
  · have hs1 : ¬ x.slot < 0 := fun h => hs (.inl h)
    have hs2 : ¬ 1024 ≤ x.slot := fun h => hs (.inr h)
    simp -implicitDefEqProofs [b1, hs1, hs2, g1]
    refine dcall_of c.mono (APromiseB c hc.acc hc.ba (A := R.A) (a := x.ba) (n := x.bn) h1.a (Nat.le_trans (acc_len ho.2.2.2.2 h.a.sorted) (by omega)) fun v2 H2 f2 a2 w2 => ?_)
    obtain ⟨h2, f2', _⟩ := h1.acc f2 (fun b hb => .inl hb) a2
    have n2 := f2.next
    have b2 := (f2'.get H.next (by omega) nu).trans b1
    have g2 := h2.get
    simp only at g2
    have F2 : Fr (uni p Bxa Bxp Bxl) H H2 := F1.trans f2' fun b hb => .inl hb
    cases hq : (R.A.promise x.ba x.bn x.slot).2.2 with
    | false =>
      have hp : R.prepare x = ({ R with P := (R.P.step x.ba x.bn).1, A := (R.A.promise x.ba x.bn x.slot).1 }, []) := by unfold Rp.prepare; rw [if_neg hs, if_pos hq]
      rw [hp] at hK
      simp -implicitDefEqProofs []
      exact hK _ H2 ⟨B, F2.iff hB, fun b hb => .inl hb, ⟨pa, pp, pl, Bxa, Bxp, Bxl, h2, hB⟩, NtsD.nil _ _⟩
    | true =>
      obtain ⟨y, hy⟩ : ∃ y : NoteD, y = ⟨2, R.me, x.fr, 0, x.ba, x.bn, (R.A.promise x.ba x.bn x.slot).2.1⟩ := ⟨_, rfl⟩
      have hp : R.prepare x = ({ R with P := (R.P.step x.ba x.bn).1, A := (R.A.promise x.ba x.bn x.slot).1 }, [y]) := by unfold Rp.prepare; rw [if_neg hs, if_neg (by rw [hq]; simp), hy]
      rw [hp] at hK
      obtain ⟨H3, hH3⟩ : ∃ X : IHeap, X = H2.alloc (.cells (rowN y v2) false) := ⟨_, rfl⟩
      have hH3' : H2.alloc (.cells [.int .i64 2, .int .i64 R.me, .int .i64 x.fr, .int .i64 0, .int .i64 x.ba, .int .i64 x.bn, v2] false) = H3 := by rw [hH3, hy]; rfl
      have k3 : H2.le H3 := by rw [hH3]; exact H2.le_alloc _
      have n3 : H3.next = H2.next + 1 := by rw [hH3]; rfl
      obtain ⟨va, vc, hv2⟩ := w2.2.len
      have o2 : v2.cells = #[v2] := by rw [hv2]; rfl
      have o3 : one1 v2 = true := by rw [hv2]; rfl
      simp -implicitDefEqProofs [b2, g2, o2, o3, hH3']
      have nt := one_note (n := H1.next) (x := y) (u := v2) (D := fun b => H1.next ≤ b ∧ b < H3.next) (show H3.get H2.next = _ by rw [hH3, YV, if_pos rfl]) (by omega) n2 (by rw [show y.votes = (R.A.promise x.ba x.bn x.slot).2.1 by rw [hy]]; exact (w2.le k3).weak fun b hb => ⟨hb.1, by omega⟩) (fun b hb => hb)
      have h3 := h2.le k3
      refine hK _ H3 ⟨B, (F2.iff hB).trans_le k3, fun b hb => .inl hb, ⟨pa, pp, pl, Bxa, Bxp, Bxl, h3, hB⟩, nt.weak fun b hb => ⟨by omega, hb.2, fun hh => ?_⟩⟩
      have := h1.uni_lt b ((hB b).1 hh)
      omega

include hc in
theorem RPromise_ok {x : NoteD} {u : Value} {D : Nat → Prop} (h : IsR B H p R) (ho : R.ok) (hu : SwD D H 4 u (x.votes.map rowV)) (hD : ∀ b, D b → ¬ B b) (hvl : x.votes.length ≤ 1000000) (hK : ∀ v H', Said B H p (R.promise x).1 (R.promise x).2 v H' → K v H') :
    c.C (c.F n_replica_Replica_promise) [.pointer (some ⟨p, 0, none⟩), .agg (rowN x u).toArray] H K := by
  refine c.enter hc.rep.replica_Replica_promise rfl ?_
  obtain ⟨pa, pp, pl, Bxa, Bxp, Bxl, h, hB⟩ := h
  have g := h.get
  have hlt := h.lt
  obtain ⟨H0, hH0⟩ : ∃ X : IHeap, X = H.alloc (.cells (rowN x u) false) := ⟨_, rfl⟩
  have k0 : H.le H0 := by rw [hH0]; exact H.le_alloc _
  have n0 : H0.next = H.next + 1 := by rw [hH0]; rfl
  have b0 : H0.get H.next = some (.cells (rowN x u) false) := by rw [hH0, YV, if_pos rfl]
  have hH0' : H.alloc (.cells [.int .i64 x.kind, .int .i64 x.fr, .int .i64 x.to, .int .i64 x.slot, .int .i64 x.ba, .int .i64 x.bn, u] false) = H0 := by rw [hH0]; rfl
  obtain ⟨ua, ucap, hue⟩ := hu.2.len
  have ou : u.cells = #[u] := by rw [hue]; rfl
  simp only [rowN] at b0
  have nu : ¬ uni p Bxa Bxp Bxl H.next := fun hh => by have := h.uni_lt _ hh; omega
  have h0 := h.le k0
  have g0 := h0.get
  have hn7 := (quorumI_ne ho.1.1).2.1
  simp -implicitDefEqProofs [c_replica_Replica_promise, rowN, hH0', b0, g0]
  refine dcall_of c.mono (PPromise_ok c hc.ba hc.bb hc.pro hc.pT (fr := x.fr) (a := x.ba) (n := x.bn) (l := x.votes) h0.q ho.1.2.2.2.1 hn7 (hu.le k0).1 (fun b hb hh => hD b hb ((hB b).2 (.inr (.inr (.inl hh))))) hvl fun H1 f1 i1 => ?_)
  obtain ⟨h1, f1', _⟩ := h0.pro f1 (fun b hb => .inl hb) i1
  obtain ⟨q, hq⟩ : ∃ q, q = R.P.promise x.fr x.ba x.bn x.votes := ⟨_, rfl⟩
  have hqn := promise_n R.P x.fr x.ba x.bn x.votes
  have hqok := ho.1.promise x.fr x.ba x.bn x.votes
  have hqd := promise_does (P := R.P) (fr := x.fr) (a := x.ba) (n := x.bn) (l := x.votes)
  rw [← hq] at h1 hqn hqok hqd ⊢
  have n1 := f1.next
  have g1 := h1.get
  simp only at g1
  have F1 : Fr (uni p Bxa Bxp Bxl) H H1 := k0.trans_fr f1'
  cases hq2 : q.2 with
  | false =>
    have hp : R.promise x = ({ R with P := q.1 }, []) := by unfold Rp.promise; rw [← hq, if_pos hq2]
    rw [hp] at hK
    simp -implicitDefEqProofs []
    exact hK _ H1 ⟨B, F1.iff hB, fun b hb => .inl hb, ⟨pa, pp, pl, Bxa, Bxp, Bxl, h1, hB⟩, NtsD.nil _ _⟩
  | true =>
    simp -implicitDefEqProofs [g1]
    refine call_of (PFill_ok c hc.pro hc.pT h1.q hqok (fun hbad => ?_) fun hd hf e he v2 H2 f2 i2 g2 => ?_)
    · have hfl : q.1.filled = true := by
        rcases hbad with hb | hb
        · exact absurd (hqd hq2).1 hb
        · exact hb
      have hp : R.promise x = ({ R with P := q.1 }, []) := by unfold Rp.promise; rw [← hq, if_neg (by rw [hq2]; simp), if_pos hfl]
      rw [hp] at hK
      simp -implicitDefEqProofs []
      refine loop_nat c.mono (fun k T H' => T 5 = .slice none 0 0 ∧ T 25 = .int .i64 0 ∧ T 26 = .int .i64 0 ∧ H' = H1) 0 ?_ ?_
      · simp -implicitDefEqProofs []
      · rintro k T H' ⟨t5, t25, t26, rfl⟩
        simp -implicitDefEqProofs [t5, t25, t26]
        exact hK _ H' ⟨B, F1.iff hB, fun b hb => .inl hb, ⟨pa, pp, pl, Bxa, Bxp, Bxl, h1, hB⟩, NtsD.nil _ _⟩
    · have hee : e = endP q.1 := he.uniq (endP_ok hqok)
      subst hee
      have hf' : q.1.filled = false := hf
      obtain ⟨vs, hvs⟩ : ∃ vs, vs = q.1.fill (endP q.1) := ⟨_, rfl⟩
      have hp : R.promise x = ({ R with P := q.1.setFilled true }, vs.flatMap fun v => allN R (voteN 3 v)) := by unfold Rp.promise; rw [← hq, if_neg (by rw [hq2]; simp), if_neg (by rw [hf']; simp), ← hvs]
      rw [hp] at hK
      rw [show ({ R with P := q.1 } : Rp).P.fill (endP q.1) = vs from hvs.symm] at g2
      obtain ⟨h2, f2', _⟩ := h1.pro f2 (fun b hb => .inl hb) i2
      have n2 := f2.next
      have F2 : Fr (uni p Bxa Bxp Bxl) H H2 := F1.trans f2' fun b hb => .inl hb
      have hvl2 : vs.length ≤ 1024 := by
        rw [hvs]
        unfold Pro.fill
        rw [filledL_len]
        have z := endP_bd hqok
        obtain ⟨_, _, _, z4, z5, z6, _, _⟩ := hqok
        omega
      have hR2 : Rp.ok { R with P := q.1.setFilled true } := ⟨hqok.setFilled true, hqn.1.trans ho.2.1, hqn.2.trans ho.2.2.1, ho.2.2.2.1, ho.2.2.2.2⟩
      have hal : ∀ v, (allN R (voteN 3 v)).length ≤ 7 := by
        intro v
        have := ho.2.1
        unfold allN
        rw [List.length_map, List.length_range]
        omega
      have hlen : ∀ l : List VoteD, (l.flatMap fun v => allN R (voteN 3 v)).length ≤ 7 * l.length := by
        intro l
        induction l with
        | nil => exact Nat.le_refl _
        | cons v l ih => rw [List.flatMap_cons, List.length_append, List.length_cons]; have := hal v; omega
      obtain ⟨a2, cp2, hv2, _⟩ := id g2.slr
      rw [List.length_map] at hv2
      have sv := g2.slr
      subst hv2
      simp -implicitDefEqProofs [g1]
      refine loop_nat c.mono (fun k T H' => ∃ (j : Nat) (o : Option Nat), j ≤ vs.length ∧ k = vs.length - j ∧ T 0 = .pointer (some ⟨p, 0, none⟩) ∧ T 24 = .slice a2 vs.length cp2 ∧ T 25 = .int .i64 vs.length ∧ T 26 = .int .i64 j ∧ H2.le H' ∧
        NtsG H2.next o H' (T 5) ((vs.take j).flatMap fun v => allN R (voteN 3 v))) vs.length ?_ ?_
      · refine ⟨0, none, by omega, rfl, ?_⟩
        simp -implicitDefEqProofs []
        exact ⟨IHeap.le_refl _, NtsG.nil _ _⟩
      · rintro k T H' ⟨j, o, hj, rfl, t0, t24, t25, t26, kH, ng⟩
        have nH := kH.next
        by_cases hjl : j < vs.length
        · have hjl' : (j : Int) < (vs.length : Int) := by omega
          have wj : IntKind.i64.wrap ((j : Int) + 1) = (j : Int) + 1 := wrap64 (by omega) (by omega)
          have hx0 : vs[j]? = some vs[j] := List.getElem?_eq_getElem hjl
          obtain ⟨v, hv⟩ : ∃ v, v = vs[j] := ⟨_, rfl⟩
          rw [← hv] at hx0
          obtain ⟨b5, o5, cp5, cs5, ro5, ea5, hb5, hget5, hrl5, hrow5, hbd5⟩ := (sv.le kH).at (i := j) (r := rowV v) (by simp [hx0])
          rw [List.length_map] at ea5
          simp only [Value.slice.injEq] at ea5
          obtain ⟨rfl, -, rfl⟩ := ea5
          simp only [rowV] at hrow5
          obtain ⟨H3, hH3⟩ : ∃ X : IHeap, X = (H'.alloc (.cells [.int .i64 0, .int .i64 0, .int .i64 0, .string ⟨#[]⟩] false)).set H'.next (.cells [.int .i64 v.slot, .int .i64 v.a, .int .i64 v.n, .string v.val] false) := ⟨_, rfl⟩
          have k3 : H'.le H3 := by rw [hH3]; exact (H'.le_alloc _).set (Nat.le_refl _) _
          have b3 : H3.get H'.next = some (.cells [.int .i64 v.slot, .int .i64 v.a, .int .i64 v.n, .string v.val] false) := by rw [hH3, YW, if_pos rfl]
          have n3 : H3.next = H'.next + 1 := by rw [hH3]; rfl
          simp -implicitDefEqProofs [t0, t24, t25, t26, hjl, hjl', hget5, hrow5, hbd5, ← hH3, b3]
          refine call_of (Rvote_ok c hc (k := 3) (v := v) (R := { R with P := q.1.setFilled true }) (B := B) ⟨pa, pp, pl, Bxa, Bxp, Bxl, h2.le (kH.trans k3), hB⟩ hR2 fun w H4 k4 nt => ?_)
          have nt' : NtsD (fun b => H3.next ≤ b ∧ b < H4.next) H4 w (allN R (voteN 3 v)) := nt
          have n4 := k4.next
          have hoN : ∀ b, o = some b → b < H'.next := by
            intro b hb
            obtain ⟨us, _, z2, _⟩ := ng
            rw [hb] at z2
            exact z2.1
          have hl1 := hlen (vs.take j)
          have hl2 := hal v
          have hl3 : (vs.take j).length ≤ 1024 := by rw [List.length_take]; omega
          obtain ⟨v5, H5, o', news, e1, e2, e3, e4⟩ := (ng.le (k3.trans k4)).append nt' (fun b hb => ⟨by omega, hb.2, fun he => by have := hoN b he; omega⟩) (by omega) (by omega)
          obtain ⟨wa, wc, hw⟩ := nt'.len
          subst hw
          simp -implicitDefEqProofs [t0, t24, t25, t26, lenOfI, e1, e2, wj]
          have n5 := e4.next
          refine ⟨vs.length - (j + 1), by omega, j + 1, by omega, rfl, rfl, ?_, o', ?_⟩
          · refine ⟨by omega, fun b hb => ?_⟩
            rw [e4.get b (by omega) (fun he => by obtain ⟨us, _, _, z3, _⟩ := ng; have := (z3 b he).1; omega), (k3.trans k4).get b (by omega), kH.get b hb]
          · rw [List.take_add_one, hx0, List.flatMap_append]
            simpa using e3
        · have hjl' : ¬ (j : Int) < (vs.length : Int) := by omega
          have hje : j = vs.length := by omega
          subst hje
          rw [List.take_length] at ng
          simp -implicitDefEqProofs [t0, t24, t25, t26, hjl, hjl']
          refine hK _ H' ⟨B, (F2.iff hB).trans_le kH, fun b hb => .inl hb, ⟨pa, pp, pl, Bxa, Bxp, Bxl, h2.le kH, hB⟩, ng.nts.weak fun b hb => ⟨by omega, hb.2, fun hh => ?_⟩⟩
          have := h2.uni_lt b ((hB b).1 hh)
          omega

include hc in
theorem RTell_ok {x : NoteD} {u : Value} (h : IsR B H p R) (hK : ∀ v H', H.le H' → NtsD (fun b => H.next ≤ b ∧ b < H'.next) H' v (R.tell x) → K v H') :
    c.C (c.F n_replica_Replica_tell) [.pointer (some ⟨p, 0, none⟩), .agg (rowN x u).toArray] H K := by
  refine c.enter hc.rep.replica_Replica_tell rfl ?_
  obtain ⟨pa, pp, pl, Bxa, Bxp, Bxl, h, hB⟩ := h
  have g := h.get
  have hlt := h.lt
  obtain ⟨H0, hH0⟩ : ∃ X : IHeap, X = H.alloc (.cells (rowN x u) false) := ⟨_, rfl⟩
  have k0 : H.le H0 := by rw [hH0]; exact H.le_alloc _
  have n0 : H0.next = H.next + 1 := by rw [hH0]; rfl
  have b0 : H0.get H.next = some (.cells (rowN x u) false) := by rw [hH0, YV, if_pos rfl]
  have hH0' : H.alloc (.cells [.int .i64 x.kind, .int .i64 x.fr, .int .i64 x.to, .int .i64 x.slot, .int .i64 x.ba, .int .i64 x.bn, u] false) = H0 := by rw [hH0]; rfl
  simp only [rowN] at b0
  have h0 := h.le k0
  have g0 := h0.get
  simp -implicitDefEqProofs [c_replica_Replica_tell, rowN, hH0', b0, g0]
  refine dcall_of c.mono (LBaseB c hc.ler h0.l ?_)
  by_cases hs : x.slot < R.L.base
  · have ht : R.tell x = [] := by unfold Rp.tell; rw [if_pos hs]
    rw [ht] at hK
    simp -implicitDefEqProofs [b0, hs]
    exact hK _ H0 k0 (NtsD.nil _ _)
  · simp -implicitDefEqProofs [b0, hs, g0]
    refine dcall_of c.mono (LLogB c hc.ler hc.lT (u := x.slot) h0.l fun v1 H1 k1 g1 => ?_)
    obtain ⟨L, hL⟩ : ∃ L, L = logL R.L x.slot := ⟨_, rfl⟩
    rw [← hL] at g1
    have n1 := k1.next
    have lok := h.l.ok
    have nxl := nextL_ok lok
    have hLl : L ≠ [] → 0 ≤ x.slot ∧ x.slot + L.length ≤ 1024 := by
      intro hne
      have hl : L.length = (nextL R.L - (if x.slot < R.L.base then R.L.base else x.slot)).toNat := by rw [hL]; unfold logL; rw [List.length_map, List.length_range]
      rw [if_neg hs] at hl
      have : L.length ≠ 0 := fun hz => hne (List.length_eq_zero_iff.1 hz)
      have z3 := lok.2.2.1
      have z2 := nxl.2.1
      omega
    have hLb : L.length ≤ 1024 := by
      by_cases hne : L = []
      · rw [hne]; simp
      · have := hLl hne; omega
    obtain ⟨a1, cp1, hv1, _⟩ := id g1.slr
    rw [List.length_map] at hv1
    have s1 := g1.slr
    subst hv1
    have k01 := k0.trans k1
    have b1 := (k1.get H.next (by omega)).trans b0
    have g1' := (k01.get p hlt).trans g
    simp -implicitDefEqProofs []
    refine loop_nat c.mono (fun k T H' => ∃ j : Nat, j ≤ L.length ∧ k = L.length - j ∧ T 0 = .pointer (some ⟨p, 0, none⟩) ∧ T 3 = .pointer (some ⟨H.next, 0, none⟩) ∧ T 22 = .slice a1 L.length cp1 ∧ T 23 = .int .i64 L.length ∧ T 24 = .int .i64 j ∧ H1.le H' ∧
      Grow H' H1.next 4 (T 5) ((votesFrom x.slot 0 (L.take (min j 8))).map rowV)) L.length ?_ ?_
    · refine ⟨0, by omega, rfl, ?_⟩
      simp -implicitDefEqProofs []
      exact ⟨IHeap.le_refl _, Grow.nil _ _ _⟩
    · rintro k T H' ⟨j, hj, rfl, t0, t3, t22, t23, t24, kH, gr⟩
      have nH := kH.next
      have bH := (kH.get H.next (by omega)).trans b1
      by_cases hjl : j < L.length
      · have hjl' : (j : Int) < (L.length : Int) := by omega
        have wj : IntKind.i64.wrap ((j : Int) + 1) = (j : Int) + 1 := wrap64 (by omega) (by omega)
        have hx0 : L[j]? = some L[j] := List.getElem?_eq_getElem hjl
        obtain ⟨y, hy⟩ : ∃ y, y = L[j] := ⟨_, rfl⟩
        rw [← hy] at hx0
        obtain ⟨b5, o5, cp5, cs5, ro5, ea5, hb5, hget5, hc5⟩ := (s1.le kH).at1 (i := j) (x := .string y) (by simp [hx0])
        rw [List.length_map] at ea5
        simp only [Value.slice.injEq] at ea5
        obtain ⟨rfl, -, rfl⟩ := ea5
        by_cases hj8 : j < 8
        · have hj8' : (j : Int) < 8 := by omega
          have hne : L ≠ [] := fun hz => by rw [hz] at hjl; simp at hjl
          have ws : IntKind.i64.wrap (x.slot + (j : Int)) = x.slot + (j : Int) := wrap64 (by have := hLl hne; omega) (by have := hLl hne; omega)
          obtain ⟨V, hV⟩ : ∃ V : VoteD, V = ⟨x.slot + (j : Int), 0, 0, y⟩ := ⟨_, rfl⟩
          obtain ⟨H2, hH2⟩ : ∃ X : IHeap, X = H'.alloc (.cells (rowV V) false) := ⟨_, rfl⟩
          have k2 : H'.le H2 := by rw [hH2]; exact H'.le_alloc _
          have b2 : H2.get H'.next = some (.cells (rowV V) false) := by rw [hH2, YV, if_pos rfl]
          have hH2' : H'.alloc (.cells [.int .i64 (x.slot + (j : Int)), .int .i64 0, .int .i64 0, .string y] false) = H2 := by rw [hH2, hV]; rfl
          have hlen := votesFrom_len x.slot (L.take (min j 8)) 0
          have hlt8 : (L.take (min j 8)).length ≤ 8 := by rw [List.length_take]; omega
          have n2 := k2.next
          obtain ⟨v5, H5, ap, gr5, kp5⟩ := (gr.le k2).append1 (bytes := 40) (new := rowV V) (by omega) (by omega) (by omega) (by rw [List.length_map]; omega) (by rw [List.length_map]; omega) rfl rfl
          simp only [rowV] at b2 ap
          simp -implicitDefEqProofs [t0, t3, t22, t23, t24, hjl, hjl', hget5, hc5, hj8', bH, ws, hH2', lenOfI, firstI, b2, ap, wj]
          refine ⟨L.length - (j + 1), by omega, j + 1, by omega, rfl, rfl, ⟨Nat.le_trans (kH.trans k2).next kp5.next, fun b hb => (kp5.get b hb).trans ((kH.trans k2).get b hb)⟩, ?_⟩
          · have e1 : min (j + 1) 8 = j + 1 := by omega
            have e2 : min j 8 = j := by omega
            rw [e2] at gr5
            rw [e1, List.take_add_one, hx0]
            simp only [Option.toList_some]
            rw [votesFrom_snoc, List.map_append, show (0 + (L.take j).length) = j by rw [List.length_take]; omega]
            exact hV ▸ gr5
        · have hj8' : ¬ (j : Int) < 8 := by omega
          simp -implicitDefEqProofs [t0, t3, t22, t23, t24, hjl, hjl', hget5, hc5, hj8', wj]
          refine ⟨L.length - (j + 1), by omega, j + 1, by omega, rfl, rfl, kH, ?_⟩
          rw [show min (j + 1) 8 = 8 by omega]
          rw [show min j 8 = 8 by omega] at gr
          exact gr
      · have hjl' : ¬ (j : Int) < (L.length : Int) := by omega
        have hje : j = L.length := by omega
        subst hje
        have hts : tellN R x = votesFrom x.slot 0 (L.take (min L.length 8)) := by
          unfold tellN
          rw [← hL]
          congr 1
          by_cases h8 : L.length ≤ 8
          · rw [Nat.min_eq_left h8, List.take_length, List.take_of_length_le h8]
          · rw [Nat.min_eq_right (by omega)]
        rw [← hts] at gr
        obtain ⟨a9, c9, hv9⟩ := gr.len
        rw [List.length_map] at hv9
        by_cases hz : tellN R x = []
        · have ht : R.tell x = [] := by unfold Rp.tell; rw [if_neg hs, if_pos hz]
          rw [ht] at hK
          rw [hz] at hv9
          simp only [List.length_nil] at hv9
          simp -implicitDefEqProofs [t0, t3, t22, t23, t24, hjl, hjl', hv9]
          exact hK _ H' (k01.trans kH) (NtsD.nil _ _)
        · obtain ⟨y, hy⟩ : ∃ y : NoteD, y = ⟨6, R.me, x.fr, 0, 0, 0, tellN R x⟩ := ⟨_, rfl⟩
          have ht : R.tell x = [y] := by unfold Rp.tell; rw [if_neg hs, if_neg hz, hy]
          rw [ht] at hK
          have hlz : ¬ (((tellN R x).length : Nat) : Int) = 0 := fun hh => hz (List.length_eq_zero_iff.1 (by omega))
          have gH := (kH.get p (by omega)).trans g1'
          obtain ⟨H3, hH3⟩ : ∃ X : IHeap, X = H'.alloc (.cells (rowN y (T 5)) false) := ⟨_, rfl⟩
          have k3 : H'.le H3 := by rw [hH3]; exact H'.le_alloc _
          have hH3' : H'.alloc (.cells [.int .i64 6, .int .i64 R.me, .int .i64 x.fr, .int .i64 0, .int .i64 0, .int .i64 0, .slice a9 (tellN R x).length c9] false) = H3 := by rw [hH3, hy, hv9]; rfl
          have n3 : H3.next = H'.next + 1 := by rw [hH3]; rfl
          simp -implicitDefEqProofs [t0, t3, t22, t23, t24, hjl, hjl', hv9, hz, hlz, gH, bH, hH3']
          exact hK _ H3 ((k01.trans kH).trans k3) ((one_note (n := H1.next) (D := fun b => H1.next ≤ b ∧ b < H3.next) (show H3.get H'.next = some (.cells (rowN y (T 5)) false) by rw [hH3, YV, if_pos rfl]) (by omega) nH (by rw [show y.votes = tellN R x by rw [hy]]; exact (gr.swD.le k3).weak fun b hb => ⟨hb.1, by omega⟩) fun b hb => hb).weak fun b hb => ⟨by omega, hb.2⟩)
end
end Go.Proofs.YtpbbjfighohokaaI
namespace Go.Proofs.YtpbbjfighohokaaI
attribute [local simp] J0 J1 J2 J3 J4 J5 J6 J7 J8 J9 Ja Jb Jc Jd Je Jf Jg Jh Ji Jj Jk Jl Jm Jn Jo Jp Jq Jr Js Jt Ju Jv Jw Jx Jy Jz JA JB JC JD JE JF JG JH JI JJ JK JL JM JN JO JP JQ JR JS stillI IOp.kind JT JU JV JW JX JY JZ Y0 Y1 Y2 Y3 Y4 Y5 Y6 Y7 Y8 Y9 Ya Yb Yc Yd Ye Yf Yg Yh Yi Yj Yk Yl Ym Yn Yo Yp Yq ial Yr Ys Yt Yu Yv Yw Yx Yy ires iresL ires1 Yz YA YB YC YD YE bin2 YF YG YH YI YJ YK YL YM YN YO YP YQ YR YS YT YU un1 shOk eqL eq1 fillL putAt IHeap.load1 IHeap.loadL IHeap.storeL YV YW YX YY YZ B0 B1 B2 B3 B4 B5 B6 B7 B8 B9 Ba Bb Bc Bd Be Bf Bg Bh Bi Bj Bk Bl Bm Bn Bo Bp
set_option linter.unusedSimpArgs false
set_option linter.unusedVariables false
open Go

def Rp.accept (R : Rp) (v : VoteD) : Rp × List NoteD :=
  ({ R with P := (R.P.step v.a v.n).1, A := (R.A.accept v).1 }, if (R.A.accept v).2 then allN R (voteN 4 v) else [])
def tells (L : Lr) (l : List VoteD) : Lr := l.foldl (fun L v => if mayB L v.slot v.val = true then L.tell v.slot v.val else L) L
def Rp.take (R : Rp) (x : NoteD) : Rp × List NoteD :=
  if R.isNode x.fr = false ∨ x.to ≠ R.me then (R, [])
  else if x.kind = 1 then R.prepare x else if x.kind = 2 then R.promise x
  else if x.kind = 3 ∧ x.votes.length = 1 then R.accept (headV x.votes)
  else if x.kind = 4 ∧ x.votes.length = 1 then ({ R with L := (R.L.hear x.fr (headV x.votes)).1 }, [])
  else if x.kind = 5 then (R, R.tell x) else if x.kind = 6 then ({ R with L := tells R.L x.votes }, []) else (R, [])

theorem acc_ok {A : Acc} (h : AccOk A) (v : VoteD) : AccOk (A.accept v).1 := by
  unfold Acc.accept
  split
  · exact h
  · rename_i hc
    simp only [not_or, Bool.not_eq_false] at hc
    obtain ⟨c1, c2, c3, c4⟩ := hc
    have hv : validB v.a v.n = true := by
      unfold Acc.may at c1
      simp only [Bool.and_eq_true] at c1
      exact c1.1
    have hsz : v.val.data.toList.length = v.val.size := rfl
    obtain ⟨h1, h2, h3, h4⟩ := h
    refine ⟨h1, h2, hv, fun w hw => ?_⟩
    have hw' : w ∈ putV A.L v := hw
    unfold putV at hw'
    simp only [List.mem_append, List.mem_filter, List.mem_cons, decide_eq_true_eq] at hw'
    rcases hw' with hw' | rfl | hw'
    · exact h4 w hw'.1
    · exact ⟨by show A.base ≤ w.slot; omega, by omega, hv, by omega⟩
    · exact h4 w hw'.1
theorem acc_promise_ok {A : Acc} (h : AccOk A) (a n s : Int) : AccOk (A.promise a n s).1 := by
  unfold Acc.promise
  split
  · exact h
  · rename_i hc
    simp only [not_or, Bool.not_eq_false] at hc
    have hv : validB a n = true := by
      have c1 := hc.1
      unfold Acc.may at c1
      simp only [Bool.and_eq_true] at c1
      exact c1.1
    exact ⟨h.1, h.2.1, hv, h.2.2.2⟩

section
variable (c : Ctx) (hc : NodeC c) {H : IHeap} {K : Value → IHeap → Prop} {B : Nat → Prop} {p : Nat} {R : Rp}

theorem IsR.lt' (h : IsR B H p R) : p < H.next := by obtain ⟨_, _, _, _, _, _, h, _⟩ := h; exact h.lt
theorem IsR.gets (h : IsR B H p R) : ∃ y z w, H.get p = some (.cells [.int .i64 R.n, .int .i64 R.me, y, z, w] false) := by obtain ⟨_, _, _, _, _, _, h, _⟩ := h; exact ⟨_, _, _, h.get⟩
theorem Said.of {H0 H H' : IHeap} {R' : Rp} {l : List NoteD} {v : Value} (h : Said B H p R' l v H') (k : H0.le H) (hl : ∀ b, B b → b < H0.next) : Said B H0 p R' l v H' := by
  obtain ⟨B', h1, h2, h3, h4⟩ := h
  have := k.next
  exact ⟨B', k.trans_fr h1, fun b hb => (h2 b hb).imp id fun z => by omega, h3, h4.weak fun b hb => ⟨by omega, hb.2⟩⟩

include hc in
theorem RTake_ok {x : NoteD} {u : Value} {D : Nat → Prop} (h : IsR B H p R) (ho : R.ok) (hu : SwD D H 4 u (x.votes.map rowV)) (hD : ∀ b, D b → ¬ B b) (hvl : x.votes.length ≤ 1000000) (hK : ∀ v H', Said B H p (R.take x).1 (R.take x).2 v H' → K v H') :
    c.C (c.F n_replica_Replica_Take) [.pointer (some ⟨p, 0, none⟩), .agg (rowN x u).toArray] H K := by
  refine c.enter hc.rep.replica_Replica_Take rfl ?_
  have hnd := hc.ty
  simp only [List.nodup_cons, List.mem_cons, List.not_mem_nil, or_false, not_or] at hnd
  obtain ⟨⟨d1, d2, d3, d4, d5⟩, ⟨d6, d7, d8, d9⟩, ⟨d10, d11, d12⟩, ⟨d13, d14⟩, d15, _⟩ := hnd
  have sym : ∀ {a b : TypeId}, ¬ a = b → ¬ b = a := fun h e => h e.symm
  have d1 := sym d1; have d2 := sym d2; have d3 := sym d3; have d4 := sym d4; have d5 := sym d5; have d6 := sym d6; have d7 := sym d7; have d8 := sym d8; have d9 := sym d9
  have d10 := sym d10; have d11 := sym d11; have d12 := sym d12; have d13 := sym d13; have d14 := sym d14; have d15 := sym d15
  have hlt := h.lt'
  have hBl := h.lt
  obtain ⟨H0, hH0⟩ : ∃ X : IHeap, X = H.alloc (.cells (rowN x u) false) := ⟨_, rfl⟩
  have k0 : H.le H0 := by rw [hH0]; exact H.le_alloc _
  have n0 : H0.next = H.next + 1 := by rw [hH0]; rfl
  have b0 : H0.get H.next = some (.cells (rowN x u) false) := by rw [hH0, YV, if_pos rfl]
  have hH0' : H.alloc (.cells [.int .i64 x.kind, .int .i64 x.fr, .int .i64 x.to, .int .i64 x.slot, .int .i64 x.ba, .int .i64 x.bn, u] false) = H0 := by rw [hH0]; rfl
  simp only [rowN] at b0
  obtain ⟨ua, ucap, hue⟩ := hu.2.len
  have ou : u.cells = #[u] := by rw [hue]; rfl
  have ou1 : one1 u = true := by rw [hue]; rfl
  have h0 := h.le k0
  obtain ⟨y, z, w, g0⟩ := h0.gets
  simp -implicitDefEqProofs [c_replica_Replica_Take, rowN, hH0', b0]
  refine dcall_of c.mono (Rnode_ok c hc h0 ?_)
  have stay : ∀ H', H.le H' → R.take x = (R, []) → K (.slice none 0 0) H' := by
    intro H' k ht
    rw [ht] at hK
    exact hK _ H' ⟨B, k.fr B, fun b hb => .inl hb, h.le k, NtsD.nil _ _⟩
  cases hn : R.isNode x.fr with
  | false =>
    simp -implicitDefEqProofs []
    exact stay H0 k0 (by unfold Rp.take; rw [if_pos (.inl hn)])
  | true =>
    by_cases hme : x.to = R.me
    · have hgo : ¬ (R.isNode x.fr = false ∨ x.to ≠ R.me) := by rw [hn]; simp [hme]
      simp -implicitDefEqProofs [b0, g0, hme, -J5]
      rw [← hme]
      refine call_of (Rread_ok c hc (x := x) (hu.le k0) fun H1 k1 => ?_)
      have k01 := k0.trans k1
      have h1 := h.le k01
      have hu1 := hu.le k01
      obtain ⟨y1, z1, w1, g1⟩ := h1.gets
      have n1 := k1.next
      by_cases q1 : x.kind = 1
      · have e : readV c x u = .iface (c.Ty 7) (.agg (rowN x u).toArray) := by unfold readV; rw [if_pos q1]
        have et : R.take x = R.prepare x := by unfold Rp.take; rw [if_neg hgo, if_pos q1]
        rw [e]
        rw [et] at hK
        obtain ⟨H2, hH2⟩ : ∃ X : IHeap, X = (H1.alloc (.cells [.int .i64 0, .int .i64 0, .int .i64 0, .int .i64 0, .int .i64 0, .int .i64 0, .slice none 0 0] false)).set H1.next (.cells [.int .i64 x.kind, .int .i64 x.fr, .int .i64 x.to, .int .i64 x.slot, .int .i64 x.ba, .int .i64 x.bn, u] false) := ⟨_, rfl⟩
        have k2 : H1.le H2 := by rw [hH2]; exact (H1.le_alloc _).set (Nat.le_refl _) _
        have b2 : H2.get H1.next = some (.cells [.int .i64 x.kind, .int .i64 x.fr, .int .i64 x.to, .int .i64 x.slot, .int .i64 x.ba, .int .i64 x.bn, u] false) := by rw [hH2, YW, if_pos rfl]
        simp -implicitDefEqProofs [rowN, ou1, ← hH2, b2]
        refine call_of (RPrepare_ok c hc (x := x) (u := u) (h1.le k2) ho fun v H3 sd => ?_)
        simp -implicitDefEqProofs []
        exact hK v H3 (sd.of (k01.trans k2) hBl)
      · by_cases q2 : x.kind = 2
        · have e : readV c x u = .iface (c.Ty 8) (.agg (rowN x u).toArray) := by unfold readV; rw [if_neg q1, if_pos q2]
          have et : R.take x = R.promise x := by unfold Rp.take; rw [if_neg hgo, if_neg q1, if_pos q2]
          rw [e]
          rw [et] at hK
          obtain ⟨H2, hH2⟩ : ∃ X : IHeap, X = (H1.alloc (.cells [.int .i64 0, .int .i64 0, .int .i64 0, .int .i64 0, .int .i64 0, .int .i64 0, .slice none 0 0] false)).set H1.next (.cells [.int .i64 x.kind, .int .i64 x.fr, .int .i64 x.to, .int .i64 x.slot, .int .i64 x.ba, .int .i64 x.bn, u] false) := ⟨_, rfl⟩
          have k2 : H1.le H2 := by rw [hH2]; exact (H1.le_alloc _).set (Nat.le_refl _) _
          have b2 : H2.get H1.next = some (.cells [.int .i64 x.kind, .int .i64 x.fr, .int .i64 x.to, .int .i64 x.slot, .int .i64 x.ba, .int .i64 x.bn, u] false) := by rw [hH2, YW, if_pos rfl]
          simp -implicitDefEqProofs [rowN, ou1, d1, ← hH2, b2]
          refine call_of (RPromise_ok c hc (x := x) (u := u) (h1.le k2) ho (hu1.le k2) hD hvl fun v H3 sd => ?_)
          simp -implicitDefEqProofs []
          exact hK v H3 (sd.of (k01.trans k2) hBl)
        · by_cases q3 : x.kind = 3 ∧ x.votes.length = 1
          · obtain ⟨v, hv⟩ : ∃ v, v = headV x.votes := ⟨_, rfl⟩
            have e : readV c x u = .iface (c.Ty 9) (vV v) := by unfold readV; rw [if_neg q1, if_neg q2, if_pos q3, hv]
            have et : R.take x = R.accept v := by unfold Rp.take; rw [if_neg hgo, if_neg q1, if_neg q2, if_pos q3, hv]
            rw [e]
            rw [et] at hK
            unfold Rp.accept at hK
            obtain ⟨H2, hH2⟩ : ∃ X : IHeap, X = (H1.alloc (.cells [.int .i64 0, .int .i64 0, .int .i64 0, .string ⟨#[]⟩] false)).set H1.next (.cells [.int .i64 v.slot, .int .i64 v.a, .int .i64 v.n, .string v.val] false) := ⟨_, rfl⟩
            have k2 : H1.le H2 := by rw [hH2]; exact (H1.le_alloc _).set (Nat.le_refl _) _
            have n2 : H2.next = H1.next + 1 := by rw [hH2]; rfl
            have b2 : H2.get H1.next = some (.cells [.int .i64 v.slot, .int .i64 v.a, .int .i64 v.n, .string v.val] false) := by rw [hH2, YW, if_pos rfl]
            have k02 := k01.trans k2
            obtain ⟨pa, pp, pl, Bxa, Bxp, Bxl, ha, hB⟩ := h1.le k2
            have g2 := ha.get
            have nu : ¬ uni p Bxa Bxp Bxl H1.next := fun hh => by have := hBl _ ((hB _).2 hh); omega
            simp -implicitDefEqProofs [vV, d2, d6, ← hH2, b2, g2]
            refine dcall_of c.mono (PStep_ok c hc.ba hc.pro (a := v.a) (n := v.n) ha.q fun H3 f3 i3 => ?_)
            obtain ⟨h3, f3', _⟩ := ha.pro f3 (fun b hb => .inl hb) i3
            have n3 := f3.next
            have g3 := h3.get
            simp only at g3
            have b3 := (f3'.get H1.next (by omega) nu).trans b2
            simp -implicitDefEqProofs [g3, b3]
            refine dcall_of c.mono (AAcceptB c hc.acc hc.ba hc.ins (v := v) h3.a (Nat.le_trans (acc_len ho.2.2.2.2 ha.a.sorted) (by omega)) fun H4 Bx4 f4 s4 a4 => ?_)
            obtain ⟨h4, f4', u4⟩ := h3.acc f4 s4 a4
            have n4 := f4.next
            have b4 := (f4'.get H1.next (by omega) nu).trans b3
            have F4 : Fr (uni p Bxa Bxp Bxl) H H4 := k02.trans_fr (f3'.trans f4' fun b hb => .inl hb)
            have S4 : ∀ b, uni p Bx4 Bxp Bxl b → B b ∨ H.next ≤ b := fun b hb => (u4 b hb).imp (hB b).2 fun z => by have := k02.next; omega
            cases ha2 : (R.A.accept v).2 with
            | false =>
              rw [ha2, if_neg (by simp)] at hK
              simp -implicitDefEqProofs []
              exact hK _ H4 ⟨uni p Bx4 Bxp Bxl, F4.iff hB, S4, ⟨pa, pp, pl, Bx4, Bxp, Bxl, h4, fun b => Iff.rfl⟩, NtsD.nil _ _⟩
            | true =>
              rw [ha2, if_pos rfl] at hK
              have ho4 : Rp.ok { R with P := (R.P.step v.a v.n).1, A := (R.A.accept v).1 } := by
                have hs := step_n R.P v.a v.n
                refine ⟨ho.1.step v.a v.n, hs.1.trans ho.2.1, hs.2.trans ho.2.2.1, ho.2.2.2.1, ?_⟩
                exact acc_ok ho.2.2.2.2 v
              simp -implicitDefEqProofs [b4]
              refine call_of (Rvote_ok c hc (k := 4) (v := v) (B := uni p Bx4 Bxp Bxl) ⟨pa, pp, pl, Bx4, Bxp, Bxl, h4, fun b => Iff.rfl⟩ ho4 fun w5 H5 k5 nt => ?_)
              simp -implicitDefEqProofs []
              refine hK _ H5 ⟨uni p Bx4 Bxp Bxl, (F4.iff hB).trans_le k5, S4, ⟨pa, pp, pl, Bx4, Bxp, Bxl, h4.le k5, fun b => Iff.rfl⟩, nt.weak fun b hb => ⟨?_, hb.2, fun hh => by have := h4.uni_lt b hh; omega⟩⟩
              have := k02.next
              omega
          · by_cases q4 : x.kind = 4 ∧ x.votes.length = 1
            · obtain ⟨v, hv⟩ : ∃ v, v = headV x.votes := ⟨_, rfl⟩
              have e : readV c x u = .iface (c.Ty 10) (.agg #[.int .i64 x.fr, .int .i64 v.slot, .int .i64 v.a, .int .i64 v.n, .string v.val]) := by unfold readV; rw [if_neg q1, if_neg q2, if_neg q3, if_pos q4, hv]
              have et : R.take x = ({ R with L := (R.L.hear x.fr v).1 }, []) := by unfold Rp.take; rw [if_neg hgo, if_neg q1, if_neg q2, if_neg q3, if_pos q4, hv]
              rw [e]
              rw [et] at hK
              obtain ⟨H2, hH2⟩ : ∃ X : IHeap, X = (H1.alloc (.cells [.int .i64 0, .int .i64 0, .int .i64 0, .int .i64 0, .string ⟨#[]⟩] false)).set H1.next (.cells [.int .i64 x.fr, .int .i64 v.slot, .int .i64 v.a, .int .i64 v.n, .string v.val] false) := ⟨_, rfl⟩
              have k2 : H1.le H2 := by rw [hH2]; exact (H1.le_alloc _).set (Nat.le_refl _) _
              have b2 : H2.get H1.next = some (.cells [.int .i64 x.fr, .int .i64 v.slot, .int .i64 v.a, .int .i64 v.n, .string v.val] false) := by rw [hH2, YW, if_pos rfl]
              obtain ⟨pa, pp, pl, Bxa, Bxp, Bxl, ha, hB⟩ := h1.le k2
              have g2 := ha.get
              simp -implicitDefEqProofs [d3, d7, d10, ← hH2, b2, g2]
              refine dcall_of c.mono (LHearB c hc.ler hc.lT hc.lN hc.ba hc.bb (fr := x.fr) (v := v) ha.l fun H3 f3 l3 => ?_)
              obtain ⟨h3, f3'⟩ := ha.lea f3 l3
              simp -implicitDefEqProofs []
              exact hK _ H3 ⟨B, (k01.trans k2).trans_fr (f3'.iff hB), fun b hb => .inl hb, ⟨pa, pp, pl, Bxa, Bxp, Bxl, h3, hB⟩, NtsD.nil _ _⟩
            · by_cases q5 : x.kind = 5
              · have e : readV c x u = .iface (c.Ty 11) (.agg (rowN x u).toArray) := by unfold readV; rw [if_neg q1, if_neg q2, if_neg q3, if_neg q4, if_pos q5]
                have et : R.take x = (R, R.tell x) := by unfold Rp.take; rw [if_neg hgo, if_neg q1, if_neg q2, if_neg q3, if_neg q4, if_pos q5]
                rw [e]
                rw [et] at hK
                obtain ⟨H2, hH2⟩ : ∃ X : IHeap, X = (H1.alloc (.cells [.int .i64 0, .int .i64 0, .int .i64 0, .int .i64 0, .int .i64 0, .int .i64 0, .slice none 0 0] false)).set H1.next (.cells [.int .i64 x.kind, .int .i64 x.fr, .int .i64 x.to, .int .i64 x.slot, .int .i64 x.ba, .int .i64 x.bn, u] false) := ⟨_, rfl⟩
                have k2 : H1.le H2 := by rw [hH2]; exact (H1.le_alloc _).set (Nat.le_refl _) _
                have b2 : H2.get H1.next = some (.cells [.int .i64 x.kind, .int .i64 x.fr, .int .i64 x.to, .int .i64 x.slot, .int .i64 x.ba, .int .i64 x.bn, u] false) := by rw [hH2, YW, if_pos rfl]
                simp -implicitDefEqProofs [rowN, ou1, d4, d8, d11, d13, ← hH2, b2]
                refine call_of (RTell_ok c hc (x := x) (u := u) (h1.le k2) fun v H3 k3 nt => ?_)
                simp -implicitDefEqProofs []
                refine hK v H3 ⟨B, ((k01.trans k2).trans k3).fr B, fun b hb => .inl hb, h.le ((k01.trans k2).trans k3), nt.weak fun b hb => ⟨?_, hb.2, fun hh => ?_⟩⟩
                · have := (k01.trans k2).next; omega
                · have := hBl b hh; have := (k01.trans k2).next; omega
              · by_cases q6 : x.kind = 6
                · have e : readV c x u = .iface (c.Ty 12) (.agg #[u]) := by unfold readV; rw [if_neg q1, if_neg q2, if_neg q3, if_neg q4, if_neg q5, if_pos q6]
                  have et : R.take x = ({ R with L := tells R.L x.votes }, []) := by unfold Rp.take; rw [if_neg hgo, if_neg q1, if_neg q2, if_neg q3, if_neg q4, if_neg q5, if_pos q6]
                  rw [e]
                  rw [et] at hK
                  obtain ⟨H2, hH2⟩ : ∃ X : IHeap, X = (H1.alloc (.cells [.slice none 0 0] false)).set H1.next (.cells [u] false) := ⟨_, rfl⟩
                  have k2 : H1.le H2 := by rw [hH2]; exact (H1.le_alloc _).set (Nat.le_refl _) _
                  have b2 : H2.get H1.next = some (.cells [u] false) := by rw [hH2, YW, if_pos rfl]
                  obtain ⟨pa, pp, pl, Bxa, Bxp, Bxl, ha, hB⟩ := h1.le k2
                  have hu2 := hu1.le k2
                  rw [List.length_map] at hue
                  subst hue
                  simp -implicitDefEqProofs [ou1, d5, d9, d12, d14, d15, ← hH2, b2]
                  refine loop_nat c.mono (fun k T H' => ∃ j : Nat, j ≤ x.votes.length ∧ k = x.votes.length - j ∧ T 0 = .pointer (some ⟨p, 0, none⟩) ∧ T 88 = .slice ua x.votes.length ucap ∧ T 89 = .int .i64 x.votes.length ∧ T 90 = .int .i64 j ∧
                    Fr B H2 H' ∧ RpAt H' p pa pp pl Bxa Bxp Bxl { R with L := tells R.L (x.votes.take j) }) x.votes.length ?_ ?_
                  · refine ⟨0, by omega, rfl, ?_⟩
                    simp -implicitDefEqProofs []
                    exact ⟨Fr.refl _ _, ha⟩
                  · rintro k T H' ⟨j, hj, rfl, t0, t88, t89, t90, fH, hr⟩
                    by_cases hjl : j < x.votes.length
                    · have hjl' : (j : Int) < (x.votes.length : Int) := by omega
                      have wj : IntKind.i64.wrap ((j : Int) + 1) = (j : Int) + 1 := wrap64 (by omega) (by omega)
                      have hx0 : x.votes[j]? = some x.votes[j] := List.getElem?_eq_getElem hjl
                      obtain ⟨v, hv⟩ : ∃ v, v = x.votes[j] := ⟨_, rfl⟩
                      rw [← hv] at hx0
                      obtain ⟨b5, o5, cp5, cs5, ro5, ea5, hb5, hget5, hrl5, hrow5, hbd5⟩ := (hu2.fr fH hD).1.sl.at (i := j) (r := rowV v) (by simp [hx0])
                      rw [List.length_map] at ea5
                      simp only [Value.slice.injEq] at ea5
                      obtain ⟨rfl, -, rfl⟩ := ea5
                      simp only [rowV] at hrow5
                      obtain ⟨H3, hH3⟩ : ∃ X : IHeap, X = (H'.alloc (.cells [.int .i64 0, .int .i64 0, .int .i64 0, .string ⟨#[]⟩] false)).set H'.next (.cells [.int .i64 v.slot, .int .i64 v.a, .int .i64 v.n, .string v.val] false) := ⟨_, rfl⟩
                      have k3 : H'.le H3 := by rw [hH3]; exact (H'.le_alloc _).set (Nat.le_refl _) _
                      have b3 : H3.get H'.next = some (.cells [.int .i64 v.slot, .int .i64 v.a, .int .i64 v.n, .string v.val] false) := by rw [hH3, YW, if_pos rfl]
                      have hr3 := hr.le k3
                      have g3 := hr3.get
                      simp only at g3
                      simp -implicitDefEqProofs [t0, t88, t89, t90, hjl, hjl', hget5, hrow5, hbd5, ← hH3, b3, g3]
                      refine dcall_of c.mono (LTellB c hc.ler hc.lT (s := v.slot) (v := v.val) hr3.l fun H4 f4 l4 => ?_)
                      obtain ⟨h4, f4'⟩ := hr3.lea f4 l4
                      simp -implicitDefEqProofs [t0, t88, t89, t90, wj]
                      refine ⟨x.votes.length - (j + 1), by omega, j + 1, by omega, rfl, rfl, fH.trans (k3.trans_fr (f4'.iff hB)) (fun b hb => .inl hb), ?_⟩
                      rw [List.take_add_one, hx0, show tells R.L (x.votes.take j ++ (some v).toList) = if mayB (tells R.L (x.votes.take j)) v.slot v.val = true then (tells R.L (x.votes.take j)).tell v.slot v.val else tells R.L (x.votes.take j) by unfold tells; rw [List.foldl_append]; rfl]
                      exact h4
                    · have hjl' : ¬ (j : Int) < (x.votes.length : Int) := by omega
                      have hje : j = x.votes.length := by omega
                      rw [hje, List.take_length] at hr
                      simp -implicitDefEqProofs [t0, t88, t89, t90, hjl, hjl']
                      exact hK _ H' ⟨B, (k01.trans k2).trans_fr fH, fun b hb => .inl hb, ⟨pa, pp, pl, Bxa, Bxp, Bxl, hr, hB⟩, NtsD.nil _ _⟩
                · have e : readV c x u = .nilIface := by unfold readV; rw [if_neg q1, if_neg q2, if_neg q3, if_neg q4, if_neg q5, if_neg q6]
                  have et : R.take x = (R, []) := by unfold Rp.take; rw [if_neg hgo, if_neg q1, if_neg q2, if_neg q3, if_neg q4, if_neg q5, if_neg q6]
                  rw [e]
                  simp -implicitDefEqProofs []
                  exact stay H1 k01 et
    · simp -implicitDefEqProofs [b0, g0, hme]
      exact stay H0 k0 (by unfold Rp.take; rw [if_pos (.inr hme)])
end
end Go.Proofs.YtpbbjfighohokaaI
namespace Go.Proofs.YtpbbjfighohokaaI
attribute [local simp] J0 J1 J2 J3 J4 J5 J6 J7 J8 J9 Ja Jb Jc Jd Je Jf Jg Jh Ji Jj Jk Jl Jm Jn Jo Jp Jq Jr Js Jt Ju Jv Jw Jx Jy Jz JA JB JC JD JE JF JG JH JI JJ JK JL JM JN JO JP JQ JR JS stillI IOp.kind JT JU JV JW JX JY JZ Y0 Y1 Y2 Y3 Y4 Y5 Y6 Y7 Y8 Y9 Ya Yb Yc Yd Ye Yf Yg Yh Yi Yj Yk Yl Ym Yn Yo Yp Yq ial Yr Ys Yt Yu Yv Yw Yx Yy ires iresL ires1 Yz YA YB YC YD YE bin2 YF YG YH YI YJ YK YL YM YN YO YP YQ YR YS YT YU un1 shOk eqL eq1 fillL putAt IHeap.load1 IHeap.loadL IHeap.storeL YV YW YX YY YZ B0 B1 B2 B3 B4 B5 B6 B7 B8 B9 Ba Bb Bc Bd Be Bf Bg Bh Bi Bj Bk Bl Bm Bn Bo Bp
set_option linter.unusedSimpArgs false
set_option linter.unusedVariables false
open Go

def tellE (L : Lr) : Nat → Lr
  | 0 => L
  | k + 1 => if mayB (tellE L k) k noS = true then (tellE L k).tell k noS else tellE L k
def Rp.crash (R : Rp) : Rp :=
  { R with P := Pro.new R.n R.me, L := (tellE ⟨R.n, 0, fun _ => none, fun _ => none⟩ R.A.base.toNat).trim (trimTo (tellE ⟨R.n, 0, fun _ => none, fun _ => none⟩ R.A.base.toNat) R.A.base) }

section
variable (c : Ctx) (hc : NodeC c) {H : IHeap} {K : Value → IHeap → Prop} {B : Nat → Prop} {p : Nat} {R : Rp}

include hc in
theorem RCrash_ok (h : IsR B H p R) (ho : R.ok) (hK : ∀ H' B', Fr B H H' → (∀ b, B' b → B b ∨ H.next ≤ b) → IsR B' H' p R.crash → K (.tuple #[]) H') :
    c.C (c.F n_replica_Replica_Crash) [.pointer (some ⟨p, 0, none⟩)] H K := by
  refine c.enter hc.rep.replica_Replica_Crash rfl ?_
  obtain ⟨pa, pp, pl, Bxa, Bxp, Bxl, h, hB⟩ := h
  have g := h.get
  have hlt := h.lt
  have hq := quorumI_ne ho.1.1
  rw [ho.2.1] at hq
  have hq0 : quorumI R.n ≠ 0 := by rw [← ho.2.1]; exact ho.1.1
  simp -implicitDefEqProofs [c_replica_Replica_Crash, nilOf, g]
  refine dcall_of c.mono (PNew_ok c hc.bb hc.pro (fun hbad => ?_) fun _ _ _ pp1 Bp1 H1 k1 bp1 i1 => ?_)
  · have := ho.1.2.1; have := ho.1.2.2.1; have := ho.2.1; have := ho.2.2.1
    exfalso
    rcases hbad with hb | hb | hb
    · exact hq0 hb
    · omega
    · omega
  · have g1 := (k1.get p hlt).trans g
    simp -implicitDefEqProofs [g1]
    refine dcall_of c.mono (LNewB c hc.ler hc.bb (fun hz => absurd hz hq0) fun _ pl2 Bl2 H2 k2 bl2 l2 => ?_)
    have n1 := k1.next
    have n2 := k2.next
    have k02 := k1.trans k2
    have g2 := (k02.get p hlt).trans g
    obtain ⟨L0, hL0⟩ : ∃ L0 : Lr, L0 = ⟨R.n, 0, fun _ => none, fun _ => none⟩ := ⟨_, rfl⟩
    rw [← hL0] at l2
    obtain ⟨H3, hH3⟩ : ∃ X : IHeap, X = (H2.set p (.cells [.int .i64 R.n, .int .i64 R.me, .pointer (some ⟨pa, 0, none⟩), .pointer (some ⟨pp1, 0, none⟩), .pointer (some ⟨pl, 0, none⟩)] false)).set p (.cells [.int .i64 R.n, .int .i64 R.me, .pointer (some ⟨pa, 0, none⟩), .pointer (some ⟨pp1, 0, none⟩), .pointer (some ⟨pl2, 0, none⟩)] false) := ⟨_, rfl⟩
    have f3 : Fr (fun b => b = p) H2 H3 := by rw [hH3]; exact (Fr.one H2 p _).set (.inl rfl) _
    have n3 := f3.next
    have nH3 : H3.next = H2.next := by rw [hH3]; rfl
    have h3 : RpAt H3 p pa pp1 pl2 Bxa Bp1 Bl2 { R with P := Pro.new R.n R.me, L := L0 } := by
      refine ⟨by omega, by rw [hH3, YW, if_pos rfl], (h.a.le k02).fr f3 fun b hb e => h.na (e ▸ hb), (i1.le k2).fr f3 fun b hb e => ?_, l2.fr f3 fun b hb e => ?_, h.na, fun hh => ?_, fun hh => ?_, fun b x y => ?_, fun b x y => ?_, fun b x y => ?_⟩
      · have := bp1 b hb; omega
      · have := bl2 b hb; omega
      · have := bp1 p hh; omega
      · have := bl2 p hh; omega
      · have := h.a.lt b x; have := bp1 b y; omega
      · have := h.a.lt b x; have := bl2 b y; omega
      · have := i1.lt b x; have := bl2 b y; omega
    have F3 : Fr B H H3 := k02.trans_fr (f3.weak fun b hb => (hB b).2 (.inl hb))
    have S3 : ∀ b, uni p Bxa Bp1 Bl2 b → B b ∨ H.next ≤ b := by
      intro b hb
      rcases hb with hb | hb | hb | hb
      · exact .inl ((hB b).2 (.inl hb))
      · exact .inl ((hB b).2 (.inr (.inl hb)))
      · exact .inr (bp1 b hb)
      · exact .inr (by have := bl2 b hb; omega)
    have g3 := h3.get
    simp only at g3
    simp -implicitDefEqProofs [g2, ← hH3, g3]
    refine call_of (ABaseB c hc.acc h3.a ?_)
    have hb0 := ho.2.2.2.2.1
    have hb1 := ho.2.2.2.2.2.1
    obtain ⟨N, hN⟩ : ∃ N : Nat, R.A.base = N := ⟨R.A.base.toNat, by omega⟩
    simp -implicitDefEqProofs [hN]
    refine loop_nat c.mono (fun k T H' => ∃ j : Nat, j ≤ N ∧ k = N - j ∧ T 0 = .pointer (some ⟨p, 0, none⟩) ∧ T 29 = .int .i64 N ∧ T 30 = .int .i64 j ∧ Fr (uni p Bxa Bp1 Bl2) H3 H' ∧ RpAt H' p pa pp1 pl2 Bxa Bp1 Bl2 { R with P := Pro.new R.n R.me, L := tellE L0 j }) N ?_ ?_
    · refine ⟨0, by omega, rfl, ?_⟩
      simp -implicitDefEqProofs []
      exact ⟨Fr.refl _ _, h3⟩
    · rintro k T H' ⟨j, hj, rfl, t0, t29, t30, fH, hr⟩
      have gH := hr.get
      simp only at gH
      by_cases hjl : j < N
      · have hjl' : (j : Int) < (N : Int) := by omega
        have wj : IntKind.i64.wrap ((j : Int) + 1) = (j : Int) + 1 := wrap64 (by omega) (by omega)
        simp -implicitDefEqProofs [t0, t29, t30, hjl, hjl', gH]
        refine call_of (LTellB c hc.ler hc.lT (s := j) (v := noS) hr.l fun H4 f4 l4 => ?_)
        obtain ⟨h4, f4'⟩ := hr.lea f4 l4
        simp -implicitDefEqProofs [t0, t29, t30, wj]
        exact ⟨N - (j + 1), by omega, j + 1, by omega, rfl, rfl, fH.trans f4' (fun b hb => .inl hb), h4⟩
      · have hjl' : ¬ (j : Int) < (N : Int) := by omega
        have hje : j = N := by omega
        subst hje
        simp -implicitDefEqProofs [t0, t29, t30, hjl, hjl', gH]
        refine dcall_of c.mono (ABaseB c hc.acc hr.a ?_)
        simp -implicitDefEqProofs [gH]
        refine dcall_of c.mono (LTrimB c hc.ler hc.lT (s := R.A.base) hr.l fun H4 f4 l4 => ?_)
        obtain ⟨h4, f4'⟩ := hr.lea f4 l4
        simp -implicitDefEqProofs []
        refine hK H4 (uni p Bxa Bp1 Bl2) (F3.trans (fH.trans f4' (fun b hb => .inl hb)) S3) S3 ⟨pa, pp1, pl2, Bxa, Bp1, Bl2, ?_, fun b => Iff.rfl⟩
        have e : R.crash = { R with P := Pro.new R.n R.me, L := (tellE L0 j).trim (trimTo (tellE L0 j) R.A.base) } := by
          unfold Rp.crash
          rw [hN, hL0]
          rfl
        rw [e]
        exact h4

variable (R)
include hc
theorem RLead_none (hK : K (.slice none 0 0) H) : c.C (c.F n_replica_Replica_Lead) [.pointer none] H K := by
  refine c.enter hc.rep.replica_Replica_Lead rfl ?_
  simp -implicitDefEqProofs [c_replica_Replica_Lead, nilOf]
  exact hK
theorem RPropose_none {s : ByteArray} (hK : K (.tuple #[.slice none 0 0, .int .i64 1]) H) : c.C (c.F n_replica_Replica_Propose) [.pointer none, .string s] H K := by
  refine c.enter hc.rep.replica_Replica_Propose rfl ?_
  simp -implicitDefEqProofs [c_replica_Replica_Propose, nilOf]
  exact hK
theorem RAsk_none {i : Int} (hK : K (.slice none 0 0) H) : c.C (c.F n_replica_Replica_Ask) [.pointer none, .int .i64 i] H K := by
  refine c.enter hc.rep.replica_Replica_Ask rfl ?_
  simp -implicitDefEqProofs [c_replica_Replica_Ask]
  refine call_of (Rnode_none c hc ?_)
  simp -implicitDefEqProofs []
  exact hK
theorem RTake_none {a b d s e f : Int} {u : Value} (hK : ∀ H', H.le H' → K (.slice none 0 0) H') : c.C (c.F n_replica_Replica_Take) [.pointer none, .agg #[.int .i64 a, .int .i64 b, .int .i64 d, .int .i64 s, .int .i64 e, .int .i64 f, u]] H K := by
  refine c.enter hc.rep.replica_Replica_Take rfl ?_
  simp -implicitDefEqProofs [c_replica_Replica_Take]
  refine dcall_of c.mono (Rnode_none c hc ?_)
  simp -implicitDefEqProofs []
  exact hK _ (H.le_alloc _)
theorem RCrash_none (hK : K (.tuple #[]) H) : c.C (c.F n_replica_Replica_Crash) [.pointer none] H K := by
  refine c.enter hc.rep.replica_Replica_Crash rfl ?_
  simp -implicitDefEqProofs [c_replica_Replica_Crash, nilOf]
  exact hK
theorem RLog_none (hK : K (.slice none 0 0) H) : c.C (c.F n_replica_Replica_Log) [.pointer none] H K := by
  refine c.enter hc.rep.replica_Replica_Log rfl ?_
  simp -implicitDefEqProofs [c_replica_Replica_Log, nilOf]
  exact hK
theorem RLeads_none (hK : K (.bool false) H) : c.C (c.F n_replica_Replica_Leads) [.pointer none] H K := by
  refine c.enter hc.rep.replica_Replica_Leads rfl ?_
  simp -implicitDefEqProofs [c_replica_Replica_Leads, nilOf]
  exact hK
end
end Go.Proofs.YtpbbjfighohokaaI
