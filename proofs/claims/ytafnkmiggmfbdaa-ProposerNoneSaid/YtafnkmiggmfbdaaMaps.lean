/- Maps as functions of keys. -/
import Derived.Test.YtafnkmiggmfbdaaSlices
namespace Go.Proofs.YtafnkmiggmfbdaaI
set_option linter.unusedSimpArgs false
set_option linter.unusedVariables false
open Go

section
variable {κ α : Type} [DecidableEq κ]

/-- Keys of a type, under a name each. -/
structure KeyOf (P : Program) (kt : TypeId) (f : κ → Value) : Prop where
  eq : ∀ a b, pureRun P (Op.equal kt (f a) (f b)) = some (decide (a = b))
  ck : ∀ e a, (pureRun P (Instr.checkKey e 10000 kt (f a))).isSome = true
  sc : ∀ a, scal (f a) = true
  sb : ∀ a, Instr.sameBits 10000 (f a) (f a) = true

def alGet (l : List (κ × α)) (k : κ) : Option α := (l.find? fun p => decide (p.1 = k)).map (·.2)

theorem alGet_cons (p : κ × α) (l : List (κ × α)) (k : κ) : alGet (p :: l) k = if p.1 = k then some p.2 else alGet l k := by
  unfold alGet
  rw [List.find?_cons]
  by_cases h : p.1 = k <;> simp [h]
theorem alGet_append (l : List (κ × α)) (k k' : κ) (a : α) (h : alGet l k = none) : alGet (l ++ [(k, a)]) k' = if k = k' then some a else alGet l k' := by
  induction l with
  | nil => rw [List.nil_append, alGet_cons]
  | cons p l ih =>
    rw [alGet_cons] at h
    by_cases hp : p.1 = k
    · rw [if_pos hp] at h; cases h
    · rw [if_neg hp] at h
      rw [List.cons_append, alGet_cons, alGet_cons, ih h]
      by_cases h1 : p.1 = k'
      · rw [if_pos h1, if_pos h1, if_neg (by rintro rfl; exact hp h1)]
      · rw [if_neg h1, if_neg h1]
theorem alGet_none {l : List (κ × α)} {k : κ} (h : alGet l k = none) : k ∉ l.map (·.1) := by
  induction l with
  | nil => simp
  | cons p l ih =>
    rw [alGet_cons] at h
    by_cases hp : p.1 = k
    · rw [if_pos hp] at h; cases h
    · rw [if_neg hp] at h
      simp only [List.map_cons, List.mem_cons, not_or]
      exact ⟨fun h => hp h.symm, ih h⟩
theorem alGet_not {l : List (κ × α)} {k : κ} (h : k ∉ l.map (·.1)) : alGet l k = none := by
  induction l with
  | nil => rfl
  | cons p l ih =>
    simp only [List.map_cons, List.mem_cons, not_or] at h
    rw [alGet_cons, if_neg (fun e => h.1 e.symm), ih h.2]

/-- Where a key stands. -/
def alIdx (l : List (κ × α)) (k : κ) : Option Nat := l.findIdx? fun p => decide (p.1 = k)
theorem alIdx_some {l : List (κ × α)} {k : κ} {i : Nat} (h : alIdx l k = some i) : ∃ a, l[i]? = some (k, a) ∧ alGet l k = some a := by
  induction l generalizing i with
  | nil => simp [alIdx] at h
  | cons p l ih =>
    unfold alIdx at h
    rw [List.findIdx?_cons] at h
    by_cases hp : p.1 = k
    · simp only [hp, decide_true] at h
      simp only [if_true, Option.some.injEq] at h
      subst h
      exact ⟨p.2, by simp [← hp], by rw [alGet_cons, if_pos hp]⟩
    · simp only [hp, decide_false, Bool.false_eq_true, if_false, Option.map_eq_some_iff] at h
      obtain ⟨j, hj, rfl⟩ := h
      obtain ⟨a, h1, h2⟩ := ih hj
      exact ⟨a, by simpa using h1, by rw [alGet_cons, if_neg hp]; exact h2⟩
theorem alIdx_none {l : List (κ × α)} {k : κ} (h : alIdx l k = none) : alGet l k = none := by
  unfold alIdx at h
  unfold alGet
  rw [List.findIdx?_eq_none_iff] at h
  rw [Option.map_eq_none_iff, List.find?_eq_none]
  intro x hx
  have := h x hx
  simp at this ⊢; exact this
theorem alGet_modify {l : List (κ × α)} {k : κ} {i : Nat} (h : alIdx l k = some i) (a : α) (k' : κ) : alGet (l.modify i fun _ => (k, a)) k' = if k = k' then some a else alGet l k' := by
  induction l generalizing i with
  | nil => simp [alIdx] at h
  | cons p l ih =>
    unfold alIdx at h
    rw [List.findIdx?_cons] at h
    by_cases hp : p.1 = k
    · simp only [hp, decide_true] at h
      simp only [if_true, Option.some.injEq] at h
      subst h
      rw [List.modify_zero_cons, alGet_cons, alGet_cons, hp]
      by_cases h1 : k = k' <;> simp [h1]
    · simp only [hp, decide_false, Bool.false_eq_true, if_false, Option.map_eq_some_iff] at h
      obtain ⟨j, hj, rfl⟩ := h
      rw [List.modify_succ_cons, alGet_cons, alGet_cons, ih hj]
      by_cases h1 : p.1 = k'
      · rw [if_pos h1, if_pos h1, if_neg (by rintro rfl; exact hp h1)]
      · rw [if_neg h1, if_neg h1]
theorem alKeys_modify {l : List (κ × α)} {k : κ} {i : Nat} (h : alIdx l k = some i) (a : α) : (l.modify i fun _ => (k, a)).map (·.1) = l.map (·.1) := by
  induction l generalizing i with
  | nil => simp [alIdx] at h
  | cons p l ih =>
    unfold alIdx at h
    rw [List.findIdx?_cons] at h
    by_cases hp : p.1 = k
    · simp only [hp, decide_true] at h
      simp only [if_true, Option.some.injEq] at h
      subst h
      rw [List.modify_zero_cons, List.map_cons, List.map_cons, hp]
    · simp only [hp, decide_false, Bool.false_eq_true, if_false, Option.map_eq_some_iff] at h
      obtain ⟨j, hj, rfl⟩ := h
      rw [List.modify_succ_cons, List.map_cons, List.map_cons, ih hj]
theorem alGet_erase {l : List (κ × α)} {k : κ} {i : Nat} (h : alIdx l k = some i) (hn : (l.map (·.1)).Nodup) (k' : κ) : alGet (l.eraseIdx i) k' = if k = k' then none else alGet l k' := by
  induction l generalizing i with
  | nil => simp [alIdx] at h
  | cons p l ih =>
    unfold alIdx at h
    rw [List.findIdx?_cons] at h
    simp only [List.map_cons, List.nodup_cons] at hn
    by_cases hp : p.1 = k
    · simp only [hp, decide_true] at h
      simp only [if_true, Option.some.injEq] at h
      subst h
      rw [List.eraseIdx_cons_zero, alGet_cons]
      by_cases h1 : k = k'
      · subst h1
        rw [if_pos rfl]
        exact alGet_not (by rw [← hp]; exact hn.1)
      · rw [if_neg h1, if_neg (by rw [hp]; exact h1)]
    · simp only [hp, decide_false, Bool.false_eq_true, if_false, Option.map_eq_some_iff] at h
      obtain ⟨j, hj, rfl⟩ := h
      rw [List.eraseIdx_cons_succ, alGet_cons, alGet_cons, ih hj hn.2]
      by_cases h1 : p.1 = k'
      · rw [if_pos h1, if_pos h1, if_neg (by rintro rfl; exact hp h1)]
      · rw [if_neg h1, if_neg h1]

/-- The entries' numbers: no two the same, all below the map's own. -/
def BornOk (es : List MapEntry) (clock : Nat) : Prop := (es.map (·.born)).Nodup ∧ ∀ e ∈ es, e.born < clock
theorem BornOk.add {es : List MapEntry} {clock : Nat} (h : BornOk es clock) (k v : Value) : BornOk (es ++ [{ key := k, val := v, born := clock }]) (clock + 1) := by
  refine ⟨?_, fun e he => ?_⟩
  · rw [List.map_append, List.nodup_append]
    refine ⟨h.1, by simp, fun x hx y hy => ?_⟩
    obtain ⟨e, he, rfl⟩ := List.mem_map.1 hx
    simp only [List.map_cons, List.map_nil, List.mem_singleton] at hy
    subst hy
    exact Nat.ne_of_lt (h.2 e he)
  · rcases List.mem_append.1 he with he | he
    · exact Nat.lt_succ_of_lt (h.2 e he)
    · simp only [List.mem_singleton] at he
      subst he
      exact Nat.lt_succ_self _
theorem map_modify_same {A B : Type} (F : A → B) (x : A → A) (hx : ∀ e, F (x e) = F e) : ∀ (l : List A) (i : Nat), (l.modify i x).map F = l.map F
  | [], i => by simp
  | e :: l, 0 => by simp [hx]
  | e :: l, i + 1 => by rw [List.modify_succ_cons, List.map_cons, List.map_cons, map_modify_same F x hx l i]
theorem BornOk.modify {es : List MapEntry} {clock : Nat} (h : BornOk es clock) (x : MapEntry → MapEntry) (hx : ∀ e, (x e).born = e.born) (i : Nat) : BornOk (es.modify i x) clock := by
  have hm : (es.modify i x).map (·.born) = es.map (·.born) := map_modify_same _ x hx es i
  refine ⟨by rw [hm]; exact h.1, fun e he => ?_⟩
  have : e.born ∈ (es.modify i x).map (·.born) := List.mem_map.2 ⟨e, he, rfl⟩
  rw [hm] at this
  obtain ⟨e', h1, h2⟩ := List.mem_map.1 this
  rw [← h2]; exact h.2 e' h1
theorem BornOk.erase {es : List MapEntry} {clock : Nat} (h : BornOk es clock) (i : Nat) : BornOk (es.eraseIdx i) clock :=
  ⟨h.1.sublist ((List.eraseIdx_sublist es i).map _), fun e he => h.2 e ((List.eraseIdx_sublist es i).subset he)⟩

/-- A map's entries, as they stand. -/
def IsMapL (H : IHeap) (r : Nat) (f : κ → Value) (g : α → Value) (l : List (κ × α)) : Prop :=
  r < H.next ∧ (∃ es clock, H.get r = some (.map es clock) ∧ es.map (fun e => (e.key, e.val)) = (l.map fun p => (f p.1, g p.2)) ∧ BornOk es clock) ∧ (l.map (·.1)).Nodup
/-- A map, as a function of its keys. -/
def IsMap (H : IHeap) (r : Nat) (f : κ → Value) (g : α → Value) (m : κ → Option α) : Prop := ∃ l, IsMapL H r f g l ∧ ∀ k, alGet l k = m k

variable {P : Program} {kt : TypeId} {f : κ → Value} {g : α → Value} {H : IHeap} {r : Nat}

theorem findI_ok (hk : KeyOf P kt f) (k : κ) : ∀ (es : List MapEntry) (l : List (κ × α)) (i : Nat), es.map (fun e => (e.key, e.val)) = (l.map fun p => (f p.1, g p.2)) → findI P kt (f k) es i = some ((alIdx l k).map (· + i))
  | [], [], i, _ => rfl
  | [], _ :: _, _, h => by simp at h
  | _ :: _, [], _, h => by simp at h
  | e :: es, p :: l, i, h => by
    simp only [List.map_cons, List.cons.injEq, Prod.mk.injEq] at h
    obtain ⟨⟨h1, h2⟩, h3⟩ := h
    rw [findI, h1, hk.eq]
    unfold alIdx
    rw [List.findIdx?_cons]
    by_cases hp : p.1 = k
    · simp [hp]
    · have hp' : ¬ k = p.1 := fun h => hp h.symm
      simp only [hp, hp', decide_false, Bool.false_eq_true, if_false]
      rw [findI_ok hk k es l (i + 1) h3]
      unfold alIdx
      simp only [Option.map_map]
      congr 2
      funext x
      simp; omega

theorem keyOk_ok (hk : KeyOf P kt f) (k : κ) : ∀ {es : List MapEntry} {l : List (κ × α)}, es.map (fun e => (e.key, e.val)) = (l.map fun p => (f p.1, g p.2)) → keyOk P kt (f k) es = true := by
  intro es l h
  have hs : es.all (fun e => scal e.key) = true := by
    rw [List.all_eq_true]
    intro e he
    have : (e.key, e.val) ∈ l.map fun p => (f p.1, g p.2) := by rw [← h]; exact List.mem_map.2 ⟨e, he, rfl⟩
    obtain ⟨p, _, hp⟩ := List.mem_map.1 this
    simp only [Prod.mk.injEq] at hp
    rw [← hp.1]; exact hk.sc _
  simp only [keyOk, hk.sc, hs, hk.ck, Bool.and_self]

theorem IsMapL.look {l : List (κ × α)} (h : IsMapL H r f g l) (hk : KeyOf P kt f) (k : κ) (zero : Value) (ok : Bool) :
    lookR P H kt zero ok (.map (some r)) (f k) = some (match alGet l k with
      | some a => if ok then .tuple #[g a, .bool true] else g a
      | none => if ok then .tuple #[zero, .bool false] else zero) := by
  obtain ⟨_, ⟨es, clock, h1, h2, _⟩, _⟩ := h
  simp only [lookR, entriesI, h1, keyOk_ok hk k h2, if_true, findI_ok hk k es l 0 h2]
  cases hi : alIdx l k with
  | none => simp only [Option.map_none, alIdx_none hi]
  | some i =>
    obtain ⟨a, e1, e2⟩ := alIdx_some hi
    have : (es.map fun e => (e.key, e.val))[i]? = some (f k, g a) := by rw [h2, List.getElem?_map, e1]; rfl
    rw [List.getElem?_map] at this
    simp only [Option.map_some, Nat.add_zero, e2]
    cases he : es[i]? with
    | none => rw [he] at this; simp at this
    | some e =>
      rw [he] at this
      simp only [Option.map_some, Option.some.injEq, Prod.mk.injEq] at this
      simp only [this.2]
theorem IsMap.look {m : κ → Option α} (h : IsMap H r f g m) (hk : KeyOf P kt f) (k : κ) (zero : Value) (ok : Bool) :
    lookR P H kt zero ok (.map (some r)) (f k) = some (match m k with
      | some a => if ok then .tuple #[g a, .bool true] else g a
      | none => if ok then .tuple #[zero, .bool false] else zero) := by
  obtain ⟨l, h1, h2⟩ := h
  rw [h1.look hk, h2]

def alPut (l : List (κ × α)) (k : κ) (a : α) : List (κ × α) := match alIdx l k with
  | some i => l.modify i fun _ => (k, a)
  | none => l ++ [(k, a)]
def alDel (l : List (κ × α)) (k : κ) : List (κ × α) := match alIdx l k with
  | some i => l.eraseIdx i
  | none => l
theorem alGet_put (l : List (κ × α)) (k : κ) (a : α) (k' : κ) : alGet (alPut l k a) k' = if k = k' then some a else alGet l k' := by
  unfold alPut
  cases h : alIdx l k with
  | none => exact alGet_append l k k' a (alIdx_none h)
  | some i => exact alGet_modify h a k'
theorem alGet_del {l : List (κ × α)} (hn : (l.map (·.1)).Nodup) (k k' : κ) : alGet (alDel l k) k' = if k = k' then none else alGet l k' := by
  unfold alDel
  cases h : alIdx l k with
  | none =>
    simp only
    by_cases h1 : k = k'
    · rw [if_pos h1, ← h1]; exact alIdx_none h
    · rw [if_neg h1]
  | some i => exact alGet_erase h hn k'
theorem alPut_nodup {l : List (κ × α)} (hn : (l.map (·.1)).Nodup) (k : κ) (a : α) : ((alPut l k a).map (·.1)).Nodup := by
  unfold alPut
  cases h : alIdx l k with
  | none =>
    simp only [List.map_append, List.map_cons, List.map_nil]
    have := alGet_none (alIdx_none h)
    rw [List.nodup_append]
    exact ⟨hn, by simp, fun x hx y hy => by simp at hy; subst hy; rintro rfl; exact this hx⟩
  | some i => simp only; rw [alKeys_modify h]; exact hn
theorem eraseIdx_mapf {A B : Type} (F : A → B) : ∀ (l : List A) (i : Nat), (l.eraseIdx i).map F = (l.map F).eraseIdx i
  | [], i => by simp
  | e :: l, 0 => by simp
  | e :: l, i + 1 => by rw [List.eraseIdx_cons_succ, List.map_cons, List.map_cons, List.eraseIdx_cons_succ, eraseIdx_mapf F l i]
theorem alDel_nodup {l : List (κ × α)} (hn : (l.map (·.1)).Nodup) (k : κ) : ((alDel l k).map (·.1)).Nodup := by
  unfold alDel
  cases h : alIdx l k with
  | none => exact hn
  | some i =>
    simp only
    rw [eraseIdx_mapf]
    exact hn.sublist (List.eraseIdx_sublist _ _)

theorem modify_mapf {A B : Type} (F : A → B) (x : A → A) (y : B) (hx : ∀ e, F (x e) = y) : ∀ (l : List A) (i : Nat), (l.modify i x).map F = (l.map F).modify i fun _ => y
  | [], i => by simp
  | e :: l, 0 => by simp [hx]
  | e :: l, i + 1 => by rw [List.modify_succ_cons, List.map_cons, List.map_cons, List.modify_succ_cons, modify_mapf F x y hx l i]

theorem IsMapL.put {l : List (κ × α)} (h : IsMapL H r f g l) (hk : KeyOf P kt f) (k : κ) (a : α) :
    ∃ o, putR P H kt (.map (some r)) (f k) (g a) = some (undef, H.set r o) ∧ IsMapL (H.set r o) r f g (alPut l k a) := by
  obtain ⟨h0, ⟨es, clock, h1, h2, hb⟩, hn⟩ := h
  simp only [putR, h1, keyOk_ok hk k h2, if_true, findI_ok hk k es l 0 h2]
  have hnp := alPut_nodup hn k a
  cases hi : alIdx l k with
  | none =>
    simp only [Option.map_none]
    refine ⟨_, rfl, h0, ⟨_, _, by rw [YW, if_pos rfl], ?_⟩, hnp⟩
    exact ⟨by simp only [alPut, hi, List.map_append, h2, List.map_cons, List.map_nil], hb.add _ _⟩
  | some i =>
    obtain ⟨a', e1, e2⟩ := alIdx_some hi
    have : (es.map fun e => (e.key, e.val))[i]? = some (f k, g a') := by rw [h2, List.getElem?_map, e1]; rfl
    rw [List.getElem?_map] at this
    simp only [Option.map_some, Nat.add_zero]
    cases he : es[i]? with
    | none => rw [he] at this; simp at this
    | some e =>
      rw [he] at this
      simp only [Option.map_some, Option.some.injEq, Prod.mk.injEq] at this
      simp only [Option.map_some, Option.getD_some, this.1, hk.sb, if_true]
      refine ⟨_, rfl, h0, ⟨_, _, by rw [YW, if_pos rfl], ?_⟩, hnp⟩
      refine ⟨?_, hb.modify (fun e => { e with key := f k, val := g a }) (fun _ => rfl) _⟩
      simp only [alPut, hi]
      rw [modify_mapf (fun e : MapEntry => (e.key, e.val)) _ (f k, g a) (fun _ => rfl), h2, modify_mapf (fun p : κ × α => (f p.1, g p.2)) _ (f k, g a) (fun _ => rfl)]
theorem IsMapL.del {l : List (κ × α)} (h : IsMapL H r f g l) (hk : KeyOf P kt f) (k : κ) :
    ∃ o, delR P H kt (.map (some r)) (f k) = some (.tuple #[], H.set r o) ∧ IsMapL (H.set r o) r f g (alDel l k) := by
  obtain ⟨h0, ⟨es, clock, h1, h2, hb⟩, hn⟩ := h
  simp only [delR, h1, keyOk_ok hk k h2, if_true, findI_ok hk k es l 0 h2]
  have hnp := alDel_nodup hn k
  cases hi : alIdx l k with
  | none =>
    simp only [Option.map_none]
    refine ⟨_, rfl, h0, ⟨_, _, by rw [YW, if_pos rfl], ?_⟩, hnp⟩
    exact ⟨by simp only [alDel, hi, h2], hb⟩
  | some i =>
    simp only [Option.map_some, Nat.add_zero]
    refine ⟨_, rfl, h0, ⟨_, _, by rw [YW, if_pos rfl], ?_⟩, hnp⟩
    exact ⟨by simp only [alDel, hi]; rw [eraseIdx_mapf, h2, eraseIdx_mapf], hb.erase _⟩
theorem IsMap.put {m : κ → Option α} (h : IsMap H r f g m) (hk : KeyOf P kt f) (k : κ) (a : α) :
    ∃ o, putR P H kt (.map (some r)) (f k) (g a) = some (undef, H.set r o) ∧ IsMap (H.set r o) r f g fun k' => if k = k' then some a else m k' := by
  obtain ⟨l, h1, h2⟩ := h
  obtain ⟨o, e1, e2⟩ := h1.put hk k a
  exact ⟨o, e1, _, e2, fun k' => by rw [alGet_put, h2]⟩
theorem IsMap.del {m : κ → Option α} (h : IsMap H r f g m) (hk : KeyOf P kt f) (k : κ) :
    ∃ o, delR P H kt (.map (some r)) (f k) = some (.tuple #[], H.set r o) ∧ IsMap (H.set r o) r f g fun k' => if k = k' then none else m k' := by
  obtain ⟨l, h1, h2⟩ := h
  obtain ⟨o, e1, e2⟩ := h1.del hk k
  exact ⟨o, e1, _, e2, fun k' => by rw [alGet_del h1.2.2, h2]⟩
omit [DecidableEq κ] in
theorem IsMapL.same {H' : IHeap} {l : List (κ × α)} (h : IsMapL H r f g l) (hn : H.next ≤ H'.next) (hg : H'.get r = H.get r) : IsMapL H' r f g l := by
  obtain ⟨h0, ⟨es, clock, h1, h2, hb⟩, h3⟩ := h
  exact ⟨Nat.lt_of_lt_of_le h0 hn, ⟨es, clock, hg.trans h1, h2, hb⟩, h3⟩
theorem IsMap.same {H' : IHeap} {m : κ → Option α} (h : IsMap H r f g m) (hn : H.next ≤ H'.next) (hg : H'.get r = H.get r) : IsMap H' r f g m := by
  obtain ⟨l, h1, h2⟩ := h
  exact ⟨l, h1.same hn hg, h2⟩
theorem IsMap.le {H' : IHeap} {m : κ → Option α} (h : IsMap H r f g m) (hl : H.le H') : IsMap H' r f g m := h.same hl.next (hl.get r (by obtain ⟨l, h1, _⟩ := h; exact h1.1))
theorem IsMap.lt {m : κ → Option α} (h : IsMap H r f g m) : r < H.next := by obtain ⟨l, h1, _⟩ := h; exact h1.1
theorem IsMap.new (H : IHeap) (f : κ → Value) (g : α → Value) : IsMap (H.alloc (.map [] 0)) H.next f g fun _ => none :=
  ⟨[], ⟨by simp [YX], ⟨[], 0, by rw [YV, if_pos rfl], rfl, List.nodup_nil, by simp⟩, by simp⟩, fun _ => rfl⟩

end
theorem IsMap.ne_cells {κ α : Type} [DecidableEq κ] {f : κ → Value} {g : α → Value} {m : κ → Option α} {H : IHeap} {p r : Nat} {cs : List Value} {ro : Bool} (h : IsMap H r f g m) (hp : H.get p = some (.cells cs ro)) : p ≠ r := by
  obtain ⟨l, ⟨_, ⟨es, clock, h1, _⟩, _⟩, _⟩ := h
  rintro rfl
  rw [h1] at hp; cases hp
end Go.Proofs.YtafnkmiggmfbdaaI
