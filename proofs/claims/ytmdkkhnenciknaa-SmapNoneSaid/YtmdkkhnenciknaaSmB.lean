/- Stripes that are known: plain laws, and how they stand in the heap. -/
import Derived.Test.YtmdkkhnenciknaaSmA
import Derived.Test.YtmdkkhnenciknaaCodecPX
namespace Go.Proofs.YtmdkkhnenciknaaI
set_option linter.unusedSimpArgs false
set_option linter.unusedVariables false
open Go

/-- A stripe. -/
structure St where
  st : Int
  ow : Int
  ep : Int
  le : Int
  sv : List Int
def grpS (l : List Int) : Bool := decide (2 ≤ l.length) && (decide (l.length ≤ 8) && apart l)
def St.may (x : St) : Bool := decide (0 ≤ x.ow) && (decide (x.ow < 16) && (decide (1 ≤ x.ep) && (decide (0 ≤ x.le) && (decide (x.le ≤ 65536) && grpS x.sv))))
structure St.ok (x : St) : Prop where
  may : x.may = true
  s1 : 1 ≤ x.st
  s3 : x.st ≤ 3
  ep : x.ep < 9223372036854775808
theorem St.may_iff {x : St} : x.may = true ↔ 0 ≤ x.ow ∧ x.ow < 16 ∧ 1 ≤ x.ep ∧ 0 ≤ x.le ∧ x.le ≤ 65536 ∧ 2 ≤ x.sv.length ∧ x.sv.length ≤ 8 ∧ Apart x.sv := by
  simp only [St.may, grpS, Bool.and_eq_true, decide_eq_true_eq, apart_iff]
/-- The places of those that are so. -/
def wh (f : St → Bool) : Nat → List St → List Int
  | _, [] => []
  | n, x :: L => if f x then (n : Int) :: wh f (n + 1) L else wh f (n + 1) L
theorem wh_snoc (f : St → Bool) : ∀ (L : List St) (n : Nat) (x : St), wh f n (L ++ [x]) = wh f n L ++ (if f x then [((n + L.length : Nat) : Int)] else [])
  | [], n, x => by simp only [List.nil_append, wh, List.length_nil, Nat.add_zero]
  | y :: L, n, x => by
    simp only [List.cons_append, wh, List.length_cons]
    rw [wh_snoc f L (n + 1) x]
    have e : n + 1 + L.length = n + (L.length + 1) := by omega
    rw [e]
    split <;> simp
theorem wh_len (f : St → Bool) : ∀ (L : List St) (n : Nat), (wh f n L).length = L.countP f
  | [], _ => rfl
  | x :: L, n => by
    simp only [wh, List.countP_cons]
    split
    · rename_i h; simp [wh_len f L (n + 1), h]
    · rename_i h; simp [wh_len f L (n + 1), h]
def isOpen (x : St) : Bool := decide (x.st ≠ 3)
def opn (L : List St) : Nat := L.countP isOpen
theorem opn_le (L : List St) : opn L ≤ L.length := List.countP_le_length
theorem opn_free (L : List St) : (wh (fun x => decide (x.st = 3)) 0 L).length + opn L = L.length := by
  rw [wh_len]
  unfold opn
  induction L with
  | nil => rfl
  | cons x L ih =>
    simp only [List.countP_cons, isOpen, List.length_cons]
    by_cases h : x.st = 3
    · simp only [h, decide_true, if_true, ne_eq, not_true_eq_false, decide_false, Bool.false_eq_true, if_false]; omega
    · simp only [h, decide_false, ne_eq, not_false_eq_true, decide_true, if_true, Bool.false_eq_true, if_false]; omega

def getS (L : List St) (id : Int) : Option St := if id < 0 then none else L[id.toNat]?
theorem getS_some {L : List St} {id : Int} {x : St} (h : getS L id = some x) : 0 ≤ id ∧ id.toNat < L.length ∧ L[id.toNat]? = some x := by
  unfold getS at h
  split at h
  · cases h
  · rename_i hn
    exact ⟨by omega, (List.getElem?_eq_some_iff.1 h).1, h⟩
theorem getS_none {L : List St} {id : Int} (h : getS L id = none) : id < 0 ∨ (L.length : Int) ≤ id := by
  unfold getS at h
  split at h
  · left; assumption
  · right
    rw [List.getElem?_eq_none_iff] at h
    omega
def SBegin (L : List St) (ow ep le : Int) (sv : List Int) : List St × Int × Int :=
  if St.may ⟨1, ow, ep, le, sv⟩ = false then (L, 0, 1) else if 256 ≤ opn L ∨ 4096 ≤ L.length then (L, 0, 5) else (L ++ [⟨1, ow, ep, le, sv⟩], L.length, 0)
def SCommit (L : List St) (id ow : Int) : List St × Int :=
  match getS L id with
  | none => (L, 7)
  | some x => if x.st ≠ 1 ∨ x.ow ≠ ow then (L, 16) else (L.set id.toNat { x with st := 2 }, 0)
def SFree (L : List St) (id : Int) : List St × Int :=
  match getS L id with
  | none => (L, 7)
  | some x => if x.st = 3 then (L, 16) else (L.set id.toNat { x with st := 3 }, 0)
def SMove (L : List St) (id ix sr : Int) : List St × Int :=
  if ix < 0 ∨ (match getS L id with | none => (8 : Int) | some x => x.sv.length) ≤ ix ∨ sr < 0 ∨ 63 < sr then (L, 1) else
  match getS L id with
  | none => (L, 7)
  | some x => if 0 ≤ atI x.sv sr ∧ atI x.sv sr ≠ ix then (L, 6) else if x.st = 3 then (L, 16) else (L.set id.toNat { x with sv := x.sv.set ix.toNat sr }, 0)
def isOf (ow : Int) (x : St) : Bool := decide (x.ow = ow) && decide (x.st = 1)
def SDrop (L : List St) (ow : Int) : List St × List Int := (L.map fun x => if isOf ow x then { x with st := 3 } else x, wh (isOf ow) 0 L)

/-! ### rows -/
def slS (b n : Nat) : Value := .slice (some ⟨b, 0, none⟩) n (UNK + 1)
def rowSt (i : Nat) (x : St) (v : Value) : List Value := [.int .i64 i, .int .i64 x.st, .int .i64 x.ow, .int .i64 x.ep, .int .i64 x.le, v]
def stV (i : Nat) (x : St) (v : Value) : Value := .agg #[.int .i64 i, .int .i64 x.st, .int .i64 x.ow, .int .i64 x.ep, .int .i64 x.le, v]
def rowsB (bs : Nat → Nat) (L : List St) : List (List Value) := L.mapIdx fun i x => rowSt i x (slS (bs i) x.sv.length)
theorem rowsB_len (bs : Nat → Nat) (L : List St) : (rowsB bs L).length = L.length := by simp [rowsB]
theorem rowsB_six (bs : Nat → Nat) (L : List St) : ∀ r ∈ rowsB bs L, r.length = 6 := by
  intro r hr
  simp only [rowsB, List.mem_mapIdx] at hr
  obtain ⟨i, h, rfl⟩ := hr
  rfl
theorem rowsB_get {bs : Nat → Nat} {L : List St} {i : Nat} {x : St} (h : L[i]? = some x) : (rowsB bs L)[i]? = some (rowSt i x (slS (bs i) x.sv.length)) := by
  simp [rowsB, List.getElem?_mapIdx, h]
theorem rowsB_snoc (bs : Nat → Nat) (L : List St) (x : St) (b : Nat) : rowsB (fun i => if i = L.length then b else bs i) (L ++ [x]) = rowsB bs L ++ [rowSt L.length x (slS b x.sv.length)] := by
  apply List.ext_getElem?
  intro i
  simp only [rowsB, List.getElem?_mapIdx]
  by_cases h : i < L.length
  · rw [List.getElem?_append_left h, List.getElem?_append_left (by simpa using h), List.getElem?_mapIdx]
    have : ¬ i = L.length := by omega
    simp [this]
  · by_cases he : i = L.length
    · subst he
      rw [List.getElem?_append_right (Nat.le_refl _), List.getElem?_append_right (by simp)]
      simp
    · rw [List.getElem?_eq_none (by simp; omega), List.getElem?_eq_none (by simp; omega)]
      rfl
theorem flat_set {α : Type} {size : Nat} : ∀ (rows : List (List α)) (i j : Nat) (v : α), (∀ r ∈ rows, r.length = size) → j < size → (rows.flatten).set (i * size + j) v = (rows.modify i fun r => r.set j v).flatten
  | [], _, _, _, _, _ => by simp
  | r :: rows, 0, j, v, h, hj => by
    have hr := h r (by simp)
    simp only [List.flatten_cons, Nat.zero_mul, Nat.zero_add, List.modify_zero_cons]
    rw [List.set_append_left _ _ (by omega)]
  | r :: rows, i + 1, j, v, h, hj => by
    have hr := h r (by simp)
    simp only [List.flatten_cons, List.modify_succ_cons]
    rw [List.set_append_right _ _ (by rw [hr, Nat.add_mul]; omega), ← flat_set rows i j v (fun q hq => h q (by simp [hq])) hj]
    have e : (i + 1) * size + j - r.length = i * size + j := by rw [hr, Nat.add_mul]; omega
    rw [e]
theorem putAt_one {cs : List Value} {i : Nat} {v : Value} (h : i < cs.length) : putAt cs i [v] = cs.set i v := by
  rw [List.set_eq_take_append_cons_drop, if_pos h]
  simp [putAt]
theorem rowsB_set {bs : Nat → Nat} {L : List St} {i : Nat} {x y : St} (hx : L[i]? = some x) (hy : y.sv.length = x.sv.length) (j : Nat) (v : Value) (hr : (rowSt i x (slS (bs i) x.sv.length)).set j v = rowSt i y (slS (bs i) y.sv.length)) :
    (rowsB bs L).modify i (fun r => r.set j v) = rowsB bs (L.set i y) := by
  apply List.ext_getElem?
  intro k
  have hi := (List.getElem?_eq_some_iff.1 hx).1
  rw [List.getElem?_modify]
  simp only [rowsB, List.getElem?_mapIdx, List.getElem?_set]
  by_cases hk : i = k
  · subst hk
    rw [if_pos rfl, if_pos hi, hx]
    simp [hr]
  · rw [if_neg hk]
    simp [hk]
theorem all_rowSt (i : Nat) (x : St) (b n : Nat) : (rowSt i x (slS b n)).all one1 = true := rfl

/-- A new row behind all others. -/
theorem push_ok {H : IHeap} {q size bytes : Nat} {u : Value} {rows : List (List Value)} {new : List Value} (hu : (rows = [] ∧ u = .slice none 0 0) ∨ (rows ≠ [] ∧ u = .slice (some ⟨q, 0, none⟩) rows.length (UNK + size) ∧ H.get q = some (.cells rows.flatten false)))
    (hr : ∀ r ∈ rows, r.length = size) (h0 : 0 < size) (h1 : 0 < bytes) (hn : new.length = size) (hone : new.all one1 = true) (hb : (rows.length + 1) * bytes ≤ 140737488355328) (hl : rows.length + 1 ≤ 140737488355328) :
    ∃ H', appendI H size bytes u 1 new = some (.slice (some ⟨H.next, 0, none⟩) (rows.length + 1) (UNK + size), H') ∧ H'.get H.next = some (.cells (rows ++ [new]).flatten false) ∧ H'.next = H.next + 1 ∧ IHeap.upd [q] H H' ∧ (rows = [] → H.le H') := by
  rcases hu with ⟨rfl, rfl⟩ | ⟨hne, rfl, hg⟩
  · refine ⟨H.alloc (.cells new false), ?_, by simp [YS], rfl, (H.le_alloc _).upd _, fun _ => H.le_alloc _⟩
    simp only [List.length_nil, Nat.zero_add, Nat.one_mul] at hb hl
    simp only [appendI, Nat.zero_add, Nat.one_mul, List.length_nil]
    rw [if_pos ⟨hb, hl, h1, h0, hn⟩, if_neg (by omega)]
    simp
  · have hfl := flat_len rows size hr
    refine ⟨(H.set q .dead).alloc (.cells (rows.flatten ++ new) false), ?_, by simp [YS, YV], rfl, ((IHeap.upd_refl _ H).set (.inr (by simp)) _).alloc _, fun e => absurd e hne⟩
    have hf : firstI H size rows.length (.slice (some ⟨q, 0, none⟩) rows.length (UNK + size)) = some rows.flatten := by
      simp only [firstI, IHeap.loadL, hg]
      by_cases hz : rows.length * size = 0
      · rw [if_pos hz]
        rw [← hfl] at hz
        rw [List.length_eq_zero_iff.1 hz]
      · rw [if_neg hz, if_pos (by omega), List.drop_zero, List.take_of_length_le (by omega)]
    have e : (rows.length + 1) * size = rows.length * size + size := by rw [Nat.add_mul]; omega
    simp only [appendI]
    rw [if_pos ⟨hb, hl, h1, h0, by omega⟩, if_neg (by omega), if_neg (by omega)]
    simp only [hf]
    rw [if_neg (by omega)]
    simp only [hg, hone, if_true]
    rw [if_neg (by omega), if_pos (by omega)]

structure IsS (H : IHeap) (p q : Nat) (bs : Nat → Nat) (L : List St) : Prop where
  lt : p < H.next
  ltq : q < H.next
  rep : ∃ u, H.get p = some (.cells [u, .int .i64 (opn L)] false) ∧ ((L = [] ∧ u = .slice none 0 0) ∨ (L ≠ [] ∧ p ≠ q ∧ u = .slice (some ⟨q, 0, none⟩) L.length (UNK + 6) ∧ H.get q = some (.cells (rowsB bs L).flatten false)))
  ok : ∀ x ∈ L, x.ok
  len : L.length ≤ 4096
  bl : ∀ i x, L[i]? = some x → bs i < H.next ∧ H.get (bs i) = some (.cells (x.sv.map iV) false) ∧ bs i ≠ p ∧ bs i ≠ q
  inj : ∀ i j, i < L.length → j < L.length → bs i = bs j → i = j
theorem IsS.upd {H H' : IHeap} {S : List Nat} {p q : Nat} {bs : Nat → Nat} {L : List St} (h : IsS H p q bs L) (hu : IHeap.upd S H H') (hp : p ∉ S) (hq : q ∉ S) (hb : ∀ i, i < L.length → bs i ∉ S) : IsS H' p q bs L := by
  obtain ⟨u, g1, g2⟩ := h.rep
  refine ⟨Nat.lt_of_lt_of_le h.lt hu.next, Nat.lt_of_lt_of_le h.ltq hu.next, ⟨u, (hu.get p h.lt hp).trans g1, g2.imp id fun g => ⟨g.1, g.2.1, g.2.2.1, (hu.get q h.ltq hq).trans g.2.2.2⟩⟩, h.ok, h.len, fun i x hx => ?_, h.inj⟩
  obtain ⟨b1, b2, b3⟩ := h.bl i x hx
  exact ⟨Nat.lt_of_lt_of_le b1 hu.next, (hu.get _ b1 (hb i (List.getElem?_eq_some_iff.1 hx).1)).trans b2, b3⟩
theorem IsS.le {H H' : IHeap} {p q : Nat} {bs : Nat → Nat} {L : List St} (h : IsS H p q bs L) (hu : H.le H') : IsS H' p q bs L := h.upd (hu.upd []) (by simp) (by simp) (by simp)
theorem IsS.sl {H : IHeap} {p q : Nat} {bs : Nat → Nat} {L : List St} (h : IsS H p q bs L) {i : Nat} {x : St} (hx : L[i]? = some x) : SlW H 1 (slS (bs i) x.sv.length) (x.sv.map rowI) := by
  obtain ⟨b1, b2, _⟩ := h.bl i x hx
  exact ⟨slr_ints b1 b2 (by rw [List.drop_zero, List.take_of_length_le (by simp)]) (by simp), _, _, by rw [List.length_map]; rfl, .inr ⟨_, _, rfl⟩, .inr ⟨rfl, by simp⟩⟩
theorem IsS.at {H : IHeap} {p q : Nat} {bs : Nat → Nat} {L : List St} (h : IsS H p q bs L) {i : Nat} {x : St} (hx : L[i]? = some x) :
    H.get p = some (.cells [.slice (some ⟨q, 0, none⟩) L.length (UNK + 6), .int .i64 (opn L)] false) ∧ H.get q = some (.cells (rowsB bs L).flatten false) ∧ ((rowsB bs L).flatten.drop (i * 6)).take 6 = rowSt i x (slS (bs i) x.sv.length) ∧ i * 6 + 6 ≤ (rowsB bs L).flatten.length ∧ q < H.next ∧ p ≠ q := by
  obtain ⟨u, g1, g2⟩ := h.rep
  have hi := (List.getElem?_eq_some_iff.1 hx).1
  rcases g2 with ⟨e, _⟩ | ⟨g0, g00, rfl, g2⟩
  · subst e; simp at hi
  · exact ⟨g1, g2, (flat_row _ 6 i _ (rowsB_six bs L) (rowsB_get hx)).1, (flat_row _ 6 i _ (rowsB_six bs L) (rowsB_get hx)).2, h.ltq, g00⟩
theorem IsS.u {H : IHeap} {p q : Nat} {bs : Nat → Nat} {L : List St} (h : IsS H p q bs L) : ∃ a cap, H.get p = some (.cells [.slice a L.length cap, .int .i64 (opn L)] false) := by
  obtain ⟨u, g1, g2⟩ := h.rep
  rcases g2 with ⟨rfl, rfl⟩ | ⟨_, _, rfl, _⟩
  · exact ⟨_, _, g1⟩
  · exact ⟨_, _, g1⟩
end Go.Proofs.YtmdkkhnenciknaaI
