/- Segments: plain laws. -/
import Derived.Test.YtdfjicnjcibdaaaInsW4
namespace Go.Proofs.YtdfjicnjcibdaaaI
set_option linter.unusedSimpArgs false
set_option linter.unusedVariables false
open Go

structure UseD where
  seg : Int
  size : Int
  live : Int
  born : Int
  deriving DecidableEq
def rowT (x : UseD) : List Value := [.int .i64 x.seg, .int .i64 x.size, .int .i64 x.live, .int .i64 x.born]
def uV (x : UseD) : Value := .agg #[.int .i64 x.seg, .int .i64 x.size, .int .i64 x.live, .int .i64 x.born]
def SortedT (L : List UseD) : Prop := L.Pairwise fun a b => a.seg < b.seg
def mayT (x : UseD) : Bool := decide (1 ≤ x.size ∧ x.size ≤ 65536 ∧ 0 ≤ x.live ∧ x.live ≤ x.size ∧ 0 ≤ x.born ∧ x.born ≤ 1099511627776)
def posT (s : Int) : List UseD → Nat
  | [] => 0
  | v :: L => if v.seg < s then posT s L + 1 else 0
def thereT (L : List UseD) (s : Int) : Bool := match L[posT s L]? with | some v => decide (v.seg = s) | none => false
theorem posT_le (s : Int) : ∀ L : List UseD, posT s L ≤ L.length
  | [] => Nat.le_refl _
  | v :: L => by
    have := posT_le s L
    simp only [posT, List.length_cons]
    split <;> omega
theorem posT_lt {s : Int} : ∀ {L : List UseD} {i : Nat} {v : UseD}, i < posT s L → L[i]? = some v → v.seg < s
  | [], i, v, h, _ => by simp [posT] at h
  | w :: L, i, v, h, hv => by
    simp only [posT] at h
    split at h
    · cases i with
      | zero =>
        simp only [List.getElem?_cons_zero, Option.some.injEq] at hv
        subst hv; assumption
      | succ i => exact posT_lt (L := L) (i := i) (by omega) hv
    · omega
theorem posT_at {s : Int} : ∀ {L : List UseD} {v : UseD}, L[posT s L]? = some v → s ≤ v.seg
  | [], v, h => by simp at h
  | w :: L, v, h => by
    simp only [posT] at h
    split at h
    · exact posT_at (L := L) (by simpa using h)
    · simp only [List.getElem?_cons_zero, Option.some.injEq] at h
      subst h; omega
theorem posT_ge {s : Int} : ∀ {L : List UseD}, SortedT L → ∀ {i : Nat} {v : UseD}, posT s L ≤ i → L[i]? = some v → s ≤ v.seg
  | [], _, i, v, _, hv => by simp at hv
  | w :: L, hs, i, v, h, hv => by
    have hs' := List.pairwise_cons.1 hs
    simp only [posT] at h
    split at h
    · obtain ⟨j, rfl⟩ : ∃ j, i = j + 1 := ⟨i - 1, by omega⟩
      exact posT_ge (L := L) hs'.2 (i := j) (by omega) hv
    · rename_i hn
      cases i with
      | zero =>
        simp only [List.getElem?_cons_zero, Option.some.injEq] at hv
        subst hv; omega
      | succ i =>
        have := hs'.1 v (List.mem_of_getElem? hv)
        omega
theorem thereT_at {L : List UseD} {s : Int} (h : thereT L s = true) : ∃ x, L[posT s L]? = some x ∧ x.seg = s := by
  unfold thereT at h
  cases hq : L[posT s L]? with
  | none => rw [hq] at h; cases h
  | some x =>
    rw [hq] at h
    simp only [decide_eq_true_eq] at h
    exact ⟨x, rfl, h⟩
def addT (L : List UseD) (x : UseD) : List UseD × Int :=
  if x.seg < 0 ∨ 4096 ≤ x.seg ∨ mayT x = false then (L, 1) else if thereT L x.seg = true then (L, 6) else (L.take (posT x.seg L) ++ x :: L.drop (posT x.seg L), 0)
def liveAt (L : List UseD) (s : Int) : Int := match L[posT s L]? with | some x => x.live | none => 0
def deadT (L : List UseD) (s n : Int) : List UseD × Int :=
  if n < 0 then (L, 1) else if thereT L s = false then (L, 7) else if liveAt L s < n then (L, 2) else (L.modify (posT s L) fun x => { x with live := x.live - n }, 0)
def dropT (L : List UseD) (s : Int) : List UseD × Bool := if thereT L s = true then (L.eraseIdx (posT s L), true) else (L, false)
def ageT (x : UseD) (now : Int) : Int := if x.born < now then (if 1000000 < now - x.born then 1000000 else now - x.born) else 0
def scoreT (x : UseD) (now : Int) : Int := if mayT x = true then (x.size - x.live) * (ageT x now + 1) * 1000 / (x.size + x.live) else 0
def betterT (now : Int) (b : Option UseD) (x : UseD) : Option UseD :=
  if x.live = x.size then b else match b with | none => some x | some y => if scoreT y now < scoreT x now then some x else some y
def pickT (L : List UseD) (now : Int) : Option UseD := L.foldl (betterT now) none
def emptyT (L : List UseD) : List Int := (L.filter fun x => decide (x.live = 0)).map (·.seg)
def liveT (L : List UseD) : Int := (L.map (·.live)).foldl (· + ·) 0
def okT (x : UseD) : Prop := mayT x = true ∧ 0 ≤ x.seg ∧ x.seg < 4096

theorem okT_b {x : UseD} (h : mayT x = true) : 1 ≤ x.size ∧ x.size ≤ 65536 ∧ 0 ≤ x.live ∧ x.live ≤ x.size ∧ 0 ≤ x.born ∧ x.born ≤ 1099511627776 := by
  simpa [mayT] using h
theorem ageT_b (x : UseD) (now : Int) : 0 ≤ ageT x now ∧ ageT x now ≤ 1000000 := by
  unfold ageT
  repeat' split
  all_goals omega
theorem addT_sorted {L : List UseD} {x : UseD} (hs : SortedT L) : SortedT (addT L x).1 := by
  unfold addT
  split
  · exact hs
  · split
    · exact hs
    · rename_i h3
      have hd := hs
      unfold SortedT at hd ⊢
      rw [← List.take_append_drop (posT x.seg L) L, List.pairwise_append] at hd
      rw [List.pairwise_append]
      refine ⟨hd.1, List.pairwise_cons.2 ⟨fun e he => ?_, hd.2.1⟩, fun a ha b hb => ?_⟩
      · obtain ⟨j, hj⟩ := List.getElem?_of_mem he
        rw [List.getElem?_drop] at hj
        have hge := posT_ge (s := x.seg) hs (i := posT x.seg L + j) (Nat.le_add_right _ _) hj
        cases j with
        | zero =>
          rw [Nat.add_zero] at hj
          have : ¬ e.seg = x.seg := fun e2 => h3 (by unfold thereT; rw [hj]; simp [e2])
          omega
        | succ j =>
          obtain ⟨hl, hle⟩ := List.getElem?_eq_some_iff.1 hj
          have := List.pairwise_iff_getElem.1 hs (posT x.seg L) (posT x.seg L + (j + 1)) (by omega) hl (by omega)
          rw [hle] at this
          have h0 := posT_at (s := x.seg) (List.getElem?_eq_getElem (l := L) (i := posT x.seg L) (by omega))
          omega
      · rcases List.mem_cons.1 hb with rfl | hb
        · obtain ⟨j, hj⟩ := List.getElem?_of_mem ha
          rw [List.getElem?_take] at hj
          split at hj
          · exact posT_lt (by assumption) hj
          · cases hj
        · exact hd.2.2 a ha b hb
theorem addT_ok {L : List UseD} {x : UseD} (ho : ∀ e ∈ L, okT e) : (∀ e ∈ (addT L x).1, okT e) ∧ (addT L x).1.length ≤ L.length + 1 := by
  unfold addT
  split
  · exact ⟨ho, Nat.le_succ _⟩
  · rename_i h1
    split
    · exact ⟨ho, Nat.le_succ _⟩
    · refine ⟨fun e he => ?_, by have := posT_le x.seg L; simp only [List.length_append, List.length_take, List.length_cons, List.length_drop]; omega⟩
      rcases List.mem_append.1 he with he | he
      · exact ho e (List.mem_of_mem_take he)
      · rcases List.mem_cons.1 he with rfl | he
        · simp only [not_or, Bool.not_eq_false] at h1
          exact ⟨h1.2.2, by omega, by omega⟩
        · exact ho e (List.mem_of_mem_drop he)
theorem deadT_ok {L : List UseD} {s n : Int} (hs : SortedT L) (ho : ∀ e ∈ L, okT e) : SortedT (deadT L s n).1 ∧ (∀ e ∈ (deadT L s n).1, okT e) ∧ (deadT L s n).1.length = L.length := by
  unfold deadT
  split
  · exact ⟨hs, ho, rfl⟩
  · rename_i h1
    split
    · exact ⟨hs, ho, rfl⟩
    · rename_i h2
      split
      · exact ⟨hs, ho, rfl⟩
      · rename_i h3
        have hget : ∀ i (y : UseD), (L.modify (posT s L) fun x => { x with live := x.live - n })[i]? = some y → ∃ x, L[i]? = some x ∧ (y = x ∨ (i = posT s L ∧ y = { x with live := x.live - n })) := by
          intro i y h
          rw [List.getElem?_modify] at h
          cases hx : L[i]? with
          | none => rw [hx] at h; cases h
          | some x =>
            rw [hx] at h
            simp only [Option.map_eq_map, Option.map_some, Option.some.injEq] at h
            split at h
            · exact ⟨x, rfl, .inr ⟨by omega, h.symm⟩⟩
            · exact ⟨x, rfl, .inl h.symm⟩
        refine ⟨?_, fun e he => ?_, List.length_modify _ _ _⟩
        · unfold SortedT
          rw [List.pairwise_iff_getElem]
          intro i j hi hj hij
          obtain ⟨x, hx, ex⟩ := hget i _ (List.getElem?_eq_getElem hi)
          obtain ⟨y, hy, ey⟩ := hget j _ (List.getElem?_eq_getElem hj)
          obtain ⟨hi2, hi3⟩ := List.getElem?_eq_some_iff.1 hx
          obtain ⟨hj2, hj3⟩ := List.getElem?_eq_some_iff.1 hy
          have := List.pairwise_iff_getElem.1 hs i j hi2 hj2 hij
          rw [hi3, hj3] at this
          rcases ex with ex | ⟨_, ex⟩ <;> rcases ey with ey | ⟨_, ey⟩ <;> rw [ex, ey] <;> exact this
        · obtain ⟨i, hi⟩ := List.getElem?_of_mem he
          obtain ⟨x, hx, ex⟩ := hget i e hi
          have hxo := ho x (List.mem_of_getElem? hx)
          rcases ex with rfl | ⟨rfl, rfl⟩
          · exact hxo
          · have hl : liveAt L s = x.live := by simp [liveAt, hx]
            rw [hl] at h3
            have := okT_b hxo.1
            exact ⟨by simp [mayT]; omega, hxo.2.1, hxo.2.2⟩
theorem dropT_ok {L : List UseD} {s : Int} (hs : SortedT L) (ho : ∀ e ∈ L, okT e) : SortedT (dropT L s).1 ∧ (∀ e ∈ (dropT L s).1, okT e) ∧ (dropT L s).1.length ≤ L.length := by
  unfold dropT
  split
  · exact ⟨hs.sublist (List.eraseIdx_sublist _ _), fun e he => ho e (List.mem_of_mem_eraseIdx he), by rw [List.length_eraseIdx]; split <;> omega⟩
  · exact ⟨hs, ho, Nat.le_refl _⟩
theorem scoreT_b (x : UseD) (now : Int) : 0 ≤ scoreT x now := by
  unfold scoreT
  split
  · rename_i h
    have hb := okT_b h
    have ha := ageT_b x now
    exact Int.ediv_nonneg (Int.mul_nonneg (Int.mul_nonneg (by omega) (by omega)) (by omega)) (by omega)
  · omega
theorem rowT_four (L : List UseD) : ∀ r ∈ L.map rowT, r.length = 4 := by
  intro r hr
  obtain ⟨v, _, rfl⟩ := List.mem_map.1 hr
  rfl
theorem rowT_one (L : List UseD) : (L.map rowT).flatten.all one1 = true := by
  rw [List.all_eq_true]
  intro x hx
  obtain ⟨r, hr, hx⟩ := List.mem_flatten.1 hx
  obtain ⟨v, _, rfl⟩ := List.mem_map.1 hr
  simp only [rowT, List.mem_cons, List.not_mem_nil, or_false] at hx
  rcases hx with rfl | rfl | rfl | rfl <;> rfl
theorem row_getT {cs r : List Value} {p n : Nat} (h : (cs.drop p).take n = r) (j : Nat) (hj : j < n) : cs[p + j]? = r[j]? := by
  rw [← h, List.getElem?_take, if_pos hj, List.getElem?_drop]

structure IsT (H : IHeap) (p q : Nat) (L : List UseD) : Prop where
  lt : p < H.next
  ne : p ≠ q
  rep : ∃ u, H.get p = some (.cells [u] false) ∧ VS H q u (L.map rowT)
  sorted : SortedT L
theorem IsT.upd {H H' : IHeap} {S : List Nat} {p q : Nat} {L : List UseD} (h : IsT H p q L) (hu : IHeap.upd S H H') (hp : p ∉ S) (hq : q ∉ S) : IsT H' p q L := by
  obtain ⟨u, g1, g2⟩ := h.rep
  exact ⟨Nat.lt_of_lt_of_le h.lt hu.next, h.ne, ⟨u, (hu.get p h.lt hp).trans g1, g2.upd hu hq⟩, h.sorted⟩
theorem IsT.le {H H' : IHeap} {p q : Nat} {L : List UseD} (h : IsT H p q L) (hu : H.le H') : IsT H' p q L := h.upd (hu.upd []) (by simp) (by simp)

end Go.Proofs.YtdfjicnjcibdaaaI
