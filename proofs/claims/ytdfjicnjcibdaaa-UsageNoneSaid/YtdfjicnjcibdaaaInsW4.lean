/- slices.Insert, of rows of four cells: what it does to an own slice. -/
import Derived.Test.YtdfjicnjcibdaaaInsV4
namespace Go.Proofs.YtdfjicnjcibdaaaI
set_option linter.unusedSimpArgs false
set_option linter.unusedVariables false
open Go

/-- An own slice, with room behind it maybe. -/
def VS (H : IHeap) (q : Nat) (u : Value) (rows : List (List Value)) : Prop := (rows = [] ∧ u = .slice none 0 0) ∨ ∃ cs, q < H.next ∧ u = .slice (some ⟨q, 0, none⟩) rows.length (UNK + 4) ∧ H.get q = some (.cells cs false) ∧ cs.take (rows.length * 4) = rows.flatten ∧ rows.length * 4 ≤ cs.length
theorem VS.upd {H H' : IHeap} {S : List Nat} {q : Nat} {u : Value} {rows : List (List Value)} (h : VS H q u rows) (hu : IHeap.upd S H H') (hq : q ∉ S) : VS H' q u rows := by
  rcases h with h | ⟨cs, a, b, c, d, e⟩
  · exact .inl h
  · exact .inr ⟨cs, Nat.lt_of_lt_of_le a hu.next, b, (hu.get q a hq).trans c, d, e⟩
theorem VS.le {H H' : IHeap} {q : Nat} {u : Value} {rows : List (List Value)} (h : VS H q u rows) (hu : H.le H') : VS H' q u rows := h.upd (hu.upd []) (by simp)
theorem VS.slw {H : IHeap} {q : Nat} {u : Value} {rows : List (List Value)} (h : VS H q u rows) (h4 : ∀ r ∈ rows, r.length = 4) : SlW H 4 u rows := by
  rcases h with ⟨rfl, rfl⟩ | ⟨cs, a, rfl, c, d, e⟩
  · exact SlW.nil H 4
  · refine ⟨⟨_, _, rfl, fun _ => ⟨q, 0, cs, false, rfl, a, c, fun i r hr => ?_⟩⟩, _, _, rfl, .inr ⟨_, _, rfl⟩, .inr ⟨rfl, by simp⟩⟩
    obtain ⟨f1, f2⟩ := flat_row rows 4 i r h4 hr
    have hfl := flat_len rows 4 h4
    refine ⟨h4 r (List.mem_of_getElem? hr), ?_, by omega⟩
    rw [← f1, ← d, Nat.zero_add, List.drop_take, List.take_take, Nat.min_eq_left (by omega)]
theorem VS.lenv {H : IHeap} {q : Nat} {u : Value} {rows : List (List Value)} (h : VS H q u rows) : ∃ a cap, u = .slice a rows.length cap := by
  rcases h with ⟨rfl, rfl⟩ | ⟨cs, _, rfl, _⟩
  · exact ⟨_, _, rfl⟩
  · exact ⟨_, _, rfl⟩

theorem flat_split (rows : List (List Value)) (i : Nat) : rows.flatten = (rows.take i).flatten ++ (rows.drop i).flatten := by
  conv => lhs; rw [← List.take_append_drop i rows]
  rw [List.flatten_append]

section
variable (c c0 : Ctx) (hc : HasUse c0) (hO : ∀ (H : IHeap) (K : Value → IHeap → Prop) (b1 o1 n1 c1 b2 o2 n2 c2 : Nat) (cs1 cs2 : List Value), b1 ≠ b2 → 0 < n1 → 0 < n2 → H.get b1 = some (.cells cs1 false) → H.get b2 = some (.cells cs2 false) → o1 ≤ cs1.length → cs2 ≠ [] → K (.bool false) H →
  c0.C (c0.F 257) [.slice (some ⟨b1, o1, none⟩) n1 c1, .slice (some ⟨b2, o2, none⟩) n2 c2] H K)
  (hX : ∀ (s : Value) (r : List Value) (H : IHeap) (K : Value → IHeap → Prop), Reveal H 4 s (fun t H1 => c0.C (c0.F n_slices_Insert_api_Use_api_Use) (t :: r) H1 fun v H2 => Hide H2 4 v K) → c.C (c.F n_slices_Insert_api_Use_api_Use) (s :: r) H K)
  {H : IHeap} {K : Value → IHeap → Prop}

include hc hO hX in
theorem Ins_ok {q vb i : Nat} {u : Value} {rows : List (List Value)} {new : List Value} (hu : VS H q u rows) (h4 : ∀ r ∈ rows, r.length = 4) (hone : rows.flatten.all one1 = true)
    (hv : H.get vb = some (.cells new false)) (hvl : vb < H.next) (hne : vb ≠ q) (hn : new.length = 4) (hn1 : new.all one1 = true) (hi : i ≤ rows.length) (hl : rows.length ≤ 1000000)
    (hK : ∀ q' H', IHeap.upd [q] H H' → H.next ≤ q' → VS H' q' (.slice (some ⟨q', 0, none⟩) (rows.length + 1) (UNK + 4)) (rows.take i ++ new :: rows.drop i) → K (.slice (some ⟨q', 0, none⟩) (rows.length + 1) (UNK + 4)) H') :
    c.C (c.F n_slices_Insert_api_Use_api_Use) [u, .int .i64 i, .slice (some ⟨vb, 0, none⟩) 1 1] H K := by
  refine hX u _ H K ?_
  have hlen : (rows.take i ++ new :: rows.drop i).length = rows.length + 1 := by simp; omega
  have hflat : (rows.take i ++ new :: rows.drop i).flatten = (rows.take i).flatten ++ new ++ (rows.drop i).flatten := by rw [List.flatten_append, List.flatten_cons, List.append_assoc]
  have hA : ((rows.take i).flatten).length = i * 4 := by rw [flat_len _ 4 fun r hr => h4 r (List.mem_of_mem_take hr), List.length_take]; omega
  have hB : ((rows.drop i).flatten).length = (rows.length - i) * 4 := by rw [flat_len _ 4 fun r hr => h4 r (List.mem_of_mem_drop hr), List.length_drop]
  have hall : ((rows.take i).flatten ++ new ++ (rows.drop i).flatten).length = (rows.length + 1) * 4 := by simp only [List.length_append]; omega
  rcases hu with ⟨rfl, rfl⟩ | ⟨cs, hq, rfl, hg, hcs, hcl⟩
  · refine .inl ⟨rfl, ?_⟩
    have hi0 : i = 0 := by simpa using hi
    subst hi0
    refine Ins_nil c0 hc hv hn (.inl (hK H.next _ ((H.le_alloc _).upd _) (Nat.le_refl _) (.inr ⟨new, by simp [YU], rfl, by rw [YS, if_pos rfl], by simp [hn, List.take_of_length_le], by simp [hn]⟩)))
  · refine .inr ⟨q, 0, rows.length, cs, rfl, hg, fun cp junk hcp hcu hroom => ?_⟩
    have hR : ∀ x, x < H.next → x ≠ q → ((H.set q .dead).alloc (.cells (cs ++ junk) false)).get x = H.get x := fun x h1 h2 => by
      rw [YS, YV, if_neg (by omega), YT, if_neg h2]
    have hRn : ((H.set q .dead).alloc (.cells (cs ++ junk) false)).next = H.next + 1 := rfl
    have hRg : ((H.set q .dead).alloc (.cells (cs ++ junk) false)).get H.next = some (.cells (cs ++ junk) false) := by rw [YS, YV, if_pos rfl]
    obtain ⟨HR, hHR⟩ : ∃ X : IHeap, X = (H.set q .dead).alloc (.cells (cs ++ junk) false) := ⟨_, rfl⟩
    rw [← hHR] at hR hRn hRg ⊢
    refine Ins_known c0 hc hO (A := (rows.take i).flatten) (B := (rows.drop i).flatten) hRg ((hR vb hvl hne).trans hv) (by omega) (by omega) (by omega) hn hn1 hA hB hi hl hcp hcu ?_ (hroom.imp id fun h => by omega) (by rw [← flat_split]; exact hone) (fun L' H' hr hL1 hL2 hnx hgb hoth => ?_) (fun H' hle hnx hgn => ?_)
    · rw [← flat_split, ← hcs, hA, hB, show i * 4 + (rows.length - i) * 4 = rows.length * 4 by omega, List.take_append_of_le_length hcl]
    · have hcl2 : 0 + cp * 4 ≤ (cs ++ junk).length := hroom.resolve_left (by omega)
      refine .inr ⟨H.next, 0, rows.length + 1, cp, L', rfl, hcu, hgb, hr, by omega, ?_⟩
      rw [hnx, hRn]
      refine hK (H.next + 1) _ ⟨by simp only [YU, YV]; omega, fun x h1 h2 => ?_⟩ (by omega) (.inr ⟨_, by simp only [YU, YV]; omega, by rw [hlen], by rw [YS, YV, if_pos (by omega)], ?_, ?_⟩)
      · simp only [List.mem_singleton] at h2
        rw [YS, YV, if_neg (by omega), YT, if_neg (by omega), hoth x (by omega), hR x h1 h2]
      · rw [hlen, List.drop_zero, List.take_take, Nat.min_self, hL2, hflat]
      · rw [hlen, List.drop_zero, hL2, hall]; exact Nat.le_refl _
    · rw [hRn] at hgn ⊢
      refine .inl (hK (H.next + 1) H' ⟨by have := hle.next; omega, fun x h1 h2 => ?_⟩ (by omega) (.inr ⟨_, by omega, by rw [hlen], hgn, ?_, ?_⟩))
      · simp only [List.mem_singleton] at h2
        rw [hle.get x (by omega), hR x h1 h2]
      · rw [hlen, hflat, List.take_of_length_le (by omega)]
      · rw [hlen, hall]; exact Nat.le_refl _

end
end Go.Proofs.YtdfjicnjcibdaaaI
