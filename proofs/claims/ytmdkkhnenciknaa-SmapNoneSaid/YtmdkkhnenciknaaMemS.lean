/- Who is in a group: plain laws. -/
import Derived.Test.YtmdkkhnenciknaaSlW
import Derived.Test.YtmdkkhnenciknaaCodecPX
namespace Go.Proofs.YtmdkkhnenciknaaI
set_option linter.unusedSimpArgs false
set_option linter.unusedVariables false
open Go

/-- A number's place; -1: none. -/
def atI (l : List Int) (n : Int) : Int := match l.findIdx? (fun x => decide (x = n)) with
  | some i => i
  | none => -1
theorem atI_none {l : List Int} {n : Int} (h : n ∉ l) : atI l n = -1 := by
  unfold atI
  have : l.findIdx? (fun x => decide (x = n)) = none := by
    rw [List.findIdx?_eq_none_iff]
    intro x hx
    simp only [decide_eq_false_iff_not]
    rintro rfl; exact h hx
  rw [this]
theorem atI_first {l : List Int} {n : Int} {i : Nat} (hi : i < l.length) (h : l[i] = n) (hf : ∀ j (hj : j < i), l[j]'(by omega) ≠ n) : atI l n = i := by
  unfold atI
  have : l.findIdx? (fun x => decide (x = n)) = some i := by
    rw [List.findIdx?_eq_some_iff_getElem]
    refine ⟨hi, by simpa using h, fun j hj => by simpa using hf j hj⟩
  rw [this]
theorem atI_mem {l : List Int} {n : Int} (h : n ∈ l) : ∃ i : Nat, ∃ hi : i < l.length, atI l n = i ∧ l[i] = n := by
  unfold atI
  cases hf : l.findIdx? (fun x => decide (x = n)) with
  | none =>
    rw [List.findIdx?_eq_none_iff] at hf
    have := hf n h
    simp at this
  | some i =>
    rw [List.findIdx?_eq_some_iff_getElem] at hf
    obtain ⟨hi, h1, _⟩ := hf
    exact ⟨i, hi, rfl, by simpa using h1⟩
theorem atI_neg {l : List Int} {n : Int} : atI l n < 0 ↔ n ∉ l := by
  constructor
  · intro h hm
    obtain ⟨i, _, e, _⟩ := atI_mem hm
    omega
  · intro h; rw [atI_none h]; omega
theorem atI_lt (l : List Int) (n : Int) : -1 ≤ atI l n ∧ atI l n < l.length := by
  by_cases h : n ∈ l
  · obtain ⟨i, hi, e, _⟩ := atI_mem h
    omega
  · rw [atI_none h]; omega

/-- All of 0 to 63, no two the same. -/
def apart : List Int → Bool
  | [] => true
  | x :: l => decide (0 ≤ x) && (decide (x < 64) && (decide (x ∉ l) && apart l))
def Apart (l : List Int) : Prop := (∀ x ∈ l, 0 ≤ x ∧ x < 64) ∧ l.Nodup
theorem apart_iff : ∀ l : List Int, apart l = true ↔ Apart l
  | [] => by simp [apart, Apart]
  | x :: l => by
    have ih := apart_iff l
    simp only [apart, Apart, Bool.and_eq_true, decide_eq_true_eq, List.mem_cons, List.nodup_cons, forall_eq_or_imp] at ih ⊢
    rw [ih]
    constructor
    · rintro ⟨h1, h2, h3, h4, h5⟩; exact ⟨⟨⟨h1, h2⟩, h4⟩, h3, h5⟩
    · rintro ⟨⟨⟨h1, h2⟩, h4⟩, h3, h5⟩; exact ⟨h1, h2, h3, h4, h5⟩
theorem apart_len {l : List Int} (h : Apart l) : l.length ≤ 64 := by
  have : ∀ (n : Nat) (l : List Int), (∀ x ∈ l, 0 ≤ x ∧ x < n) → l.Nodup → l.length ≤ n := by
    intro n
    induction n with
    | zero =>
      intro l h1 _
      cases l with
      | nil => simp
      | cons x l => have := h1 x (by simp); omega
    | succ n ih =>
      intro l h1 h2
      by_cases hm : (n : Int) ∈ l
      · have h3 := ih (l.erase n) (fun x hx => by
          have h4 := h1 x (List.mem_of_mem_erase hx)
          have h5 : x ≠ n := by
            rintro rfl
            exact (List.Nodup.not_mem_erase h2) hx
          omega) (h2.erase _)
        rw [List.length_erase_of_mem hm] at h3
        omega
      · have h3 := ih l (fun x hx => by
          have h4 := h1 x hx
          have h5 : x ≠ n := by rintro rfl; exact hm hx
          omega) h2
        omega
  exact this 64 l h.1 h.2
theorem apart_snoc {l : List Int} {x : Int} : Apart (l ++ [x]) ↔ Apart l ∧ 0 ≤ x ∧ x < 64 ∧ x ∉ l := by
  unfold Apart
  rw [List.nodup_append]
  constructor
  · rintro ⟨h1, h2, _, h4⟩
    refine ⟨⟨fun y hy => h1 y (by simp [hy]), h2⟩, (h1 x (by simp)).1, (h1 x (by simp)).2, fun hx => h4 x hx x (by simp) rfl⟩
  · rintro ⟨⟨h1, h2⟩, h3, h4, h5⟩
    refine ⟨fun y hy => ?_, h2, by simp, fun y hy z hz => ?_⟩
    · rcases List.mem_append.1 hy with h | h
      · exact h1 y h
      · simp at h; subst h; exact ⟨h3, h4⟩
    · simp at hz; subst hz; rintro rfl; exact h5 hy
theorem Apart.left {l m : List Int} (h : Apart (l ++ m)) : Apart l := ⟨fun x hx => h.1 x (by simp [hx]), (List.nodup_append.1 h.2).1⟩
theorem Apart.right {l m : List Int} (h : Apart (l ++ m)) : Apart m := ⟨fun x hx => h.1 x (by simp [hx]), (List.nodup_append.1 h.2).2.1⟩

structure Mem where
  L : List Int
  S : List Int
  e : Int
  h : Int
  f : Bool
  g : Int
/-- What a group is, always. -/
structure Mem.ok (m : Mem) : Prop where
  two : 2 ≤ m.L.length
  eight : m.L.length ≤ 8
  ap : Apart (m.L ++ m.S)
  ep : 1 ≤ m.e ∧ m.e < 9223372036854775808
  h1 : -1 ≤ m.h
  h2 : m.h < m.L.length
  fh : m.f = true → 0 ≤ m.h
  gr : -1 ≤ m.g ∧ m.g < 64
theorem Mem.ok.sl {m : Mem} (h : m.ok) : m.S.length ≤ 64 := by have := apart_len h.ap.right; exact this

def Mem.fail (m : Mem) (s e : Int) : Mem × Int :=
  if atI m.L s < 0 then (m, 7) else if 0 ≤ m.h then (m, 9) else if e ≠ m.e then (m, 10) else ({ m with h := atI m.L s, g := s, f := false, e := m.e + 1 }, 0)
def Mem.swap (m : Mem) (e : Int) : Mem × Int × Int :=
  match m.S with
  | [] => (m, 0, 7)
  | s :: r => if e ≠ m.e then (m, 0, 10) else if m.h < 0 ∨ m.f = true then (m, 0, 16) else ({ m with L := m.L.set m.h.toNat s, S := r, f := true, e := m.e + 1 }, s, 0)
def Mem.done (m : Mem) (e : Int) : Mem × Int :=
  if e ≠ m.e then (m, 10) else if m.h < 0 ∨ m.f = false then (m, 16) else ({ m with h := -1, g := -1, f := false, e := m.e + 1 }, 0)
def Mem.add (m : Mem) (s : Int) : Mem × Int :=
  if s < 0 ∨ 63 < s then (m, 1) else if 0 ≤ atI m.L s ∨ 0 ≤ atI m.S s ∨ s = m.g then (m, 6) else ({ m with S := m.S ++ [s] }, 0)

theorem Mem.ok.fail {m : Mem} (h : m.ok) (hb : m.e < 4611686018427387904) (s e : Int) : (m.fail s e).1.ok := by
  unfold Mem.fail
  repeat' split
  · exact h
  · exact h
  · exact h
  · have ha := atI_lt m.L s
    have hm : s ∈ m.L := by rename_i h1 _ _; exact Classical.byContradiction fun hn => h1 (atI_neg.2 hn)
    have hs := h.ap.1 s (by simp [hm])
    exact ⟨h.two, h.eight, h.ap, by simp only; have := h.ep; omega, by simp only; omega, ha.2, by simp, by simp only; omega⟩
theorem Mem.ok.done {m : Mem} (h : m.ok) (hb : m.e < 4611686018427387904) (e : Int) : (m.done e).1.ok := by
  unfold Mem.done
  repeat' split
  · exact h
  · exact h
  · exact ⟨h.two, h.eight, h.ap, by simp only; have := h.ep; omega, by simp, by simp only; have := h.two; omega, by simp, by simp⟩
theorem Mem.ok.add {m : Mem} (h : m.ok) (s : Int) : (m.add s).1.ok := by
  unfold Mem.add
  repeat' split
  · exact h
  · exact h
  · rename_i h1 h2
    have q1 : s ∉ m.L := atI_neg.1 (by omega)
    have q2 : s ∉ m.S := atI_neg.1 (by omega)
    refine ⟨h.two, h.eight, ?_, h.ep, h.h1, h.h2, h.fh, h.gr⟩
    simp only
    rw [← List.append_assoc, apart_snoc]
    exact ⟨h.ap, by omega, by omega, by simp [q1, q2]⟩
theorem Mem.ok.swap {m : Mem} (h : m.ok) (hb : m.e < 4611686018427387904) (e : Int) : (m.swap e).1.ok := by
  unfold Mem.swap
  split
  · exact h
  · rename_i s r hS
    repeat' split
    · exact h
    · exact h
    · rename_i h1 h2
      have hap := h.ap
      rw [hS] at hap
      refine ⟨by simp; exact h.two, by simp; exact h.eight, ?_, by simp only; have := h.ep; omega, h.h1, by simp; exact h.h2, fun _ => by simp only; omega, h.gr⟩
      obtain ⟨a1, a2⟩ := hap
      rw [List.nodup_append] at a2
      obtain ⟨a2, a3, a4⟩ := a2
      rw [List.nodup_cons] at a3
      have hsL : s ∉ m.L := fun hx => a4 s hx s (by simp) rfl
      refine ⟨fun x hx => ?_, ?_⟩
      · rcases List.mem_append.1 hx with hx | hx
        · rcases List.mem_or_eq_of_mem_set hx with hx | rfl
          · exact a1 x (by simp [hx])
          · exact a1 x (by simp)
        · exact a1 x (by simp [hx])
      · rw [List.nodup_append]
        refine ⟨?_, a3.2, fun x hx y hy => ?_⟩
        · rw [List.nodup_iff_pairwise_ne] at a2 ⊢
          rw [List.pairwise_iff_getElem] at a2 ⊢
          intro i j hi hj hij
          simp only [List.length_set] at hi hj
          rw [List.getElem_set, List.getElem_set]
          split
          · split
            · omega
            · intro h; apply hsL; rw [h]; exact List.getElem_mem _
          · split
            · intro h; apply hsL; rw [← h]; exact List.getElem_mem _
            · exact a2 i j hi hj hij
        · rcases List.mem_or_eq_of_mem_set hx with hx | rfl
          · exact a4 x hx y (by simp [hy])
          · rintro rfl; exact a3.1 hy

end Go.Proofs.YtmdkkhnenciknaaI
