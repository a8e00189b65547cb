/- Stripes that are known: what a deed keeps; bytes and back. Plain laws. -/
import Derived.Test.YtmdkkhnenciknaaSmT
namespace Go.Proofs.YtmdkkhnenciknaaI
set_option linter.unusedSimpArgs false
set_option linter.unusedVariables false
open Go

theorem opn_map (f : St → St) (h : ∀ x, isOpen (f x) = true → isOpen x = true) : ∀ L : List St, opn (L.map f) ≤ opn L
  | [] => Nat.le_refl _
  | x :: L => by
    have ih := opn_map f h L
    unfold opn at ih ⊢
    simp only [List.map_cons, List.countP_cons]
    have := h x
    by_cases h1 : isOpen (f x) = true
    · rw [if_pos h1, if_pos (this h1)]; omega
    · rw [if_neg h1]; split <;> omega
theorem opn_set_le {L : List St} {i : Nat} {x y : St} (hx : L[i]? = some x) (h : isOpen y = true → isOpen x = true) : opn (L.set i y) ≤ opn L := by
  have := opn_set (y := y) hx
  by_cases h1 : isOpen y = true
  · rw [if_pos h1, if_pos (h h1)] at this; omega
  · rw [if_neg h1] at this; split at this <;> omega
theorem opn_deed {L : List St} (h : opn L ≤ 256) (d : DS) : opn (deedS L d) ≤ 256 := by
  unfold deedS
  split
  · unfold SBegin
    split
    · exact h
    · split
      · exact h
      · have : opn (L ++ [⟨1, d.a, d.b, d.c, d.sv⟩]) = opn L + 1 := by unfold opn; rw [List.countP_append]; rfl
        simp only [this]; omega
  · split
    · unfold SCommit
      cases hg : getS L d.a with
      | none => exact h
      | some x =>
        simp only
        split
        · exact h
        · rename_i h1
          refine Nat.le_trans (opn_set_le (getS_some hg).2.2 fun _ => ?_) h
          have : x.st = 1 := Classical.byContradiction fun hn => h1 (.inl hn)
          simp [isOpen, this]
    · split
      · unfold SFree
        cases hg : getS L d.a with
        | none => exact h
        | some x =>
          simp only
          split
          · exact h
          · exact Nat.le_trans (opn_set_le (getS_some hg).2.2 fun hh => by simp [isOpen] at hh) h
      · split
        · refine Nat.le_trans (opn_map _ (fun x hh => ?_) L) h
          split at hh
          · simp [isOpen] at hh
          · exact hh
        · split
          · unfold SMove
            cases hg : getS L d.a with
            | none =>
              simp only
              split
              · exact h
              · exact h
            | some x =>
              simp only
              split
              · exact h
              · split
                · exact h
                · split
                  · exact h
                  · exact Nat.le_trans (opn_set_le (getS_some hg).2.2 fun hh => hh) h
          · exact h

theorem rise_set {L : List St} {i : Nat} {y : St} (h : ∀ x, L[i]? = some x → x.st ≤ y.st) {j : Nat} {x : St} (hx : L[j]? = some x) : ∃ z, (L.set i y)[j]? = some z ∧ x.st ≤ z.st := by
  rw [List.getElem?_set]
  by_cases hij : i = j
  · subst hij
    rw [if_pos rfl, if_pos (List.getElem?_eq_some_iff.1 hx).1]
    exact ⟨y, rfl, h x hx⟩
  · rw [if_neg hij]
    exact ⟨x, hx, Int.le_refl _⟩
/-- A stripe's state rises. -/
theorem rise_deed {L : List St} (hok : ∀ x ∈ L, x.ok) (d : DS) {j : Nat} {x : St} (hx : L[j]? = some x) : ∃ z, (deedS L d)[j]? = some z ∧ x.st ≤ z.st := by
  have same : ∃ z, L[j]? = some z ∧ x.st ≤ z.st := ⟨x, hx, Int.le_refl _⟩
  have hxo := hok x (List.mem_of_getElem? hx)
  unfold deedS
  split
  · unfold SBegin
    split
    · exact same
    · split
      · exact same
      · exact ⟨x, by simp only; rw [List.getElem?_append_left (List.getElem?_eq_some_iff.1 hx).1]; exact hx, Int.le_refl _⟩
  · split
    · unfold SCommit
      cases hg : getS L d.a with
      | none => exact same
      | some y =>
        simp only
        split
        · exact same
        · rename_i h1
          refine rise_set (fun z hz => ?_) hx
          have hy := (getS_some hg).2.2
          rw [hy] at hz
          injection hz with hz
          subst hz
          have : y.st = 1 := Classical.byContradiction fun hn => h1 (.inl hn)
          simp only; omega
    · split
      · unfold SFree
        cases hg : getS L d.a with
        | none => exact same
        | some y =>
          simp only
          split
          · exact same
          · refine rise_set (fun z hz => ?_) hx
            exact (hok z (List.mem_of_getElem? hz)).s3
      · split
        · unfold SDrop
          simp only [List.getElem?_map, hx, Option.map_some]
          split
          · exact ⟨_, rfl, hxo.s3⟩
          · exact ⟨_, rfl, Int.le_refl _⟩
        · split
          · unfold SMove
            cases hg : getS L d.a with
            | none =>
              simp only
              split
              · exact same
              · exact same
            | some y =>
              simp only
              split
              · exact same
              · split
                · exact same
                · split
                  · exact same
                  · refine rise_set (fun z hz => ?_) hx
                    have hy := (getS_some hg).2.2
                    rw [hy] at hz
                    injection hz with hz
                    subst hz
                    exact Int.le_refl _
          · exact same
theorem len_deed {L : List St} (hok : ∀ x ∈ L, x.ok) (d : DS) : L.length ≤ (deedS L d).length := by
  refine Classical.byContradiction fun hn => ?_
  have hx : L[(deedS L d).length]? = some (L[(deedS L d).length]'(by omega)) := List.getElem?_eq_getElem _
  obtain ⟨z, hz, _⟩ := rise_deed hok d hx
  have := (List.getElem?_eq_some_iff.1 hz).1
  omega

/-! ### bytes and back -/
theorem takeByte_inv {r : Rd} {s' : List UInt8} {n : Int} (h : takeByte r = (some s', n)) : ∃ b : UInt8, r = some (b :: s') ∧ n = b.toNat := by
  match r, h with
  | none, h => simp [takeByte] at h
  | some [], h => simp [takeByte] at h
  | some (b :: s), h =>
    simp only [takeByte, Prod.mk.injEq, Option.some.injEq] at h
    obtain ⟨rfl, rfl⟩ := h
    exact ⟨b, rfl, rfl⟩
theorem takeInt_none' : takeInt none = (none, 0) := rfl
theorem fst_of {α β : Type} {p : α × β} {a : α} (h : p.1 = a) : p = (a, p.2) := by rw [← h]
theorem stB_nat (b : UInt8) : UInt8.ofNat (((b.toNat : Nat) : Int) % 256).toNat = b := by
  have : b.toNat < 256 := b.toNat_lt
  have e : (((b.toNat : Nat) : Int) % 256).toNat = b.toNat := by omega
  rw [e]; simp
theorem one_inv {r : Rd} {s' : List UInt8} (h : (sE r).1 = some s') : r = some (encSt (stR r) ++ s') := by
  have h5 := fst_of h
  obtain ⟨e5, _⟩ := takeList_inv (f := encI) (p := okI) ints_inv (show takeList takeInt (sD r).1 = _ from h5)
  have h4 := fst_of e5
  have e4 := takeInt_inv (show takeInt (sC r).1 = _ from h4)
  have h3 := fst_of e4
  have e3 := takeInt_inv (show takeInt (sB r).1 = _ from h3)
  have h2 := fst_of e3
  have e2 := takeInt_inv (show takeInt (sA r).1 = _ from h2)
  have h1 := fst_of e2
  obtain ⟨b, e1, hb⟩ := takeByte_inv (show takeByte r = _ from h1)
  have e : encSt (stR r) ++ s' = b :: (encI (sB r).2 ++ (encI (sC r).2 ++ (encI (sD r).2 ++ (encI (sE r).2.length ++ ((sE r).2.map encI).flatten ++ s')))) := by
    simp only [encSt, stB, stR, encInts, hb, stB_nat, List.cons_append, List.append_assoc]
  rw [e]
  exact e1
theorem rdL_inv : ∀ (k : Nat) (acc L : List St) (r : Rd) (s' : List UInt8), rdL k acc r = some (some s', L) → ∃ M, L = acc ++ M ∧ M.length = k ∧ r = some ((M.map encSt).flatten ++ s')
  | 0, acc, L, r, s', h => by
    simp only [rdL, Option.some.injEq, Prod.mk.injEq] at h
    exact ⟨[], by simp [h.2], rfl, by simp [h.1]⟩
  | k + 1, acc, L, r, s', h => by
    rw [rdL] at h
    split at h
    · obtain ⟨M, e1, e2, e3⟩ := rdL_inv k _ L _ s' h
      refine ⟨stR r :: M, by rw [e1]; simp, by simp [e2], ?_⟩
      rw [List.map_cons, List.flatten_cons, List.append_assoc]
      exact one_inv e3
    · cases h
theorem rdE_zero {r : Rd} (h : rdE r = 0) : r = some [] := by
  unfold rdE at h
  split at h
  · assumption
  · simp at h
theorem readS_inv {s : List UInt8} {L : List St} (h : readS s = some L) : encS L = s := by
  unfold readS at h
  split at h
  · cases h
  · rename_i hn
    split at h
    · cases h
    · rename_i r' L' hr
      split at h
      · rename_i hc
        injection h with h
        subst h
        rw [rdE_zero hc.1] at hr
        obtain ⟨M, e1, e2, e3⟩ := rdL_inv _ _ _ _ _ hr
        rw [List.nil_append] at e1
        subst e1
        have := takeInt_inv (fst_of e3)
        injection this with this
        rw [this, List.append_nil]
        have e : (L'.length : Int) = (takeInt (some s)).2 := by omega
        rw [encS, e]
      · cases h
theorem one_lay {x : St} (h : x.ok) (t : List UInt8) : stR (some (encSt x ++ t)) = x ∧ (sE (some (encSt x ++ t))).1 = some t := by
  have hm := St.may_iff.1 h.may
  have h1 := h.s1
  have h3 := h.s3
  have hep := h.ep
  have hsv : ∀ n ∈ x.sv, okI n := fun n hn => by have := hm.2.2.2.2.2.2.2.1 n hn; unfold okI; omega
  have e : encSt x ++ t = stB x :: (encI x.ow ++ (encI x.ep ++ (encI x.le ++ (encI x.sv.length ++ (x.sv.map encI).flatten ++ t)))) := by
    simp only [encSt, encInts, List.cons_append, List.append_assoc]
  rw [e]
  have a : sA (some (stB x :: (encI x.ow ++ (encI x.ep ++ (encI x.le ++ (encI x.sv.length ++ (x.sv.map encI).flatten ++ t)))))) = (some (encI x.ow ++ (encI x.ep ++ (encI x.le ++ (encI x.sv.length ++ (x.sv.map encI).flatten ++ t)))), x.st) := by
    simp only [sA, takeByte, Prod.mk.injEq, true_and]
    have : x.st = 1 ∨ x.st = 2 ∨ x.st = 3 := by omega
    unfold stB
    rcases this with h | h | h <;> rw [h] <;> decide
  obtain ⟨r, hr⟩ : ∃ r : Rd, r = some (stB x :: (encI x.ow ++ (encI x.ep ++ (encI x.le ++ (encI x.sv.length ++ (x.sv.map encI).flatten ++ t))))) := ⟨_, rfl⟩
  rw [← hr] at a ⊢
  have b : sB r = (some (encI x.ep ++ (encI x.le ++ (encI x.sv.length ++ (x.sv.map encI).flatten ++ t))), x.ow) := by
    rw [sB, a]; exact takeInt_lay (by omega) (by omega) _
  have c : sC r = (some (encI x.le ++ (encI x.sv.length ++ (x.sv.map encI).flatten ++ t)), x.ep) := by
    rw [sC, b]; exact takeInt_lay (by omega) (by omega) _
  have d : sD r = (some (encI x.sv.length ++ (x.sv.map encI).flatten ++ t), x.le) := by
    rw [sD, c]; exact takeInt_lay (by omega) (by omega) _
  have f : sE r = (some t, x.sv) := by
    rw [sE, d]; exact takeList_lay (p := okI) ints_lay encI_ne (by omega) hsv t
  exact ⟨by rw [stR, a, b, c, d, f], by rw [f]⟩
theorem rdL_lay : ∀ (M acc : List St) (t : List UInt8), (∀ x ∈ M, x.ok) → rdL M.length acc (some ((M.map encSt).flatten ++ t)) = some (some t, acc ++ M)
  | [], acc, t, _ => by simp [rdL]
  | x :: M, acc, t, h => by
    have hx := h x (by simp)
    rw [List.length_cons, rdL, List.map_cons, List.flatten_cons, List.append_assoc]
    obtain ⟨e1, e2⟩ := one_lay hx ((M.map encSt).flatten ++ t)
    have ho : okR (some (encSt x ++ ((M.map encSt).flatten ++ t))) = true := by
      unfold okR
      rw [show (sA (some (encSt x ++ ((M.map encSt).flatten ++ t)))).2 = x.st from by rw [← congrArg St.st e1]; rfl, e1]
      simp [hx.may, hx.s1, hx.s3]
    rw [if_pos ho, e1, e2, rdL_lay M _ t fun y hy => h y (by simp [hy])]
    simp
theorem readS_enc {L : List St} (h : ∀ x ∈ L, x.ok) (hl : L.length ≤ 4096) (ho : opn L ≤ 256) : readS (encS L) = some L := by
  have e : takeInt (some (encS L)) = (some ((L.map encSt).flatten ++ []), (L.length : Int)) := by
    rw [encS, List.append_nil]
    exact takeInt_lay (by omega) (by omega) _
  unfold readS
  rw [e]
  simp only
  rw [if_neg (by omega), Int.toNat_natCast, rdL_lay L [] [] h]
  simp only [List.nil_append]
  rw [if_pos ⟨by simp [rdE], ho⟩]
theorem encS_len {L : List St} (h : ∀ x ∈ L, x.ok) (hl : L.length ≤ 4096) : (encS L).length ≤ 1000000 := by
  have h1 := encL_len h
  have h2 := encI_len (n := (L.length : Int)) (by omega) (by omega)
  rw [encS, List.length_append]; omega
end Go.Proofs.YtmdkkhnenciknaaI
