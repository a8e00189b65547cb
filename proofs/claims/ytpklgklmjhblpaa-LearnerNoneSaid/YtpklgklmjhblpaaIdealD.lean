/- What the model's own steps on memory do, where the cells are there; and operations that turn nothing, held against the ideal ones. -/
import Derived.Test.YtpklgklmjhblpaaIdealC
namespace Go.Proofs.YtpklgklmjhblpaaI
set_option linter.unusedSimpArgs false
set_option linter.unusedVariables false
open Go

theorem add_lit (b o n : Nat) : Addr.add ⟨b, o, none⟩ n = ⟨b, o + n, none⟩ := by
  unfold Addr.add; split <;> simp_all

theorem cell_lit {w : World} {b o : Nat} {arr : Array Value} {t : TypeId} {fr : Nat × Nat} (h : w.heap[b]? = some (.cells arr t fr)) : w.cell? ⟨b, o, none⟩ = arr[o]? := by
  simp [World.cell?, h]

theorem run_loadFrom (P : Program) {w : World} {b o : Nat} {arr : Array Value} {t : TypeId} {fr : Nat × Nat} (h : w.heap[b]? = some (.cells arr t fr)) :
    ∀ (n i : Nat) (acc : Array Value), o + i + n ≤ arr.size →
      (loadCellsFrom ⟨b, o, none⟩ i n acc).run P w = .ok (acc ++ ((arr.toList.drop (o + i)).take n).toArray) w
  | 0, i, acc, _ => by simp [loadCellsFrom]
  | n + 1, i, acc, hn => by
    have hlt : o + i < arr.size := by omega
    have hc : w.cell? ⟨b, o + i, none⟩ = some arr[o + i] := by rw [cell_lit h]; simp [hlt]
    have hd : arr.toList.drop (o + i) = arr[o + i] :: arr.toList.drop (o + (i + 1)) := by
      rw [List.drop_eq_getElem_cons (by simpa using hlt)]; simp [Nat.add_assoc]
    simp only [loadCellsFrom, Sem.run_bind, run_load, add_lit, hc, Result.andThen_ok]
    rw [run_loadFrom P h n (i + 1) _ (by omega), hd]
    simp

theorem run_loadCells (P : Program) {w : World} {b o n : Nat} {arr : Array Value} {t : TypeId} {fr : Nat × Nat} (h : w.heap[b]? = some (.cells arr t fr)) (hn : o + n ≤ arr.size) :
    (loadCells ⟨b, o, none⟩ n).run P w = .ok ((arr.toList.drop o).take n).toArray w := by
  unfold loadCells
  rw [run_loadFrom P h n 0 #[] (by omega)]
  simp

def World.setArr (w : World) (b : Nat) (arr : Array Value) (t : TypeId) (fr : Nat × Nat) : World := { w with heap := w.heap.setIfInBounds b (.cells arr t fr) }

theorem run_store1 (P : Program) {w : World} {b o : Nat} {v : Value} {arr : Array Value} {t : TypeId} {fr : Nat × Nat} (h : w.heap[b]? = some (.cells arr t fr)) (ho : o < arr.size)
    (hv : one1 v = true) (hf : ¬ (fr.1 ≤ o ∧ o < fr.2)) : (store ⟨b, o, none⟩ v).run P w = .ok () (World.setArr w b (arr.setIfInBounds o v) t fr) := by
  have hc : w.cell? ⟨b, o, none⟩ = some arr[o] := by rw [cell_lit h]; simp [ho]
  have hfz : w.frozen? ⟨b, o, none⟩ = false := by
    simp only [World.frozen?, h]
    cases fr with
    | mk lo hi => simp only [Bool.and_eq_false_iff, decide_eq_false_iff_not]; simp only [] at hf; omega
  have hs : w.setCell ⟨b, o, none⟩ v = World.setArr w b (arr.setIfInBounds o v) t fr := by
    unfold World.setCell World.setArr
    congr 1
    apply Array.ext_getElem?
    intro i
    by_cases hi : i = b
    · subst hi
      obtain ⟨hlt, hh⟩ := Array.getElem?_eq_some_iff.1 h
      simp [Array.getElem_modify, hh, hlt]
    · have hi' : b ≠ i := fun e => hi e.symm
      simp [Array.getElem?_modify, Array.getElem?_setIfInBounds_ne hi', hi']
  unfold store
  cases v <;> first | (simp [one1] at hv; done) | simp only [Sem.run, hc, hfz, hs, Bool.false_eq_true, if_false]

theorem setArr_get {w : World} {b : Nat} {arr : Array Value} {t : TypeId} {fr : Nat × Nat} (h : b < w.heap.size) : (World.setArr w b arr t fr).heap[b]? = some (.cells arr t fr) := by
  simp [World.setArr, h]
theorem setArr_setArr (w : World) (b : Nat) (arr arr' : Array Value) (t t' : TypeId) (fr fr' : Nat × Nat) :
    World.setArr (World.setArr w b arr t fr) b arr' t' fr' = World.setArr w b arr' t' fr' := by
  simp [World.setArr]
theorem setArr_same {w : World} {b : Nat} {arr : Array Value} {t : TypeId} {fr : Nat × Nat} (h : w.heap[b]? = some (.cells arr t fr)) : World.setArr w b arr t fr = w := by
  unfold World.setArr
  congr 1
  apply Array.ext_getElem?
  intro i
  by_cases hi : i = b
  · subst hi
    obtain ⟨hlt, hh⟩ := Array.getElem?_eq_some_iff.1 h
    simp [hlt, hh]
  · have hi' : b ≠ i := fun e => hi e.symm
    simp [Array.getElem?_setIfInBounds_ne hi']
theorem setArr_ne {w : World} {b k : Nat} {arr : Array Value} {t : TypeId} {fr : Nat × Nat} (h : b ≠ k) : (World.setArr w b arr t fr).heap[k]? = w.heap[k]? := by
  simp [World.setArr, Array.getElem?_setIfInBounds_ne h]

theorem run_storeFrom (P : Program) (b o : Nat) (t : TypeId) (fr : Nat × Nat) : ∀ (vs : List Value) (i : Nat) (w : World) (arr : Array Value), w.heap[b]? = some (.cells arr t fr) →
    o + i + vs.length ≤ arr.size → vs.all one1 = true → (∀ j, o + i ≤ j → j < o + i + vs.length → ¬ (fr.1 ≤ j ∧ j < fr.2)) →
      (storeCells ⟨b, o, none⟩ vs i).run P w = .ok () (World.setArr w b (putAt arr.toList (o + i) vs).toArray t fr)
  | [], i, w, arr, h, hn, _, _ => by
    simp only [storeCells, Sem.run_pure, putAt, List.length_nil, Nat.add_zero, List.append_nil, List.take_append_drop, Array.toArray_toList]
    rw [setArr_same h]
  | v :: vs, i, w, arr, h, hn, h1, hf => by
    simp only [List.all_cons, Bool.and_eq_true] at h1
    simp only [List.length_cons] at hn hf
    have hlt : o + i < arr.size := by omega
    have hb : b < w.heap.size := (Array.getElem?_eq_some_iff.1 h).1
    simp only [storeCells, Sem.run_bind, add_lit]
    rw [run_store1 P h hlt h1.1 (hf _ (Nat.le_refl _) (by omega))]
    simp only [Result.andThen_ok]
    rw [run_storeFrom P b o t fr vs (i + 1) _ (arr.setIfInBounds (o + i) v) (setArr_get hb) (by simpa using (by omega : o + (i + 1) + vs.length ≤ arr.size)) h1.2
      (fun j hj1 hj2 => hf j (by omega) (by omega)), setArr_setArr]
    congr 2
    apply congrArg
    simp only [putAt, Array.toList_setIfInBounds, List.length_cons]
    have e1 : (arr.toList.set (o + i) v).take (o + (i + 1)) = arr.toList.take (o + i) ++ [v] := by
      rw [show o + (i + 1) = (o + i) + 1 by omega, List.take_add_one]
      simp [List.take_set, hlt]
      rw [List.set_eq_of_length_le (by simp; omega)]
    have e2 : (arr.toList.set (o + i) v).drop (o + (i + 1) + vs.length) = arr.toList.drop (o + i + (vs.length + 1)) := by
      rw [List.drop_set]
      rw [if_pos (by omega)]
      congr 1; omega
    rw [e1, e2]
    simp

theorem run_storeCells (P : Program) {b o : Nat} {t : TypeId} {fr : Nat × Nat} {vs : List Value} {w : World} {arr : Array Value} (h : w.heap[b]? = some (.cells arr t fr))
    (hn : o + vs.length ≤ arr.size) (h1 : vs.all one1 = true) (hf : ∀ j, o ≤ j → j < o + vs.length → ¬ (fr.1 ≤ j ∧ j < fr.2)) :
    (storeCells ⟨b, o, none⟩ vs).run P w = .ok () (World.setArr w b (putAt arr.toList o vs).toArray t fr) := by
  have := run_storeFrom P b o t fr vs 0 w arr h (by omega) h1 (fun j a c => hf j (by omega) (by omega))
  simpa using this

theorem pureRun_run {α : Type} {P : Program} {s : Sem α} {a : α} (h : pureRun P s = some a) (w : World) : s.run P w = .ok a w := by
  induction s with
  | pure b => simp [pureRun] at h; simp [Sem.run, h]
  | program k ih => simp only [pureRun] at h; simp only [Sem.run]; exact ih _ h
  | mark m k ih => simp only [pureRun] at h; simp only [Sem.run]; exact ih h
  | _ => simp [pureRun] at h

theorem run_getMap (P : Program) {w : World} {r cl : Nat} {es : Array MapEntry} (h : w.heap[r]? = some (.map es cl)) : (getObj r).run P w = .ok (.map es cl) w := by
  simp [getObj, Sem.run, h]

/-! ### Types, looked up -/
theorem run_under {P : Program} {t : TypeId} {d : TypeDesc} (h : P.underlying t = some d) (w : World) : (underlying t).run P w = .ok d w := by
  simp [underlying, h]
theorem run_typeInfo {P : Program} {t : TypeId} {i : TypeInfo} (h : P.info? t = some i) (w : World) : (typeInfo t).run P w = .ok i w := by
  simp [typeInfo, h]
theorem run_sizeT {P : Program} {t : TypeId} {n : Nat} (h : sizeT P t = some n) (w : World) : (sizeOf t).run P w = .ok n w := by
  unfold sizeT at h
  cases hi : P.info? t with
  | none => simp [hi] at h
  | some i => simp [hi] at h; simp [sizeOf, run_typeInfo hi, h]
theorem run_zeroT {P : Program} {t : TypeId} {z : Value} (h : zeroT P t = some z) (w : World) : (zeroValue t).run P w = .ok z w ∧ groundV z = true := by
  unfold zeroT at h
  cases hi : P.info? t with
  | none => simp [hi] at h
  | some i =>
    cases hz : i.zero with
    | none => simp [hi, hz] at h
    | some z' =>
      simp [hi, hz] at h
      obtain ⟨hg, rfl⟩ := h
      exact ⟨by simp [zeroValue, run_typeInfo hi, hz], hg⟩
theorem run_aggT {P : Program} {t : TypeId} {b : Bool} (h : aggT P t = some b) (w : World) : (isAgg t).run P w = .ok b w := by
  unfold aggT at h
  cases hu : P.underlying t with
  | none => simp [hu] at h
  | some d => cases d <;> simp [hu] at h <;> subst h <;> simp [isAgg, run_under hu]

theorem run_loadVarN {P : Program} {t : TypeId} {n : Nat} (ha : aggT P t = some true) (hs : sizeT P t = some n) {w : World} {b o : Nat} {arr : Array Value} {e : TypeId} {fr : Nat × Nat}
    (h : w.heap[b]? = some (.cells arr e fr)) (hn : o + n ≤ arr.size) : (loadVar t ⟨b, o, none⟩).run P w = .ok (.agg ((arr.toList.drop o).take n).toArray) w := by
  simp [loadVar, run_aggT ha, run_sizeT hs, run_loadCells P h hn]
theorem run_loadVar1 {P : Program} {t : TypeId} (ha : aggT P t = some false) {w : World} {b o : Nat} {arr : Array Value} {e : TypeId} {fr : Nat × Nat} {v : Value}
    (h : w.heap[b]? = some (.cells arr e fr)) (hv : arr[o]? = some v) : (loadVar t ⟨b, o, none⟩).run P w = .ok v w := by
  simp [loadVar, run_aggT ha, cell_lit h, hv]

/-! ### Reading, from ideal to real -/
theorem Sim.loadL {R : Ren} {H : IHeap} {w : World} (hS : Sim R H w) {b o n : Nat} {l : List Value} (hb : R.dom b) (h : H.loadL b o n = some l) :
    ∃ arr t fr, w.heap[R.blk b]? = some (.cells arr t fr) ∧ R.base b + o + n ≤ arr.size ∧ VRs R l ((arr.toList.drop (R.base b + o)).take n) := by
  unfold IHeap.loadL at h
  have ho := hS.obj b hb
  cases hg : H.get b with
  | none => simp [hg] at h
  | some x =>
    cases x with
    | cells cs ro =>
      rw [hg] at ho
      obtain ⟨h1, h2, arr, t, fr, hw, hsz, hv, _⟩ := ho
      simp only [hg] at h
      split at h
      · rename_i hle
        injection h with h
        subst h
        refine ⟨arr, t, fr, hw, by omega, ?_⟩
        have := (hv.drop o).take n
        rw [List.drop_take, List.take_take, List.drop_drop] at this
        rw [show min n (cs.length - o) = n by omega] at this
        exact this
      · cases h
    | _ => simp [hg] at h

theorem Sim.load1 {R : Ren} {H : IHeap} {w : World} (hS : Sim R H w) {b o : Nat} {v : Value} (hb : R.dom b) (h : H.load1 b o = some v) :
    ∃ arr t fr v', w.heap[R.blk b]? = some (.cells arr t fr) ∧ arr[R.base b + o]? = some v' ∧ VR R v v' := by
  unfold IHeap.load1 at h
  have ho := hS.obj b hb
  cases hg : H.get b with
  | none => simp [hg] at h
  | some x =>
    cases x with
    | cells cs ro =>
      rw [hg] at ho
      obtain ⟨h1, h2, arr, t, fr, hw, hsz, hv, _⟩ := ho
      simp only [hg] at h
      obtain ⟨v', hv', hr⟩ := hv.get o v h
      refine ⟨arr, t, fr, v', hw, ?_, hr⟩
      have hlt : o < cs.length := (List.getElem?_eq_some_iff.1 h).1
      rw [List.getElem?_take, if_pos hlt, List.getElem?_drop] at hv'
      simpa using hv'
    | _ => simp [hg] at h

theorem fill_rel {R : Ren} {place : Nat → Option (Nat × Nat)} {T : Env} {a : Act} {n : Nat} (hT : TRel n R T a.tmps) : ∀ (parts : List (Nat × Operand)) (ps : List ((Nat × Nat) × Operand)) (cs l : List Value) (cs' : Array Value),
    partsT place parts = some ps → (∀ x ∈ parts, okO x.2 = true) → VRs R cs cs'.toList → fillL cs (ps.map fun p => (p.1, ev T p.2)) = some l →
      ∃ l', Instr.fill place cs' (parts.map fun p => (p.1, a.eval p.2)) = some l' ∧ VRs R l l'.toList
  | [], ps, cs, l, cs', hp, _, hc, hf => by
    simp only [partsT, Option.some.injEq] at hp
    subst hp
    simp only [List.map_nil, fillL, Option.some.injEq] at hf
    subst hf
    exact ⟨cs', rfl, hc⟩
  | (i, x) :: r, ps, cs, l, cs', hp, hok, hc, hf => by
    simp only [partsT, bind, Option.bind, pure] at hp
    cases hpl : place i with
    | none => simp [hpl] at hp
    | some p =>
      obtain ⟨off, size⟩ := p
      cases hr : partsT place r with
      | none => simp [hpl, hr] at hp
      | some rs =>
        simp only [hpl, hr, Option.some.injEq] at hp
        subst hp
        simp only [List.map_cons, fillL] at hf
        have hx : VR R (ev T x) (a.eval x) := ev_rel hT (hok (i, x) (by simp))
        have hxc := hx.cells
        have hsz : (a.eval x).cells.size = (ev T x).cells.size := by have := hxc.length; simpa using this.symm
        split at hf
        · rename_i hcond
          obtain ⟨hc1, hc2⟩ := hcond
          have hlen : cs.length = cs'.size := by have := hc.length; simpa using this
          simp only [List.map_cons, Instr.fill, hpl]
          rw [if_neg (by rw [hsz, hc1]; simp; omega)]
          refine fill_rel hT r rs _ l _ hr (fun y hy => hok y (by simp [hy])) ?_ hf
          have hput := VRs.putAt hc hxc off
          have : (Array.foldl (fun (cs : Array Value) (x : Value × Nat) => cs.setIfInBounds (off + x.2) x.1) cs' (a.eval x).cells.zipIdx).toList = putAt cs'.toList off (a.eval x).cells.toList := by
            have key : ∀ (vs : List Value) (k : Nat) (arr : Array Value), off + k + vs.length ≤ arr.size →
                (List.foldl (fun (cs : Array Value) (x : Value × Nat) => cs.setIfInBounds (off + x.2) x.1) arr (vs.zipIdx k)).toList = putAt arr.toList (off + k) vs := by
              intro vs
              induction vs with
              | nil => intro k arr _; simp [putAt]
              | cons v vs ih =>
                intro k arr hk
                simp only [List.length_cons] at hk
                simp only [List.zipIdx_cons, List.foldl_cons]
                rw [ih (k + 1) _ (by simp; omega)]
                have hlt : off + k < arr.size := by omega
                simp only [putAt, Array.toList_setIfInBounds, List.length_cons]
                have e1 : (arr.toList.set (off + k) v).take (off + (k + 1)) = arr.toList.take (off + k) ++ [v] := by
                  rw [show off + (k + 1) = (off + k) + 1 by omega, List.take_add_one]
                  simp [List.take_set, hlt]
                  rw [List.set_eq_of_length_le (by simp; omega)]
                have e2 : (arr.toList.set (off + k) v).drop (off + (k + 1) + vs.length) = arr.toList.drop (off + k + (vs.length + 1)) := by
                  rw [List.drop_set, if_pos (by omega)]
                  congr 1; omega
                rw [e1, e2]; simp
            have hk := key (a.eval x).cells.toList 0 cs' (by simp; omega)
            rw [← Array.foldl_toList]
            simpa [Array.toList_zipIdx] using hk
          rw [this]
          exact hput
        · cases hf

end Go.Proofs.YtpklgklmjhblpaaI
