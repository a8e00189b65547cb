/- Operations that turn the heap. -/
import Derived.Test.YtpklgklmjhblpaaIdealH
namespace Go.Proofs.YtpklgklmjhblpaaI
set_option linter.unusedSimpArgs false
set_option linter.unusedVariables false
open Go

theorem putAt_window {L vs : List Value} {base o m : Nat} (h1 : o + vs.length ≤ m) (h2 : base + m ≤ L.length) :
    ((putAt L (base + o) vs).drop base).take m = putAt ((L.drop base).take m) o vs := by
  apply List.ext_getElem?
  intro i
  unfold putAt
  simp only [List.getElem?_take, List.getElem?_drop, List.getElem?_append, List.length_append, List.length_take, List.length_drop]
  by_cases hi : i < m
  · by_cases h3 : i < o
    · simp only [hi, if_true]
      rw [if_pos (by omega), if_pos (by omega), if_pos (by omega), if_pos (by omega), if_pos (by omega), if_pos (by omega)]
    · by_cases h4 : i < o + vs.length
      · simp only [hi, if_true]
        rw [if_pos (by omega), if_neg (by omega), if_pos (by omega), if_neg (by omega)]
        congr 1; omega
      · simp only [hi, if_true]
        rw [if_neg (by omega), if_neg (by omega), if_pos (by omega)]
        congr 1; omega
  · rw [if_neg hi]
    by_cases h3 : i < o
    · omega
    · by_cases h4 : i < o + vs.length
      · omega
      · rw [if_neg (by omega), if_neg (by omega)]

theorem putAt_length {L vs : List Value} {o : Nat} (h : o + vs.length ≤ L.length) : (putAt L o vs).length = L.length := by
  unfold putAt; simp; omega

/-- One thing turned, none come. -/
structure WAt (w w' : World) (k : Nat) : Prop where
  size : w'.heap.size = w.heap.size
  old : ∀ j, j ≠ k → w'.heap[j]? = w.heap[j]?
  os : w'.os = w.os
  tape : w'.tape = w.tape
  output : w'.output = w.output

theorem setArr_at (w : World) (b : Nat) (arr : Array Value) (t : TypeId) (fr : Nat × Nat) : WAt w (World.setArr w b arr t fr) b :=
  ⟨by simp [World.setArr], fun j hj => setArr_ne (fun e => hj e.symm), rfl, rfl, rfl⟩

section
variable {P : Program} {n : Nat} {R : Ren} {H : IHeap} {w : World} {T : Env} {a : Act}

/-- An id's thing is another one. -/
theorem sim_set {w' : World} {b : Nat} {o x : IObj} (hS : Sim R H w) (hb : R.dom b) (hg : H.get b = some o) (hlo : live H b) (hrw : liveRW H b) (hw : WAt w w' (R.blk b)) (hx : ObjRel R (some x) b w') (hlx : x ≠ .dead) :
    Sim R (H.set b x) w' ∧ Ext R H w R (H.set b x) w' := by
  have hget : ∀ c, (H.set b x).get c = if c = b then some x else H.get c := fun c => rfl
  have hlive : ∀ c, live (H.set b x) c → live H c := fun c hc => by
    unfold live at hc ⊢
    rw [hget] at hc
    by_cases h : c = b
    · subst h; exact hlo
    · rw [if_neg h] at hc; exact hc
  have hliveRW : ∀ c, liveRW (H.set b x) c → liveRW H c := fun c hc => by
    unfold liveRW at hc ⊢
    rw [hget] at hc
    by_cases h : c = b
    · subst h; exact hrw
    · rw [if_neg h] at hc; exact hc
  constructor
  · refine ⟨hS.lt, fun c hc => ?_, fun c d hc hd hlc hld hor he => hS.inj c d hc hd (hlive c hlc) (hlive d hld) (hor.imp (hliveRW c) (hliveRW d)) he, fun c hc => by rw [hget, if_neg (fun e : c = b => by have := hS.lt b hb; have hc' : H.next ≤ c := hc; omega)]; exact hS.wf c hc⟩
    rw [hget]
    by_cases h : c = b
    · subst h; simpa using hx
    · rw [if_neg h]
      have ho := hS.obj c hc
      cases hgc : H.get c with
      | none => rw [hgc] at ho; exact ho.elim
      | some ob =>
        by_cases hd : ob = .dead
        · subst hd; trivial
        · rw [← hgc]
          have hl : live H c := by unfold live; rw [hgc]; cases ob <;> first | trivial | exact absurd rfl hd
          refine ho.move R.le_refl hc fun y hy => ?_
          rw [hw.old _ (fun e => h (hS.inj c b hc hb hl hlo (.inr hrw) e))]
          exact hy
  · refine ⟨R.le_refl, Nat.le_refl _, fun c hc => .inl hc, fun c _ hn => ?_, fun c cs hgc _ => ?_, fun k _ hk => hw.old k fun e => hk b hb hrw e.symm, fun c hc hl => ?_, by rw [hw.size]; exact Nat.le_refl _, hw.os, hw.tape, hw.output⟩
    · rw [hget, if_neg (fun e : c = b => hn (e ▸ hb))]
    · rw [hget]
      by_cases h : c = b
      · subst h; exfalso; unfold liveRW at hrw; rw [hgc] at hrw; exact hrw
      · rw [if_neg h]; exact hgc
    · refine .inr ⟨c, hc, ?_, rfl⟩
      unfold liveRW at hl ⊢
      rw [hget] at hl
      by_cases h : c = b
      · subst h; exact hrw
      · rw [if_neg h] at hl; exact hl

theorem Sim.storeL {H' : IHeap} {b o : Nat} {vs vs' : List Value} (hS : Sim R H w) (hb : R.dom b) (h : H.storeL b o vs = some H') (hv : VRs R vs vs') (P : Program) :
    ∃ w', (storeCells ⟨R.blk b, R.base b + o, none⟩ vs').run P w = .ok () w' ∧ Sim R H' w' ∧ Ext R H w R H' w' := by
  unfold IHeap.storeL at h
  split at h
  · rename_i cs hg
    split at h
    · rename_i hcond
      injection h with h
      subst h
      have ho := hS.obj b hb
      rw [hg] at ho
      obtain ⟨h1, h2, arr, t, fr, h3, h4, h5, h6⟩ := ho
      have hlen := hv.length
      have hrun := run_storeCells P (b := R.blk b) (o := R.base b + o) (vs := vs') h3 (by omega) (by rw [hv.one]; exact hcond.2) (fun j hj1 hj2 => h6 rfl j (by omega) (by omega))
      refine ⟨_, hrun, sim_set hS hb hg (by unfold live; rw [hg]; trivial) (by unfold liveRW; rw [hg]; trivial) (setArr_at _ _ _ _ _) ?_ (by simp)⟩
      have hblk : R.blk b < w.heap.size := (Array.getElem?_eq_some_iff.1 h3).1
      have hl1 : (putAt cs o vs).length = cs.length := putAt_length hcond.1
      have hl2 : (putAt arr.toList (R.base b + o) vs').length = arr.toList.length := putAt_length (by simp; omega)
      refine ⟨by rw [hl1]; exact h1, by rw [hl1]; exact h2, _, t, fr, setArr_get hblk, by simpa [hl2] using h4, ?_, fun hr j hj1 hj2 => h6 hr j hj1 hj2⟩
      rw [hl1]
      simp only []
      rw [putAt_window (by rw [← hlen]; exact hcond.1) (by simp; omega)]
      exact VRs.putAt h5 hv o
    · cases h
  · cases h

/-- What is made beyond the renaming is not seen. -/
theorem Sim.alloc_far (hS : Sim R H w) (o : IObj) : Sim R (H.alloc o) w := by
  have hget : ∀ c, R.dom c → (H.alloc o).get c = H.get c := fun c hc => by
    have := hS.lt c hc
    show (if c = H.next then some o else H.get c) = _
    rw [if_neg (by omega)]
  refine ⟨fun b hb => Nat.lt_succ_of_lt (hS.lt b hb), fun b hb => by rw [hget b hb]; exact hS.obj b hb, fun b c hb hc hlb hlc hor he => hS.inj b c hb hc ?_ ?_ (hor.imp (fun h => by unfold liveRW at h ⊢; rw [hget b hb] at h; exact h) (fun h => by unfold liveRW at h ⊢; rw [hget c hc] at h; exact h)) he, fun c hc => by
    have hc' : H.next + 1 ≤ c := hc
    show (if c = H.next then some o else H.get c) = _
    rw [if_neg (by omega)]; exact hS.wf c (by omega)⟩
  · unfold live at hlb ⊢; rw [hget b hb] at hlb; exact hlb
  · unfold live at hlc ⊢; rw [hget c hc] at hlc; exact hlc

theorem alloc_get (H : IHeap) (o : IObj) : (H.alloc o).get H.next = some o := by simp [IHeap.alloc]
theorem alloc_get_lt (H : IHeap) (o : IObj) {c : Nat} (hc : c < H.next) : (H.alloc o).get c = H.get c := by
  show (if c = H.next then some o else H.get c) = _
  rw [if_neg (by omega)]

/-- A new thing, at the next id. -/
theorem ext_new {w' : World} {o : IObj} {R' : Ren} (hS : Sim R H w) (hle : R.le R') (hdom : ∀ b, R'.dom b ↔ (R.dom b ∨ b = H.next)) (hblk : R'.blk H.next = w.heap.size) (hw : WOne w w') :
    Ext R H w R' (H.alloc o) w' := by
  refine ⟨hle, Nat.le_succ _, fun b hb => ?_, fun b hb _ => alloc_get_lt H o hb, fun b cs hg hb => by rw [alloc_get_lt H o hb]; exact hg, fun k hk _ => hw.old k hk, fun b hb hl => ?_, by rw [hw.size]; omega, hw.os, hw.tape, hw.output⟩
  · rcases (hdom b).1 hb with h | h
    · exact .inl h
    · exact .inr (by omega)
  · rcases (hdom b).1 hb with h | h
    · refine .inr ⟨b, h, ?_, (hle.blk b h).symm⟩
      unfold liveRW at hl ⊢
      rw [alloc_get_lt H o (hS.lt b h)] at hl
      exact hl
    · subst h; exact .inl (by omega)

/-- A thing that nobody reads any more. -/
theorem sim_kill {b : Nat} {cs : List Value} (hS : Sim R H w) (hb : R.dom b) (hg : H.get b = some (.cells cs false)) : Sim R (H.set b .dead) w ∧ Ext R H w R (H.set b .dead) w := by
  have hget : ∀ c, (H.set b .dead).get c = if c = b then some .dead else H.get c := fun c => rfl
  have hlive : ∀ c, live (H.set b .dead) c → live H c ∧ c ≠ b := fun c hc => by
    unfold live at hc ⊢
    rw [hget] at hc
    by_cases h : c = b
    · rw [if_pos h] at hc; exact hc.elim
    · rw [if_neg h] at hc; exact ⟨hc, h⟩
  have hliveRW : ∀ c, liveRW (H.set b .dead) c → liveRW H c := fun c hc => by
    unfold liveRW at hc ⊢
    rw [hget] at hc
    by_cases h : c = b
    · rw [if_pos h] at hc; exact hc.elim
    · rw [if_neg h] at hc; exact hc
  constructor
  · refine ⟨hS.lt, fun c hc => ?_, fun c d hc hd hlc hld hor he => hS.inj c d hc hd (hlive c hlc).1 (hlive d hld).1 (hor.imp (hliveRW c) (hliveRW d)) he, fun c hc => by rw [hget, if_neg (fun e : c = b => by have := hS.lt b hb; have hc' : H.next ≤ c := hc; omega)]; exact hS.wf c hc⟩
    rw [hget]
    by_cases h : c = b
    · rw [if_pos h]; trivial
    · rw [if_neg h]; exact hS.obj c hc
  · refine ⟨R.le_refl, Nat.le_refl _, fun c hc => .inl hc, fun c _ hn => ?_, fun c cs' hgc _ => ?_, fun k _ hk => rfl, fun c hc hl => ?_, Nat.le_refl _, rfl, rfl, rfl⟩
    · rw [hget, if_neg (fun e : c = b => hn (e ▸ hb))]
    · rw [hget]
      by_cases h : c = b
      · subst h; rw [hg] at hgc; cases hgc
      · rw [if_neg h]; exact hgc
    · refine .inr ⟨c, hc, ?_, rfl⟩
      unfold liveRW at hl ⊢
      rw [hget] at hl
      by_cases h : c = b
      · rw [if_pos h] at hl; exact hl.elim
      · rw [if_neg h] at hl; exact hl

theorem first_rel {size m : Nat} {s s' : Value} {l : List Value} (hS : Sim R H w) (hv : VR R s s') (hm : ∀ q, lenOfI s = some q → m ≤ q) (h : firstI H size m s = some l) :
    ∃ l' : Array Value, (∀ d, (Builtin.firstCells size m s').run P { w with drawn := d } = .ok l' { w with drawn := d }) ∧ VRs R l l'.toList := by
  unfold firstI at h
  split at h
  · obtain ⟨h1, _, _⟩ := hv.slice_nil
    injection h with h; subst h; subst h1
    exact ⟨#[], fun d => rfl, .nil⟩
  · rename_i b o len cap
    obtain ⟨hd, _, hcase⟩ := hv.slice_some
    split at h
    · rename_i h0
      injection h with h; subst h
      refine ⟨#[], fun d => ?_, .nil⟩
      rcases hcase with ⟨c', rfl⟩ | ⟨_, a', rfl⟩ <;> simp only [Builtin.firstCells, h0] <;> rfl
    · rename_i h0
      obtain ⟨arr, t, fr, hw, hle, hvs⟩ := hS.loadL hd h
      rcases hcase with ⟨c', rfl⟩ | ⟨hl0, a', rfl⟩
      · exact ⟨_, fun d => run_loadCells P (w := { w with drawn := d }) hw hle, by simpa using hvs⟩
      · subst hl0
        have := hm 0 rfl
        exfalso; apply h0; rw [show m = 0 by omega]; simp
  · cases h

end
end Go.Proofs.YtpklgklmjhblpaaI
