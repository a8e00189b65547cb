/- Operations that turn the heap. / Appends, and the other operations that turn the heap. / All operations that turn the heap, in one. / One operation, and rows of them. -/
import Derived.Test.YtndndcdblfejnaaGreatRIdealH
namespace Go.Proofs.YtndndcdblfejnaaGreatRI
set_option linter.unusedSimpArgs false
set_option linter.unusedVariables false
open Go

theorem putAt_window {L vs : List Value} {base o m : Nat} (h1 : o + vs.length ≤ m) (h2 : base + m ≤ L.length) :
    ((putAt L (base + o) vs).drop base).take m = putAt ((L.drop base).take m) o vs := by
  apply List.ext_getElem?
  intro i
  unfold putAt
  simp only [List.getElem?_take, List.getElem?_drop, List.getElem?_append, List.length_append, List.length_take, List.length_drop]
  by_cases hi : i < m
  · by_cases h3 : i < o
    · simp only [hi, if_true]
      rw [if_pos (by omega), if_pos (by omega), if_pos (by omega), if_pos (by omega), if_pos (by omega), if_pos (by omega)]
    · by_cases h4 : i < o + vs.length
      · simp only [hi, if_true]
        rw [if_pos (by omega), if_neg (by omega), if_pos (by omega), if_neg (by omega)]
        congr 1; omega
      · simp only [hi, if_true]
        rw [if_neg (by omega), if_neg (by omega), if_pos (by omega)]
        congr 1; omega
  · rw [if_neg hi]
    by_cases h3 : i < o
    · omega
    · by_cases h4 : i < o + vs.length
      · omega
      · rw [if_neg (by omega), if_neg (by omega)]

theorem putAt_length {L vs : List Value} {o : Nat} (h : o + vs.length ≤ L.length) : (putAt L o vs).length = L.length := by
  unfold putAt; simp; omega

/-- One thing turned, none come. -/
structure WAt (w w' : World) (k : Nat) : Prop where
  size : w'.heap.size = w.heap.size
  old : ∀ j, j ≠ k → w'.heap[j]? = w.heap[j]?
  os : w'.os = w.os
  tape : w'.tape = w.tape
  output : w'.output = w.output

theorem setArr_at (w : World) (b : Nat) (arr : Array Value) (t : TypeId) (fr : Nat × Nat) : WAt w (World.setArr w b arr t fr) b :=
  ⟨by simp [World.setArr], fun j hj => setArr_ne (fun e => hj e.symm), rfl, rfl, rfl⟩

section
variable {P : Program} {n : Nat} {R : Ren} {H : IHeap} {w : World} {T : Env} {a : Act}

/-- An id's thing is another one. -/
theorem sim_set {w' : World} {b : Nat} {o x : IObj} (hS : Sim R H w) (hb : R.dom b) (hg : H.get b = some o) (hlo : live H b) (hrw : liveRW H b) (hw : WAt w w' (R.blk b)) (hx : ObjRel R (some x) b w') (hlx : x ≠ .dead) :
    Sim R (H.set b x) w' ∧ Ext R H w R (H.set b x) w' := by
  have hget : ∀ c, (H.set b x).get c = if c = b then some x else H.get c := fun c => rfl
  have hlive : ∀ c, live (H.set b x) c → live H c := fun c hc => by
    unfold live at hc ⊢
    rw [hget] at hc
    by_cases h : c = b
    · subst h; exact hlo
    · rw [if_neg h] at hc; exact hc
  have hliveRW : ∀ c, liveRW (H.set b x) c → liveRW H c := fun c hc => by
    unfold liveRW at hc ⊢
    rw [hget] at hc
    by_cases h : c = b
    · subst h; exact hrw
    · rw [if_neg h] at hc; exact hc
  constructor
  · refine ⟨hS.lt, fun c hc => ?_, fun c d hc hd hlc hld hor he => hS.inj c d hc hd (hlive c hlc) (hlive d hld) (hor.imp (hliveRW c) (hliveRW d)) he, fun c hc => by rw [hget, if_neg (fun e : c = b => by have := hS.lt b hb; have hc' : H.next ≤ c := hc; omega)]; exact hS.wf c hc⟩
    rw [hget]
    by_cases h : c = b
    · subst h; simpa using hx
    · rw [if_neg h]
      have ho := hS.obj c hc
      cases hgc : H.get c with
      | none => rw [hgc] at ho; exact ho.elim
      | some ob =>
        by_cases hd : ob = .dead
        · subst hd; trivial
        · rw [← hgc]
          have hl : live H c := by unfold live; rw [hgc]; cases ob <;> first | trivial | exact absurd rfl hd
          refine ho.move R.le_refl hc fun y hy => ?_
          rw [hw.old _ (fun e => h (hS.inj c b hc hb hl hlo (.inr hrw) e))]
          exact hy
  · refine ⟨R.le_refl, Nat.le_refl _, fun c hc => .inl hc, fun c _ hn => ?_, fun c cs hgc _ => ?_, fun k _ hk => hw.old k fun e => hk b hb hrw e.symm, fun c hc hl => ?_, by rw [hw.size]; exact Nat.le_refl _, hw.os, hw.tape, hw.output⟩
    · rw [hget, if_neg (fun e : c = b => hn (e ▸ hb))]
    · rw [hget]
      by_cases h : c = b
      · subst h; exfalso; unfold liveRW at hrw; rw [hgc] at hrw; exact hrw
      · rw [if_neg h]; exact hgc
    · refine .inr ⟨c, hc, ?_, rfl⟩
      unfold liveRW at hl ⊢
      rw [hget] at hl
      by_cases h : c = b
      · subst h; exact hrw
      · rw [if_neg h] at hl; exact hl

theorem Sim.storeL {H' : IHeap} {b o : Nat} {vs vs' : List Value} (hS : Sim R H w) (hb : R.dom b) (h : H.storeL b o vs = some H') (hv : VRs R vs vs') (P : Program) :
    ∃ w', (storeCells ⟨R.blk b, R.base b + o, none⟩ vs').run P w = .ok () w' ∧ Sim R H' w' ∧ Ext R H w R H' w' := by
  unfold IHeap.storeL at h
  split at h
  · rename_i cs hg
    split at h
    · rename_i hcond
      injection h with h
      subst h
      have ho := hS.obj b hb
      rw [hg] at ho
      obtain ⟨h1, h2, arr, t, fr, h3, h4, h5, h6⟩ := ho
      have hlen := hv.length
      have hrun := run_storeCells P (b := R.blk b) (o := R.base b + o) (vs := vs') h3 (by omega) (by rw [hv.one]; exact hcond.2) (fun j hj1 hj2 => h6 rfl j (by omega) (by omega))
      refine ⟨_, hrun, sim_set hS hb hg (by unfold live; rw [hg]; trivial) (by unfold liveRW; rw [hg]; trivial) (setArr_at _ _ _ _ _) ?_ (by simp)⟩
      have hblk : R.blk b < w.heap.size := (Array.getElem?_eq_some_iff.1 h3).1
      have hl1 : (putAt cs o vs).length = cs.length := putAt_length hcond.1
      have hl2 : (putAt arr.toList (R.base b + o) vs').length = arr.toList.length := putAt_length (by simp; omega)
      refine ⟨by rw [hl1]; exact h1, by rw [hl1]; exact h2, _, t, fr, setArr_get hblk, by simpa [hl2] using h4, ?_, fun hr j hj1 hj2 => h6 hr j hj1 hj2⟩
      rw [hl1]
      simp only []
      rw [putAt_window (by rw [← hlen]; exact hcond.1) (by simp; omega)]
      exact VRs.putAt h5 hv o
    · cases h
  · cases h

/-- What is made beyond the renaming is not seen. -/
theorem Sim.alloc_far (hS : Sim R H w) (o : IObj) : Sim R (H.alloc o) w := by
  have hget : ∀ c, R.dom c → (H.alloc o).get c = H.get c := fun c hc => by
    have := hS.lt c hc
    show (if c = H.next then some o else H.get c) = _
    rw [if_neg (by omega)]
  refine ⟨fun b hb => Nat.lt_succ_of_lt (hS.lt b hb), fun b hb => by rw [hget b hb]; exact hS.obj b hb, fun b c hb hc hlb hlc hor he => hS.inj b c hb hc ?_ ?_ (hor.imp (fun h => by unfold liveRW at h ⊢; rw [hget b hb] at h; exact h) (fun h => by unfold liveRW at h ⊢; rw [hget c hc] at h; exact h)) he, fun c hc => by
    have hc' : H.next + 1 ≤ c := hc
    show (if c = H.next then some o else H.get c) = _
    rw [if_neg (by omega)]; exact hS.wf c (by omega)⟩
  · unfold live at hlb ⊢; rw [hget b hb] at hlb; exact hlb
  · unfold live at hlc ⊢; rw [hget c hc] at hlc; exact hlc

theorem alloc_get (H : IHeap) (o : IObj) : (H.alloc o).get H.next = some o := by simp [IHeap.alloc]
theorem alloc_get_lt (H : IHeap) (o : IObj) {c : Nat} (hc : c < H.next) : (H.alloc o).get c = H.get c := by
  show (if c = H.next then some o else H.get c) = _
  rw [if_neg (by omega)]

/-- A new thing, at the next id. -/
theorem ext_new {w' : World} {o : IObj} {R' : Ren} (hS : Sim R H w) (hle : R.le R') (hdom : ∀ b, R'.dom b ↔ (R.dom b ∨ b = H.next)) (hblk : R'.blk H.next = w.heap.size) (hw : WOne w w') :
    Ext R H w R' (H.alloc o) w' := by
  refine ⟨hle, Nat.le_succ _, fun b hb => ?_, fun b hb _ => alloc_get_lt H o hb, fun b cs hg hb => by rw [alloc_get_lt H o hb]; exact hg, fun k hk _ => hw.old k hk, fun b hb hl => ?_, by rw [hw.size]; omega, hw.os, hw.tape, hw.output⟩
  · rcases (hdom b).1 hb with h | h
    · exact .inl h
    · exact .inr (by omega)
  · rcases (hdom b).1 hb with h | h
    · refine .inr ⟨b, h, ?_, (hle.blk b h).symm⟩
      unfold liveRW at hl ⊢
      rw [alloc_get_lt H o (hS.lt b h)] at hl
      exact hl
    · subst h; exact .inl (by omega)

/-- A thing that nobody reads any more. -/
theorem sim_kill {b : Nat} {cs : List Value} (hS : Sim R H w) (hb : R.dom b) (hg : H.get b = some (.cells cs false)) : Sim R (H.set b .dead) w ∧ Ext R H w R (H.set b .dead) w := by
  have hget : ∀ c, (H.set b .dead).get c = if c = b then some .dead else H.get c := fun c => rfl
  have hlive : ∀ c, live (H.set b .dead) c → live H c ∧ c ≠ b := fun c hc => by
    unfold live at hc ⊢
    rw [hget] at hc
    by_cases h : c = b
    · rw [if_pos h] at hc; exact hc.elim
    · rw [if_neg h] at hc; exact ⟨hc, h⟩
  have hliveRW : ∀ c, liveRW (H.set b .dead) c → liveRW H c := fun c hc => by
    unfold liveRW at hc ⊢
    rw [hget] at hc
    by_cases h : c = b
    · rw [if_pos h] at hc; exact hc.elim
    · rw [if_neg h] at hc; exact hc
  constructor
  · refine ⟨hS.lt, fun c hc => ?_, fun c d hc hd hlc hld hor he => hS.inj c d hc hd (hlive c hlc).1 (hlive d hld).1 (hor.imp (hliveRW c) (hliveRW d)) he, fun c hc => by rw [hget, if_neg (fun e : c = b => by have := hS.lt b hb; have hc' : H.next ≤ c := hc; omega)]; exact hS.wf c hc⟩
    rw [hget]
    by_cases h : c = b
    · rw [if_pos h]; trivial
    · rw [if_neg h]; exact hS.obj c hc
  · refine ⟨R.le_refl, Nat.le_refl _, fun c hc => .inl hc, fun c _ hn => ?_, fun c cs' hgc _ => ?_, fun k _ hk => rfl, fun c hc hl => ?_, Nat.le_refl _, rfl, rfl, rfl⟩
    · rw [hget, if_neg (fun e : c = b => hn (e ▸ hb))]
    · rw [hget]
      by_cases h : c = b
      · subst h; rw [hg] at hgc; cases hgc
      · rw [if_neg h]; exact hgc
    · refine .inr ⟨c, hc, ?_, rfl⟩
      unfold liveRW at hl ⊢
      rw [hget] at hl
      by_cases h : c = b
      · rw [if_pos h] at hl; exact hl.elim
      · rw [if_neg h] at hl; exact hl

theorem first_rel {size m : Nat} {s s' : Value} {l : List Value} (hS : Sim R H w) (hv : VR R s s') (hm : ∀ q, lenOfI s = some q → m ≤ q) (h : firstI H size m s = some l) :
    ∃ l' : Array Value, (∀ d, (Builtin.firstCells size m s').run P { w with drawn := d } = .ok l' { w with drawn := d }) ∧ VRs R l l'.toList := by
  unfold firstI at h
  split at h
  · obtain ⟨h1, _, _⟩ := hv.slice_nil
    injection h with h; subst h; subst h1
    exact ⟨#[], fun d => rfl, .nil⟩
  · rename_i b o len cap
    obtain ⟨hd, _, hcase⟩ := hv.slice_some
    split at h
    · rename_i h0
      injection h with h; subst h
      refine ⟨#[], fun d => ?_, .nil⟩
      rcases hcase with ⟨c', rfl⟩ | ⟨_, a', rfl⟩ <;> simp only [Builtin.firstCells, h0] <;> rfl
    · rename_i h0
      obtain ⟨arr, t, fr, hw, hle, hvs⟩ := hS.loadL hd h
      rcases hcase with ⟨c', rfl⟩ | ⟨hl0, a', rfl⟩
      · exact ⟨_, fun d => run_loadCells P (w := { w with drawn := d }) hw hle, by simpa using hvs⟩
      · subst hl0
        have := hm 0 rfl
        exfalso; apply h0; rw [show m = 0 by omega]; simp
  · cases h

end
end Go.Proofs.YtndndcdblfejnaaGreatRI
namespace Go.Proofs.YtndndcdblfejnaaGreatRI
set_option linter.unusedSimpArgs false
set_option linter.unusedVariables false
open Go

theorem growBy_le (m : Nat) : ∀ (k c : Nat), Builtin.growBy m k c ≤ max c (m + (m + 768) / 4)
  | 0, c => by simp only [Builtin.growBy]; omega
  | k + 1, c => by
    simp only [Builtin.growBy]
    split
    · omega
    · have := growBy_le m k (c + (c + 768) / 4)
      omega

theorem nextcap_le {m c : Nat} (h : c < m) : Builtin.nextslicecap m c ≤ 2 * m := by
  unfold Builtin.nextslicecap
  split
  · omega
  · split
    · omega
    · have := growBy_le m 4 c
      omega

/-- An append's second half. -/
def contA (e : TypeId) (size : Nat) (zeros : Bool) (s : Value) (base : Option Addr) (sLen sCap n : Nat) (x : Value) (appended : Sem (Array Value)) : Sem Value := do
  let need := sLen + n
  if need ≤ sCap then
    let new ← appended
    if let some a := base then storeCells (a.add (sLen * size)) new.toList
    pure (.slice base need sCap)
  else
    if (need : Int) > IntKind.i64.max ∧ (zeros ∨ (← typeInfo e).bytes = 0) then runtimePanic (.error "growslice: len out of range")
    if Builtin.nextslicecap need sCap * (← typeInfo e).bytes > 2 ^ 48 then (if zeros then runtimePanic (.error "growslice: len out of range") else do
      if !(← Builtin.mayShare size sLen n base x) then mark .noRoom
      unsupported (.resourceLimit "append: a slice or a string whose bytes no memory bears"))
    let newCap ← choose (.appendCap need sCap e)
    askRoom (newCap * (← typeInfo e).bytes)
    let old ← Builtin.firstCells size sLen s
    let new ← appended
    let rest := Builtin.zeroCells (← zeroValue e).cells (newCap - need)
    pure (.slice (some (← newRow e (old ++ new ++ rest))) need newCap)

section
variable {P : Program} {n : Nat} {R : Ren} {H : IHeap} {w : World} {T : Env} {a : Act}

theorem contA_in {e : TypeId} {size sLen sCap m : Nat} {zeros : Bool} {s x : Value} {base : Option Addr} {app : Sem (Array Value)} (h : sLen + m ≤ sCap) :
    (contA e size zeros s base sLen sCap m x app).run P w = ((app.run P w).andThen fun new w1 => ((match base with | some a => storeCells (a.add (sLen * size)) new.toList | none => pure () : Sem Unit).run P w1).andThen fun _ w2 => .ok (.slice base (sLen + m) sCap) w2) := by
  unfold contA
  simp only [h, if_true, Sem.run_bind]
  congr 1
  funext new w1
  cases base <;> simp

theorem contA_out {e : TypeId} {size bytes sLen sCap m : Nat} {zeros : Bool} {s x z : Value} {base : Option Addr} {app : Sem (Array Value)} (h : ¬ sLen + m ≤ sCap)
    (hb : bytesT P e = some bytes) (hb0 : 0 < bytes) (hz : zeroT P e = some z) (h1 : (sLen + m) * bytes ≤ 140737488355328) (h2 : sLen + m ≤ 140737488355328) {old new : Array Value}
    (hold : (Builtin.firstCells size sLen s).run P { w with drawn := w.drawn + 1 } = .ok old { w with drawn := w.drawn + 1 }) (hnew : app.run P { w with drawn := w.drawn + 1 } = .ok new { w with drawn := w.drawn + 1 }) :
    ∃ cap, sLen + m ≤ cap ∧ cap < UNK ∧ (contA e size zeros s base sLen sCap m x app).run P w = .ok (.slice (some ⟨w.heap.size, 0, none⟩) (sLen + m) cap)
      { w with heap := w.heap.push (.cells (old ++ new ++ Builtin.zeroCells z.cells (cap - (sLen + m))) e), drawn := w.drawn + 1 } := by
  have _ := hb0
  obtain ⟨i, hi, hib⟩ : ∃ i, P.info? e = some i ∧ i.bytes = bytes := by
    unfold bytesT at hb
    cases hi : P.info? e with
    | none => simp [hi] at hb
    | some i => simp [hi] at hb; exact ⟨i, rfl, hb⟩
  refine ⟨(Question.appendCap (sLen + m) sCap e).cut (w.tape w.drawn (.appendCap (sLen + m) sCap e)), by simp [Question.cut], by
    have hm := Nat.mod_lt (w.tape w.drawn (.appendCap (sLen + m) sCap e)) (show 0 < 2 ^ 63 - (sLen + m) by omega)
    simp only [Question.cut, UNK]; omega, ?_⟩
  generalize hcap : (Question.appendCap (sLen + m) sCap e).cut (w.tape w.drawn (.appendCap (sLen + m) sCap e)) = cap
  have hrun : (choose (.appendCap (sLen + m) sCap e)).run P w = .ok cap { w with drawn := w.drawn + 1 } := by rw [← hcap]; rfl
  have hzr := fun w => (run_zeroT (P := P) hz w).1
  unfold contA
  simp only [h, if_false]
  have hn1 : ¬ (((sLen + m : Nat) : Int) > IntKind.i64.max ∧ (zeros = true ∨ bytes = 0)) := by
    intro hq
    have : IntKind.i64.max = 9223372036854775807 := by decide
    omega
  have hn2 : ¬ (Builtin.nextslicecap (sLen + m) sCap * bytes > 2 ^ 48) := by
    have := nextcap_le (m := sLen + m) (c := sCap) (by omega)
    have h3 : Builtin.nextslicecap (sLen + m) sCap * bytes ≤ 2 * (sLen + m) * bytes := Nat.mul_le_mul_right _ this
    rw [Nat.mul_assoc] at h3
    omega
  simp only [Sem.run_bind, run_typeInfo hi, Result.andThen_ok, hib]
  rw [if_neg hn1]
  simp only [Sem.run_bind, run_typeInfo hi, Result.andThen_ok, hib, pure_bind, Sem.run_pure]
  rw [if_neg hn2]
  simp only [Sem.run_bind, run_typeInfo hi, Result.andThen_ok, pure_bind, Sem.run_pure, hrun, run_askRoom, hold, hnew, hzr]
  rfl

theorem zeroCells_size (z : Array Value) (m : Nat) : (Builtin.zeroCells z m).size = m * z.size := by simp [Builtin.zeroCells]

theorem zeroCells_rel (R : Ren) {z : Value} (h : groundV z = true) (m : Nat) : VRs R (Builtin.zeroCells z.cells m).toList (Builtin.zeroCells z.cells m).toList := by
  unfold Builtin.zeroCells
  exact filled_refl R h _

/-- One id more, at a place in a block that was there. -/
def Ren.addAt (R : Ren) (r blk base size len : Nat) : Ren where
  dom b := R.dom b ∨ b = r
  blk b := if b = r then blk else R.blk b
  base b := if b = r then base else R.base b
  size b := if b = r then size else R.size b
  len b := if b = r then len else R.len b

theorem Ren.addAt_le {R : Ren} {r blk base size len : Nat} (h : ¬ R.dom r) : R.le (R.addAt r blk base size len) := by
  have hne : ∀ b, R.dom b → b ≠ r := fun b hb e => h (e ▸ hb)
  refine ⟨fun b hb => .inl hb, fun b hb => ?_, fun b hb => ?_, fun b hb => ?_, fun b hb => ?_⟩ <;> simp [Ren.addAt, hne b hb]

/-- An append in place, beyond what was known. -/
theorem sim_extend {b o len m c size : Nat} {cs news oldI : List Value} {new : Array Value} (hS : Sim R H w) (hd : R.dom b) (hg : H.get b = some (.cells cs false)) (hq4 : 0 < size) (hone : news.all one1 = true)
    (hrel : VRs R news new.toList) (hq5 : news.length = m * size) (k1 : R.len b ≤ o + c * size) (k2 : R.base b + o + c * size ≤ R.size b) (hlc : len + m ≤ c) (hcU : size = 1 ∨ c < UNK) {s : Nat}
    (hfi : firstI H size len (.slice (some ⟨b, o, none⟩) len s) = some oldI) (hol : oldI.length = len * size) (hoc : o ≤ cs.length) :
    ∃ w' R', (storeCells ⟨R.blk b, R.base b + o + len * size, none⟩ new.toList).run P w = .ok () w' ∧ VR R' (.slice (some ⟨H.next, 0, none⟩) (len + m) (UNK + size)) (.slice (some ⟨R.blk b, R.base b + o, none⟩) (len + m) c) ∧
      Sim R' ((H.set b .dead).alloc (.cells (oldI ++ news) false)) w' ∧ Ext R H w R' ((H.set b .dead).alloc (.cells (oldI ++ news) false)) w' := by
  have ho := hS.obj b hd
  rw [hg] at ho
  obtain ⟨g1, g2, arr, t, fr, g3, g4, g5, g6⟩ := ho
  have hmul : (len + m) * size ≤ c * size := Nat.mul_le_mul_right _ hlc
  have hadd : (len + m) * size = len * size + m * size := Nat.add_mul _ _ _
  have hnl : new.toList.length = m * size := by rw [← hrel.length, hq5]
  have hrun := run_storeCells P (b := R.blk b) (o := R.base b + o + len * size) (vs := new.toList) g3 (by rw [hnl]; omega) (by rw [hrel.one]; exact hone) (fun j hj1 hj2 => g6 rfl j (by omega) (by rw [hnl] at hj2; omega))
  have hnd : ¬ R.dom H.next := fun h => Nat.lt_irrefl _ (hS.lt _ h)
  have hle : R.le (R.addAt H.next (R.blk b) (R.base b + o) (R.size b) ((len + m) * size)) := Ren.addAt_le hnd
  have hlive : live H b := by unfold live; rw [hg]; trivial
  have hrw : liveRW H b := by unfold liveRW; rw [hg]; trivial
  have hblk : R.blk b < w.heap.size := (Array.getElem?_eq_some_iff.1 g3).1
  have hat := setArr_at w (R.blk b) (putAt arr.toList (R.base b + o + len * size) new.toList).toArray t fr
  have hne : ∀ x, R.dom x → x ≠ H.next := fun x hx e => hnd (e ▸ hx)
  have hget : ∀ x, ((H.set b .dead).alloc (.cells (oldI ++ news) false)).get x = if x = H.next then some (.cells (oldI ++ news) false) else if x = b then some .dead else H.get x := fun x => rfl
  have hlv : ∀ x, R.dom x → live ((H.set b .dead).alloc (.cells (oldI ++ news) false)) x → live H x ∧ x ≠ b := fun x hx hl => by
    unfold live at hl ⊢
    rw [hget, if_neg (hne x hx)] at hl
    by_cases hb : x = b
    · rw [if_pos hb] at hl; exact hl.elim
    · rw [if_neg hb] at hl; exact ⟨hl, hb⟩
  have hlvRW : ∀ x, R.dom x → liveRW ((H.set b .dead).alloc (.cells (oldI ++ news) false)) x → liveRW H x := fun x hx hl => by
    unfold liveRW at hl ⊢
    rw [hget, if_neg (hne x hx)] at hl
    by_cases hb : x = b
    · rw [if_pos hb] at hl; exact hl.elim
    · rw [if_neg hb] at hl; exact hl
  have e0 : ∀ x, R.dom x → (R.addAt H.next (R.blk b) (R.base b + o) (R.size b) ((len + m) * size)).blk x = R.blk x := fun x hx => hle.blk x hx
  have e1 : (R.addAt H.next (R.blk b) (R.base b + o) (R.size b) ((len + m) * size)).blk H.next = R.blk b := by simp [Ren.addAt]
  refine ⟨_, R.addAt H.next (R.blk b) (R.base b + o) (R.size b) ((len + m) * size), hrun, ?_, ⟨?_, ?_, ?_, fun c hc => by
    have hc' : H.next + 1 ≤ c := hc
    have := hS.lt b hd
    rw [hget, if_neg (by omega), if_neg (by omega)]; exact hS.wf c (by omega)⟩, ⟨hle, Nat.le_succ _, ?_, ?_, ?_, ?_, ?_, by rw [hat.size]; exact Nat.le_refl _, hat.os, hat.tape, hat.output⟩⟩
  · have := VR.sliceGr (R := R.addAt H.next (R.blk b) (R.base b + o) (R.size b) ((len + m) * size)) H.next 0 (len + m) c size (.inr rfl) hq4 hlc hcU (by simp only [Ren.addAt, if_true]; omega) (by simp only [Ren.addAt, if_true]; omega)
    simpa [Ren.addAt] using this
  · intro x hx
    rcases hx with hx | rfl
    · exact Nat.lt_succ_of_lt (hS.lt x hx)
    · exact Nat.lt_succ_self _
  · intro x hx
    rw [hget]
    by_cases hxn : x = H.next
    · subst hxn
      rw [if_pos rfl]
      have hbx : (R.addAt H.next (R.blk b) (R.base b + o) (R.size b) ((len + m) * size)).base H.next = R.base b + o := by simp [Ren.addAt]
      have hsx : (R.addAt H.next (R.blk b) (R.base b + o) (R.size b) ((len + m) * size)).size H.next = R.size b := by simp [Ren.addAt]
      have hlx : (R.addAt H.next (R.blk b) (R.base b + o) (R.size b) ((len + m) * size)).len H.next = (len + m) * size := by simp [Ren.addAt]
      have hll : (oldI ++ news).length = (len + m) * size := by simp [hol, hq5, Nat.add_mul]
      have hpl : (putAt arr.toList (R.base b + o + len * size) new.toList).length = arr.toList.length := putAt_length (by rw [hnl]; simp; omega)
      refine ⟨by rw [hlx, hll], by rw [hbx, hsx, hll]; omega, _, t, fr, by rw [e1]; exact setArr_get hblk, by rw [hsx]; simpa [hpl] using g4, ?_, fun _ j hj1 hj2 => g6 rfl j (by rw [hbx] at hj1; omega) (by rw [hsx] at hj2; exact hj2)⟩
      rw [hbx, hll]
      simp only []
      rw [putAt_window (by rw [hnl]; omega) (by simp; omega)]
      have hp : putAt ((arr.toList.drop (R.base b + o)).take ((len + m) * size)) (len * size) new.toList = (arr.toList.drop (R.base b + o)).take (len * size) ++ new.toList := by
        unfold putAt
        have hdr : ((arr.toList.drop (R.base b + o)).take ((len + m) * size)).drop (len * size + new.toList.length) = [] := List.drop_eq_nil_of_le (by simp only [List.length_take, hnl]; omega)
        rw [hdr, List.append_nil, List.take_take, Nat.min_eq_left (by omega)]
      rw [hp]
      refine (VRs.append hrel ?_).mono hle
      -- the old ones
      simp only [firstI] at hfi
      split at hfi
      · rename_i h0
        injection hfi with hfi
        subst hfi
        rw [h0]; exact .nil
      · obtain ⟨arr', t', fr', hw', hle', hv'⟩ := hS.loadL hd hfi
        rw [g3] at hw'
        injection hw' with hw'
        injection hw' with h1 h2 h3
        subst h1
        exact hv'
    · rw [if_neg hxn]
      have hxd : R.dom x := hx.resolve_right hxn
      by_cases hxb : x = b
      · rw [if_pos hxb]; trivial
      · rw [if_neg hxb]
        have hox := hS.obj x hxd
        cases hgx : H.get x with
        | none => rw [hgx] at hox; exact hox.elim
        | some ob =>
          by_cases hdd : ob = .dead
          · subst hdd; trivial
          · rw [← hgx]
            have hl : live H x := by unfold live; rw [hgx]; cases ob <;> first | trivial | exact absurd rfl hdd
            refine hox.move hle hxd fun y hy => ?_
            rw [hat.old _ (fun e => hxb (hS.inj x b hxd hd hl hlive (.inr hrw) e))]
            exact hy
  · intro x y hx hy hlx hly hor he
    by_cases hxn : x = H.next
    · by_cases hyn : y = H.next
      · rw [hxn, hyn]
      · exfalso
        have hyd := hy.resolve_right hyn
        obtain ⟨h1, h2⟩ := hlv y hyd hly
        rw [hxn, e1, e0 y hyd] at he
        exact h2 (hS.inj y b hyd hd h1 hlive (.inr hrw) he.symm)
    · have hxd := hx.resolve_right hxn
      obtain ⟨h1, h2⟩ := hlv x hxd hlx
      by_cases hyn : y = H.next
      · exfalso
        rw [hyn, e1, e0 x hxd] at he
        exact h2 (hS.inj x b hxd hd h1 hlive (.inr hrw) he)
      · have hyd := hy.resolve_right hyn
        rw [e0 x hxd, e0 y hyd] at he
        exact hS.inj x y hxd hyd h1 (hlv y hyd hly).1 (hor.imp (hlvRW x hxd) (hlvRW y hyd)) he
  · intro x hx
    rcases hx with hx | rfl
    · exact .inl hx
    · exact .inr (Nat.le_refl _)
  · intro x hx hn
    rw [hget, if_neg (by omega), if_neg (fun e : x = b => hn (e ▸ hd))]
  · intro x cs' hgx hx
    rw [hget, if_neg (by omega)]
    by_cases hxb : x = b
    · subst hxb; rw [hg] at hgx; cases hgx
    · rw [if_neg hxb]; exact hgx
  · intro k _ hk
    exact hat.old k fun e => hk b hd hrw e.symm
  · intro x hx hl
    rcases hx with hx | rfl
    · refine .inr ⟨x, hx, ?_, (e0 x hx).symm⟩
      unfold liveRW at hl ⊢
      rw [hget, if_neg (hne x hx)] at hl
      by_cases hxb : x = b
      · rw [if_pos hxb] at hl; exact hl.elim
      · rw [if_neg hxb] at hl; exact hl
    · exact .inr ⟨b, hd, hrw, e1.symm⟩

/-- What an append does. -/
theorem sim_append {e : TypeId} {size bytes : Nat} {zeros : Bool} {s s' x v : Value} {m : Nat} {news : List Value} {app : Sem (Array Value)} {H' : IHeap} {z : Value}
    (hS : Sim R H w) (hs : VR R s s') (hb : bytesT P e = some bytes) (hz : zeroT P e = some z) (hzs : z.cells.size = size)
    (h : appendI H size bytes s m news = some (v, H')) {new : Array Value} (hnew : ∀ d, app.run P { w with drawn := d } = .ok new { w with drawn := d }) (hrel : VRs R news new.toList) :
    ∃ base sLen sCap v' w' R', s' = .slice base sLen sCap ∧ (contA e size zeros s' base sLen sCap m x app).run P w = .ok v' w' ∧ VR R' v v' ∧ Sim R' H' w' ∧ Ext R H w R' H' w' := by
  unfold appendI at h
  split at h
  case h_2 => cases h
  rename_i a len cap
  split at h
  case isFalse => cases h
  rename_i hcond
  obtain ⟨hq1, hq2, hq3, hq4, hq5⟩ := hcond
  have hnl : new.size = m * size := by have := hrel.length; rw [hq5] at this; simpa using this.symm
  have hnew0 : app.run P w = .ok new w := hnew w.drawn
  -- a new row
  have grow : ∀ (base : Option Addr) (sCap : Nat) (oldI : List Value) (old : Array Value) (H0 : IHeap), s' = .slice base len sCap → ¬ len + m ≤ sCap → Sim R H0 w → Ext R H w R H0 w →
      ((Builtin.firstCells size len s').run P { w with drawn := w.drawn + 1 } = .ok old { w with drawn := w.drawn + 1 }) → VRs R oldI old.toList → oldI.length = len * size →
      v = .slice (some ⟨H0.next, 0, none⟩) (len + m) (UNK + size) → H' = H0.alloc (.cells (oldI ++ news) false) →
      ∃ v' w' R', (contA e size zeros s' base len sCap m x app).run P w = .ok v' w' ∧ VR R' v v' ∧ Sim R' H' w' ∧ Ext R H w R' H' w' := by
    intro base sCap oldI old H0 hs' hnc hS0 hE0 hold ho hol hv hH
    obtain ⟨c, hc, hcU, hrun⟩ := contA_out (zeros := zeros) (s := s') (x := x) (base := base) (size := size) (sCap := sCap) (sLen := len) (m := m) (P := P) (app := app) (old := old) (new := new) hnc hb hq3 hz hq1 hq2 hold (hnew _)
    have hos : old.size = len * size := by have := ho.length; rw [hol] at this; simpa using this.symm
    let arr := old ++ new ++ Builtin.zeroCells z.cells (c - (len + m))
    have hsz : arr.size = c * size := by
      simp only [arr, Array.size_append, zeroCells_size, hos, hnl, hzs]
      rw [← Nat.add_mul, ← Nat.add_mul]; congr 1; omega
    have hlen : (oldI ++ news).length = (len + m) * size := by simp [hol, hq5, Nat.add_mul]
    have hnd : ¬ R.dom H0.next := fun hd => Nat.lt_irrefl _ (hS0.lt _ hd)
    have hle : R.le (R.add H0.next w.heap.size arr.size (oldI ++ news).length) := Ren.add_le hnd
    have hmul : (len + m) * size ≤ c * size := Nat.mul_le_mul_right _ hc
    have hSn := sim_new (w' := { w with heap := w.heap.push (.cells arr e), drawn := w.drawn + 1 }) (size := arr.size) (len := (oldI ++ news).length) (x := .cells arr e) (hS0.alloc_far (.cells (oldI ++ news) false)) (Nat.lt_succ_self _) hnd (alloc_get H0 _)
      (pushOne w _ _) (by simp) ⟨by simp [Ren.add], by simp [Ren.add], by simp [Ren.add], by rw [hlen, hsz]; exact hmul, by
        have e1 : arr.toList.take (oldI ++ news).length = old.toList ++ new.toList := by
          have : (oldI ++ news).length = (old.toList ++ new.toList).length := by simp [hol, hq5, hos, hnl]
          rw [this]
          simp only [arr, Array.toList_append]
          exact List.take_left
        rw [e1]
        exact (VRs.append hrel ho).mono hle, fun j _ => by simp⟩
    subst hv; subst hH
    refine ⟨_, _, _, hrun, ?_, hSn, hE0.trans (ext_new hS0 hle (fun b => Iff.rfl) (by simp [Ren.add]) (pushOne w _ _))⟩
    have := VR.sliceGr (R := R.add H0.next w.heap.size arr.size (oldI ++ news).length) H0.next 0 (len + m) c size (.inr rfl) hq4 hc (.inr hcU) (by simp only [Ren.add, if_true]; omega) (by simp only [Ren.add, if_true]; omega)
    simpa [Ren.add] using this
  by_cases hm0 : m = 0
  · -- nothing is appended
    subst hm0
    rw [if_pos rfl] at h
    split at h
    case isFalse => cases h
    rename_i hlc
    simp only [Option.some.injEq, Prod.mk.injEq] at h
    obtain ⟨rfl, rfl⟩ := h
    have hne : new = #[] := by apply Array.eq_empty_of_size_eq_zero; rw [hnl]; simp
    subst hne
    obtain ⟨base, sCap, hs', hcap⟩ : ∃ base sCap, s' = .slice base len sCap ∧ len ≤ sCap := by
      cases hs with
      | sliceNil => exact ⟨_, _, rfl, hlc⟩
      | sliceEx => exact ⟨_, _, rfl, hlc⟩
      | sliceZ => exact ⟨_, _, rfl, hlc⟩
      | sliceGr _ _ _ _ _ _ _ hl _ => exact ⟨_, _, rfl, hl⟩
      | sliceEm => exact ⟨_, _, rfl, Nat.le_refl _⟩
    refine ⟨base, len, sCap, s', w, R, hs', ?_, hs, hS, Ext.refl _ _ _⟩
    rw [contA_in (by omega), hnew0]
    subst hs'
    cases base <;> rfl
  rw [if_neg hm0] at h
  split at h
  · -- onto nil
    split at h
    case isFalse => cases h
    rename_i hlc
    obtain ⟨rfl, rfl⟩ := hlc
    simp only [Option.some.injEq, Prod.mk.injEq] at h
    obtain ⟨rfl, rfl⟩ := h
    obtain ⟨hs', _, _⟩ := hs.slice_nil
    have := grow none 0 [] #[] H hs' (by omega) hS (Ext.refl _ _ _) (by subst hs'; rfl) .nil (by simp) (by simp) (by simp)
    obtain ⟨v', w', R', h1, h2, h3, h4⟩ := this
    exact ⟨none, 0, 0, v', w', R', hs', h1, h2, h3, h4⟩
  · rename_i b o
    obtain ⟨hd, _, _⟩ := hs.slice_some
    split at h
    · -- in place, its capacity known
      rename_i hin
      cases hst : H.storeL b (o + len * size) news with
      | none => rw [hst] at h; simp at h
      | some H1 =>
        rw [hst] at h
        simp only [Option.map_some, Option.some.injEq, Prod.mk.injEq] at h
        obtain ⟨rfl, rfl⟩ := h
        obtain ⟨w', h1, h2, h3⟩ := hS.storeL hd hst hrel P
        have hs2 : s' = .slice (some ⟨R.blk b, R.base b + o, none⟩) len cap := by
          cases hs with
          | sliceEx => rfl
          | sliceZ => exfalso; omega
          | sliceGr => exfalso; unfold UNK at hin; omega
          | sliceEm => exfalso; unfold UNK at hin; omega
        refine ⟨_, len, cap, .slice (some ⟨R.blk b, R.base b + o, none⟩) (len + m) cap, w', R, hs2, ?_, .sliceEx b o _ _ hd hin.1, h2, h3⟩
        rw [contA_in hin.2, hnew0]
        simp only [Result.andThen_ok, add_lit]
        rw [Nat.add_assoc, h1]
        rfl
    · rename_i hin
      split at h
      case h_2 => cases h
      rename_i oldI hfi
      have hlen_old : oldI.length = len * size := by
        simp only [firstI] at hfi
        split at hfi
        · rename_i h0; injection hfi with hfi; subst hfi; simp [h0]
        · unfold IHeap.loadL at hfi
          split at hfi
          · split at hfi
            · injection hfi with hfi; subst hfi; simp; omega
            · cases hfi
          · cases hfi
      obtain ⟨old, hold0, ho⟩ := first_rel (P := P) hS hs (fun q hq => by simp [lenOfI] at hq; omega) hfi
      have hold := hold0 (w.drawn + 1)
      split at h
      · -- its capacity known, and too small
        rename_i hcu
        simp only [Option.some.injEq, Prod.mk.injEq] at h
        obtain ⟨rfl, rfl⟩ := h
        obtain ⟨base, sCap, hs2, hnc⟩ : ∃ base sCap, s' = .slice base len sCap ∧ ¬ len + m ≤ sCap := by
          cases hs with
          | sliceEx => exact ⟨_, _, rfl, fun hq => hin ⟨hcu, hq⟩⟩
          | sliceZ => exact ⟨_, _, rfl, by omega⟩
          | sliceGr => exfalso; unfold UNK at hcu; omega
          | sliceEm => exfalso; unfold UNK at hcu; omega
        obtain ⟨v', w', R', h1, h2, h3, h4⟩ := grow base sCap oldI old H hs2 hnc hS (Ext.refl _ _ _) hold ho hlen_old rfl rfl
        exact ⟨base, len, sCap, v', w', R', hs2, h1, h2, h3, h4⟩
      · rename_i hcu
        split at h
        case isFalse => cases h
        rename_i hce
        split at h
        case h_2 => cases h
        rename_i cs hg
        split at h
        case isFalse => cases h
        rename_i hone
        split at h
        · -- in place, within what is known
          rename_i hfit
          simp only [Option.some.injEq, Prod.mk.injEq] at h
          obtain ⟨rfl, rfl⟩ := h
          have hst : H.storeL b (o + len * size) news = some (H.set b (.cells (putAt cs (o + len * size) news) false)) := by
            unfold IHeap.storeL
            rw [hg]
            simp only []
            rw [if_pos ⟨by rw [hq5, Nat.add_assoc, ← Nat.add_mul]; exact hfit, hone⟩]
          obtain ⟨w', h1, h2, h3⟩ := hS.storeL hd hst hrel P
          have hlenb : cs.length = R.len b := by have ho' := hS.obj b hd; rw [hg] at ho'; exact ho'.1
          cases hs with
          | sliceEx _ _ _ _ _ hcc => exact absurd hcc hcu
          | sliceZ => exact absurd (by unfold UNK; omega) hcu
          | sliceGr _ _ _ c e' _ he hl hcU k1 k2 =>
            obtain rfl : size = e' := by omega
            have hlc : len + m ≤ c := by
              have : (len + m) * size ≤ c * size := by omega
              exact Nat.le_of_mul_le_mul_right this hq4
            refine ⟨_, len, c, .slice (some ⟨R.blk b, R.base b + o, none⟩) (len + m) c, w', R, rfl, ?_, .sliceGr b o _ _ _ hd he hlc hcU k1 k2, h2, h3⟩
            rw [contA_in hlc, hnew0]
            simp only [Result.andThen_ok, add_lit]
            rw [Nat.add_assoc, h1]
            rfl
          | sliceEm _ _ e' _ _ he k1 =>
            obtain rfl : size = e' := by omega
            exfalso
            have : 1 ≤ (0 + m) * size := Nat.mul_pos (by omega) hq4
            omega
        · rename_i hfit
          split at h
          case isFalse => cases h
          rename_i hoc
          simp only [Option.some.injEq, Prod.mk.injEq] at h
          obtain ⟨rfl, rfl⟩ := h
          obtain ⟨hSk, hEk⟩ := sim_kill hS hd hg
          have hlenb : cs.length = R.len b := by have ho' := hS.obj b hd; rw [hg] at ho'; exact ho'.1
          cases hs with
          | sliceEx _ _ _ _ _ hcc => exact absurd hcc hcu
          | sliceZ => exact absurd (by unfold UNK; omega) hcu
          | sliceEm _ _ e' a' _ he k1 =>
            obtain rfl : size = e' := by omega
            obtain ⟨v', w', R', h1, h2, h3, h4⟩ := grow (some a') 0 oldI old _ rfl (by omega) hSk hEk hold ho hlen_old rfl rfl
            exact ⟨_, 0, 0, v', w', R', rfl, h1, h2, h3, h4⟩
          | sliceGr _ _ _ c e' _ he hl hcU k1 k2 =>
            obtain rfl : size = e' := by omega
            by_cases hlc : len + m ≤ c
            · obtain ⟨w', R', h1, h2, h3, h4⟩ := sim_extend (P := P) hS hd hg hq4 hone hrel hq5 k1 k2 hlc hcU hfi hlen_old hoc
              refine ⟨_, len, c, .slice (some ⟨R.blk b, R.base b + o, none⟩) (len + m) c, w', R', rfl, ?_, h2, h3, h4⟩
              rw [contA_in hlc, hnew0]
              simp only [Result.andThen_ok, add_lit]
              rw [h1]
              rfl
            · obtain ⟨v', w', R', h1, h2, h3, h4⟩ := grow _ c oldI old _ rfl hlc hSk hEk hold ho hlen_old rfl rfl
              exact ⟨_, len, c, v', w', R', rfl, h1, h2, h3, h4⟩
  · cases h

end
end Go.Proofs.YtndndcdblfejnaaGreatRI
namespace Go.Proofs.YtndndcdblfejnaaGreatRI
set_option linter.unusedSimpArgs false
set_option linter.unusedVariables false
open Go

section
variable {P : Program} {n : Nat} {R : Ren} {H : IHeap} {w : World} {T : Env} {a : Act}

/-- What an acting operation has done. -/
def Acted (P : Program) (R : Ren) (H : IHeap) (w : World) (s : Sem Next) (v : Value) (H' : IHeap) : Prop :=
  ∃ v' w' R', (s.run P w = .ok (.value v') w' ∨ (s.run P w = .ok .skip w' ∧ v' = undef)) ∧ VR R' v v' ∧ Sim R' H' w' ∧ Ext R H w R' H' w'

theorem append_eq {tys : Array TypeId} {ty t u e : TypeId} {s' x' : Value} {size : Nat} {base : Option Addr} {sLen sCap m : Nat} {d : TypeDesc}
    (hty : tys = #[t, u]) (hu : P.underlying t = some (.slice e)) (hs : sizeT P e = some size) (hd : P.underlying u = some d) (hnz : ∀ k, d ≠ .int k) (hs' : s' = .slice base sLen sCap)
    (hlen : ∀ w, (Builtin.lenOf x').run P w = .ok m w) (w : World) :
    (Builtin.append_ tys ty #[s', x']).run P w = (contA e size false s' base sLen sCap m x' (Builtin.firstCells size m x')).run P w := by
  subst hty; subst hs'
  unfold Builtin.append_ contA
  simp only [List.getElem?_toArray, List.getElem?_cons_zero, List.getElem?_cons_succ, Sem.run_bind, run_under hu, Result.andThen_ok, run_sizeT hs, run_under hd]
  cases d <;> first | exact absurd rfl (hnz _) | skip
  all_goals
    simp only [Sem.run_pure, Result.andThen_ok]
    rw [if_neg (by decide)]
    simp only [Sem.run_bind, hlen, Result.andThen_ok]
    rfl

/-- The zeros that are appended. -/
def zerosApp (e : TypeId) (size m : Nat) (x : Value) : Sem (Array Value) :=
  if (!true) = true then Builtin.firstCells size m x
  else if m * size = 0 then pure #[]
  else do pure (Builtin.zeroCells (← zeroValue e).cells m)

theorem append_eqZ {tys : Array TypeId} {ty t u e : TypeId} {s' : Value} {size bytes : Nat} {base : Option Addr} {sLen sCap : Nat} {k kx : IntKind} {q : Int}
    (hty : tys = #[t, u]) (hu : P.underlying t = some (.slice e)) (hs : sizeT P e = some size) (hb : bytesT P e = some bytes) (hd : P.underlying u = some (.int k)) (hs' : s' = .slice base sLen sCap)
    (h0 : 0 ≤ q) (h1 : q ≤ 17592186044416) (h2 : q * bytes ≤ 17592186044416) (w : World) :
    (Builtin.append_ tys ty #[s', .int kx q]).run P w = (contA e size true s' base sLen sCap q.toNat (.int kx q) (zerosApp e size q.toNat (.int kx q))).run P w := by
  subst hty; subst hs'
  obtain ⟨i, hi, hib⟩ : ∃ i, P.info? e = some i ∧ i.bytes = bytes := by
    unfold bytesT at hb
    cases hi : P.info? e with
    | none => simp [hi] at hb
    | some i => simp [hi] at hb; exact ⟨i, rfl, hb⟩
  have hwl : IntKind.i64.wrap q = q := by simp [IntKind.wrap, IntKind.bits, IntKind.signed]; omega
  unfold Builtin.append_ contA
  simp only [List.getElem?_toArray, List.getElem?_cons_zero, List.getElem?_cons_succ, Sem.run_bind, run_under hu, Result.andThen_ok, run_sizeT hs, run_under hd]
  simp only [asInt, asIntOf, pure_bind, hwl, Sem.run_pure, Result.andThen_ok, if_true]
  rw [if_neg (by omega)]
  simp only [Sem.run_bind, run_typeInfo hi, Result.andThen_ok, hib]
  rw [if_neg (by omega)]
  rfl

theorem run_builtin {dst : Option Tmp} {b : Builtin} {args : Array Operand} {tys : Array TypeId} {ty : TypeId} {pos : String} {after : Array Edge} {g : Option (Nat × Bool)} {x : Sem Value} {v' : Value} {w' : World}
    (hb : ∀ cs, builtin b tys ty cs (args.map a.eval) = (do pure (.value (← x)))) (hx : x.run P w = .ok v' w') :
    (execOp a.eval ⟨dst, .call ⟨.builtin b, args, tys⟩, ty, pos, after, g⟩).run P w = .ok (.value v') w' := by
  show (builtin b tys ty _ (args.map a.eval)).run P w = _
  rw [hb]
  simp [hx]

theorem lenOf_rel {s s' : Value} {m : Nat} (hv : VR R s s') (h : lenOfI s = some m) (w : World) : (Builtin.lenOf s').run P w = .ok m w := by
  unfold lenOfI at h
  split at h
  · injection h with h; subst h
    obtain ⟨x', c', rfl⟩ := hv.slice_len
    rfl
  · cases h

theorem sim_setMap {r cl cl2 : Nat} {es es2 : List MapEntry} {es' es2' : Array MapEntry} (hS : Sim R H w) (hd : R.dom r) (hg : H.get r = some (.map es cl)) (hw : w.heap[R.blk r]? = some (.map es' cl))
    (h2 : ERels R es2 es2'.toList) (P : Program) : ∃ w', (setObj (R.blk r) (.map es2' cl2)).run P w = .ok () w' ∧ Sim R (H.set r (.map es2 cl2)) w' ∧ Ext R H w R (H.set r (.map es2 cl2)) w' := by
  have hlt : R.blk r < w.heap.size := (Array.getElem?_eq_some_iff.1 hw).1
  refine ⟨{ w with heap := w.heap.setIfInBounds (R.blk r) (.map es2' cl2) }, by simp [setObj, Sem.run, hw], ?_⟩
  refine sim_set hS hd hg (by unfold live; rw [hg]; trivial) (by unfold liveRW; rw [hg]; trivial) ⟨by simp, fun j hj => ?_, rfl, rfl, rfl⟩ ⟨es2', by simp [hlt], h2⟩ (by simp)
  have : R.blk r ≠ j := fun e => hj e.symm
  simp [Array.getElem?_setIfInBounds_ne this]

theorem sim_builtin_ac {dst : Option Tmp} {b : Builtin} {args : Array Operand} {tys : Array TypeId} {ty : TypeId} {pos : String} {after : Array Edge} {g : Option (Nat × Bool)} {io : IOp} {v : Value} {H' : IHeap}
    (hS : Sim R H w) (hT : TRel n R T a.tmps) (hok : okOs (Op.call ⟨.builtin b, args, tys⟩).operands.toList = true)
    (hc : compBuiltin P (.call ⟨.builtin b, args, tys⟩) ty b tys.toList args.toList = some io) (h : iact P T H io = some (v, H')) :
    Acted P R H w (execOp a.eval ⟨dst, .call ⟨.builtin b, args, tys⟩, ty, pos, after, g⟩) v H' := by
  unfold compBuiltin at hc
  split at hc
  · exfalso
    split at hc <;> first | (injection hc with hc; subst hc; cases h) | (split at hc <;> first | (injection hc with hc; subst hc; cases h) | cases hc)
  · exfalso
    split at hc <;> first | (injection hc with hc; subst hc; cases h) | cases hc
  · -- append
    rename_i t u s x hty hxs
    have hty' := arr2 hty
    have hxs' := arr2 hxs
    subst hty'; subst hxs'
    have hrs := ev_rel hT (okOs_mem hok (x := s) (by simp [Op.operands, Call.operands]))
    have hrx := ev_rel hT (okOs_mem hok (x := x) (by simp [Op.operands, Call.operands]))
    split at hc
    case h_2 => cases hc
    rename_i e hu
    split at hc
    · rename_i e2 size bytes z hu2 hs hb hz
      split at hc
      case isFalse => cases hc
      rename_i hzs
      injection hc with hc; subst hc
      simp only [iact] at h
      split at h
      case h_2 => cases h
      rename_i m hm
      cases hf : firstI H size m (ev T x) with
      | none => rw [hf] at h; simp at h
      | some news =>
        rw [hf] at h
        simp only [Option.bind_some] at h
        obtain ⟨new, hnew, hrel⟩ := first_rel (P := P) hS hrx (fun q hq => by rw [hm] at hq; injection hq with hq; omega) hf
        obtain ⟨base, sLen, sCap, v', w', R', h1, h2, h3, h4, h5⟩ := sim_append (zeros := false) (x := a.eval x) hS hrs hb hz hzs h hnew hrel
        refine ⟨v', w', R', .inl (run_builtin (fun cs => rfl) ?_), h3, h4, h5⟩
        have := append_eq (ty := ty) (x' := a.eval x) rfl hu hs hu2 (by simp) h1 (fun w => lenOf_rel hrx hm w) w
        simp only [List.map_toArray, List.map_cons, List.map_nil]
        rw [this]
        exact h2
    · rename_i z hu2 hs hb hz
      split at hc
      case isFalse => cases hc
      rename_i hzs
      injection hc with hc; subst hc
      simp only [iact] at h
      split at h
      case h_2 => cases h
      rename_i tx hx
      rw [hx] at hrx
      have hxv := hrx.string_inv
      have hnew : ∀ d, (Builtin.firstCells 1 tx.size (a.eval x)).run P { w with drawn := d } = .ok (tx.data.map fun b => Value.int .u8 b.toNat) { w with drawn := d } := by
        intro d
        rw [hxv]
        simp only [Builtin.firstCells]
        have : tx.extract 0 tx.size = tx := by simp
        rw [this]
        rfl
      obtain ⟨base, sLen, sCap, v', w', R', h1, h2, h3, h4, h5⟩ := sim_append (zeros := false) (x := a.eval x) (new := tx.data.map fun b => Value.int .u8 b.toNat) hS hrs hb hz hzs h hnew
        (by rw [Array.toList_map]; exact VRs.refl_of _ fun y hy => by obtain ⟨q, _, rfl⟩ := List.mem_map.1 hy; exact .int _ _)
      refine ⟨v', w', R', .inl (run_builtin (fun cs => rfl) ?_), h3, h4, h5⟩
      have := append_eq (ty := ty) (x' := a.eval x) (m := tx.size) rfl hu hs hu2 (by simp) h1 (fun w => by rw [hxv]; rfl) w
      simp only [List.map_toArray, List.map_cons, List.map_nil]
      rw [this]
      exact h2
    · rename_i k size bytes z hu2 hs hb hz
      split at hc
      case isFalse => cases hc
      rename_i hzs
      injection hc with hc; subst hc
      simp only [iact] at h
      split at h
      case h_2 => cases h
      rename_i kx q hx
      rw [hx] at hrx
      have hxv := hrx.int_inv
      split at h
      case isFalse => cases h
      rename_i hq
      have hzl : z.cells.toList.length = size := by simpa using hzs
      rw [hzl] at h
      have hzr := fun w => (run_zeroT (P := P) hz w)
      have hnew : ∀ d, (zerosApp e size q.toNat (.int kx q)).run P { w with drawn := d } = .ok (Builtin.zeroCells z.cells q.toNat) { w with drawn := d } := by
        intro d
        unfold zerosApp
        rw [if_neg (by decide)]
        by_cases h0 : q.toNat * size = 0
        · rw [if_pos h0]
          have : Builtin.zeroCells z.cells q.toNat = #[] := by apply Array.eq_empty_of_size_eq_zero; rw [zeroCells_size, hzs]; exact h0
          rw [this]
          rfl
        · rw [if_neg h0]
          simp only [Sem.run_bind, (hzr _).1, Result.andThen_ok, Sem.run_pure]
      obtain ⟨base, sLen, sCap, v', w', R', h1, h2, h3, h4, h5⟩ := sim_append (zeros := true) (x := .int kx q) (app := zerosApp e size q.toNat (.int kx q)) hS hrs hb hz hzs h hnew (by simpa using zeroCells_rel R (hzr w).2 q.toNat)
      refine ⟨v', w', R', .inl (run_builtin (fun cs => rfl) ?_), h3, h4, h5⟩
      have := append_eqZ (ty := ty) (kx := kx) (q := q) rfl hu hs hb hu2 h1 hq.1 hq.2.2 hq.2.1 w
      simp only [List.map_toArray, List.map_cons, List.map_nil, hxv]
      rw [this]
      exact h2
    · cases hc
  · -- copy
    rename_i t u d s hty hxs
    have hty' := arr2 hty
    have hxs' := arr2 hxs
    subst hty'; subst hxs'
    have hrd := ev_rel hT (okOs_mem hok (x := d) (by simp [Op.operands, Call.operands]))
    have hrs := ev_rel hT (okOs_mem hok (x := s) (by simp [Op.operands, Call.operands]))
    split at hc
    case h_2 => cases hc
    rename_i e e2 hu hu2
    cases hsz : sizeT P e with
    | none => simp [hsz] at hc
    | some size =>
      simp only [hsz, Option.map_some, Option.some.injEq] at hc
      subst hc
      simp only [iact] at h
      split at h
      case h_2 => cases h
      rename_i ad dl cp sl hd hl
      rw [hd] at hrd
      cases hf : firstI H size (Nat.min sl dl) (ev T s) with
      | none => rw [hf] at h; simp at h
      | some cs =>
        rw [hf] at h
        simp only [Option.bind_some] at h
        obtain ⟨new, hnew0, hrel⟩ := first_rel (P := P) hS hrs (fun q hq => by rw [hl] at hq; injection hq with hq; subst hq; exact Nat.min_le_left _ _) hf
        have hnew := hnew0 w.drawn
        have hrun : ∀ (base : Option Addr) (c' : Nat), a.eval d = .slice base dl c' → ∀ w', ((match base with | some a => storeCells a new.toList | none => pure () : Sem Unit).run P w = .ok () w') →
            (execOp a.eval ⟨dst, .call ⟨.builtin .copy, #[d, s], #[t, u]⟩, ty, pos, after, g⟩).run P w = .ok (.value (.int .i64 (Nat.min sl dl : Nat))) w' := by
          intro base c' hb w' hst
          refine run_builtin (fun cs => rfl) ?_
          simp only [List.map_toArray, List.map_cons, List.map_nil, Builtin.copy_, List.getElem?_toArray, List.getElem?_cons_zero, List.getElem?_cons_succ, Sem.run_bind, run_under hu, Result.andThen_ok, hb, lenOf_rel hrs hl, run_sizeT hsz]
          have hnw : (Builtin.firstCells size (Nat.min sl dl) (a.eval s)).run P w = .ok new w := hnew
          rw [hnw]
          simp only [Result.andThen_ok]
          cases base with
          | none => simp at hst; subst hst; rfl
          | some x =>
            simp only [Sem.run_bind]
            rw [hst]
            rfl
        split at h
        · rename_i h0
          simp only [Option.some.injEq, Prod.mk.injEq] at h
          obtain ⟨rfl, rfl⟩ := h
          have hne : new = #[] := by
            apply Array.eq_empty_of_size_eq_zero
            have := hrel.length
            rw [h0] at this; simpa using this.symm
          obtain ⟨base, c', hb⟩ := hrd.slice_len
          refine ⟨_, w, R, .inl (hrun base c' hb w ?_), .int _ _, hS, Ext.refl _ _ _⟩
          subst hne
          cases base <;> rfl
        · rename_i h0
          split at h
          case h_2 => cases h
          rename_i b o
          cases hst : H.storeL b o cs with
          | none => rw [hst] at h; simp at h
          | some H1 =>
            rw [hst] at h
            simp only [Option.map_some, Option.some.injEq, Prod.mk.injEq] at h
            obtain ⟨rfl, rfl⟩ := h
            obtain ⟨hdd, _, hcase⟩ := hrd.slice_some
            obtain ⟨w', k1, k2, k3⟩ := hS.storeL hdd hst hrel P
            rcases hcase with ⟨c', hb⟩ | ⟨hl0, a', hb⟩
            · exact ⟨_, w', R, .inl (hrun _ c' hb w' k1), .int _ _, k2, k3⟩
            · exfalso
              subst hl0
              apply h0
              have : cs.length = Nat.min sl 0 * size := by
                unfold firstI at hf
                split at hf
                · injection hf with hf; subst hf; simp
                · split at hf
                  · injection hf with hf; subst hf; simp
                  · rename_i hn; exact absurd (by simp) hn
                · cases hf
              rw [this]; simp
  · -- clear
    rename_i t x hty hxs
    have hty' := arr1 hty
    have hxs' := arr1 hxs
    subst hty'; subst hxs'
    have hrx := ev_rel hT (okOs_mem hok (x := x) (by simp [Op.operands, Call.operands]))
    split at hc
    case h_2 => cases hc
    rename_i e hu
    cases hz : zeroT P e with
    | none => simp [hz] at hc
    | some z =>
      simp only [hz, Option.bind_some] at hc
      split at hc
      case isFalse => cases hc
      rename_i hzn
      injection hc with hc; subst hc
      simp only [iact] at h
      have hzr := run_zeroT hz w
      split at h
      · rename_i ln cp hx
        rw [hx] at hrx
        simp only [Option.some.injEq, Prod.mk.injEq] at h
        obtain ⟨rfl, rfl⟩ := h
        obtain ⟨hv, _, _⟩ := hrx.slice_nil
        refine ⟨.tuple #[], w, R, .inl (run_builtin (fun cs => rfl) ?_), .tuple _ _ .nil, hS, Ext.refl _ _ _⟩
        simp [Builtin.clear_, run_under hu, hv]
      · rename_i b o ln cp hx
        rw [hx] at hrx
        obtain ⟨hdd, _, hcase⟩ := hrx.slice_some
        split at h
        · rename_i h0
          subst h0
          simp only [Option.some.injEq, Prod.mk.injEq] at h
          obtain ⟨rfl, rfl⟩ := h
          obtain ⟨base, c', hv⟩ := hrx.slice_len
          refine ⟨.tuple #[], w, R, .inl (run_builtin (fun cs => rfl) ?_), .tuple _ _ .nil, hS, Ext.refl _ _ _⟩
          cases base <;> simp [Builtin.clear_, run_under hu, hv]
        · rename_i h0
          cases hst : H.storeL b o (Builtin.zeroCells z.cells.toList.toArray ln).toList with
          | none => rw [hst] at h; simp at h
          | some H1 =>
            rw [hst] at h
            simp only [Option.map_some, Option.some.injEq, Prod.mk.injEq] at h
            obtain ⟨rfl, rfl⟩ := h
            obtain ⟨w', k1, k2, k3⟩ := hS.storeL hdd hst (zeroCells_rel R hzr.2 ln) P
            rcases hcase with ⟨c', hv⟩ | ⟨hl0, _⟩
            · refine ⟨.tuple #[], w', R, .inl (run_builtin (fun cs => rfl) ?_), .tuple _ _ .nil, k2, k3⟩
              simp only [List.map_toArray, List.map_cons, List.map_nil, Builtin.clear_, List.getElem?_toArray, List.getElem?_cons_zero, Sem.run_bind, run_under hu, Result.andThen_ok, hv]
              cases ln with
              | zero => exact absurd rfl h0
              | succ m =>
                simp only [Sem.run_bind, hzr.1, Result.andThen_ok]
                have k1' : (storeCells ⟨R.blk b, R.base b + o, none⟩ (Builtin.zeroCells z.cells (m + 1)).toList).run P w = .ok () w' := by simpa using k1
                rw [k1']
                rfl
            · exact absurd hl0 h0
      · cases h
  · -- delete
    rename_i t t2 m k hty hxs
    have hty' := arr2 hty
    have hxs' := arr2 hxs
    subst hty'; subst hxs'
    have hrm := ev_rel hT (okOs_mem hok (x := m) (by simp [Op.operands, Call.operands]))
    have hrk := ev_rel hT (okOs_mem hok (x := k) (by simp [Op.operands, Call.operands]))
    split at hc
    case h_2 => cases hc
    rename_i kt e hu
    injection hc with hc; subst hc
    simp only [iact] at h
    split at h
    case h_2 => cases h
    rename_i r hm
    rw [hm] at hrm
    split at h
    case h_2 => cases h
    rename_i es cl hg
    split at h
    case isFalse => cases h
    rename_i hko
    obtain ⟨hk1, hk2, hk3, hk4, d, hd⟩ := keyOk_spec hko
    have hkk : a.eval k = ev T k := hrk.scal_eq hk1
    obtain ⟨hmv, hdr⟩ : a.eval m = .map (some (R.blk r)) ∧ R.dom r := by
      cases hq : a.eval m <;> rw [hq] at hrm <;> cases hrm
      exact ⟨rfl, by assumption⟩
    have ho := hS.obj r hdr
    rw [hg] at ho
    obtain ⟨es', hw, hrel⟩ := ho
    have hset : ∀ es2 (es2' : Array MapEntry), ERels R es2 es2'.toList → ∃ w', (setObj (R.blk r) (.map es2' cl)).run P w = .ok () w' ∧ Sim R (H.set r (.map es2 cl)) w' ∧ Ext R H w R (H.set r (.map es2 cl)) w' :=
      fun es2 es2' h2 => sim_setMap hS hdr hg hw h2 P
    split at h
    · rename_i i hfi
      simp only [Option.some.injEq, Prod.mk.injEq] at h
      obtain ⟨rfl, rfl⟩ := h
      obtain ⟨h1, h2⟩ := find_rel (P := P) (w := w) hd hrel hk2 hfi
      have hi := h2 i rfl
      have hi' : i < es'.size := by simpa using hi
      obtain ⟨w', k1, k2, k3⟩ := hset (es.eraseIdx i) (es'.eraseIdxIfInBounds i) (by
        have := ERels.erase hrel i
        rw [Array.eraseIdxIfInBounds, dif_pos hi', Array.toList_eraseIdx]
        exact this)
      refine ⟨.tuple #[], w', R, .inl (run_builtin (fun cs => rfl) ?_), .tuple _ _ .nil, k2, k3⟩
      simp only [List.map_toArray, List.map_cons, List.map_nil, Builtin.delete_, List.getElem?_toArray, List.getElem?_cons_zero, List.getElem?_cons_succ, Sem.run_bind, run_under hu, Result.andThen_ok, hmv, hkk, run_getMap P hw]
      rw [hrel.isEmpty, hk3]
      simp only [Result.andThen_ok]
      rw [h1]
      have hge : es'.toList[i]? = some es'[i] := by simp [hi']
      simp only [Option.bind_some, hge, Option.map_some, Result.andThen_ok, Sem.run_bind, k1, Sem.run_pure]
    · rename_i hfi
      simp only [Option.some.injEq, Prod.mk.injEq] at h
      obtain ⟨rfl, rfl⟩ := h
      obtain ⟨h1, h2⟩ := find_rel (P := P) (w := w) hd hrel hk2 hfi
      obtain ⟨w', k1, k2, k3⟩ := hset es es' hrel
      refine ⟨.tuple #[], w', R, .inl (run_builtin (fun cs => rfl) ?_), .tuple _ _ .nil, k2, k3⟩
      simp only [List.map_toArray, List.map_cons, List.map_nil, Builtin.delete_, List.getElem?_toArray, List.getElem?_cons_zero, List.getElem?_cons_succ, Sem.run_bind, run_under hu, Result.andThen_ok, hmv, hkk, run_getMap P hw]
      rw [hrel.isEmpty, hk3]
      simp only [Result.andThen_ok]
      rw [h1]
      simp only [Option.bind_none, Result.andThen_ok, Sem.run_bind, k1, Sem.run_pure]
    · cases h
  all_goals first | (injection hc with hc; subst hc; cases h) | cases hc

theorem sim_mapUpdate {t kt e : TypeId} {m k x : Operand} {v : Value} {H' : IHeap} (hS : Sim R H w) (hT : TRel n R T a.tmps) (hu : P.underlying t = some (.map kt e))
    (hom : okO m = true) (hok : okO k = true) (hox : okO x = true) (h : iact P T H (.mapUpdate kt m k x) = some (v, H')) :
    ∃ w', (Instr.mapUpdate t (a.eval m) (a.eval k) (a.eval x)).run P w = .ok () w' ∧ v = undef ∧ Sim R H' w' ∧ Ext R H w R H' w' := by
  have hrm := ev_rel hT hom
  have hrk := ev_rel hT hok
  have hrx := ev_rel hT hox
  simp only [iact] at h
  split at h
  case h_2 => cases h
  rename_i r hm
  rw [hm] at hrm
  split at h
  case h_2 => cases h
  rename_i es cl hg
  split at h
  case isFalse => cases h
  rename_i hko
  obtain ⟨hk1, hk2, hk3, hk4, d, hd⟩ := keyOk_spec hko
  have hkk : a.eval k = ev T k := hrk.scal_eq hk1
  obtain ⟨hmv, hdr⟩ : a.eval m = .map (some (R.blk r)) ∧ R.dom r := by
    cases hq : a.eval m <;> rw [hq] at hrm <;> cases hrm
    exact ⟨rfl, by assumption⟩
  have ho := hS.obj r hdr
  rw [hg] at ho
  obtain ⟨es', hw, hrel⟩ := ho
  split at h
  · rename_i i hfi
    split at h
    case isFalse => cases h
    rename_i hsb
    simp only [Option.some.injEq, Prod.mk.injEq] at h
    obtain ⟨rfl, rfl⟩ := h
    obtain ⟨h1, h2⟩ := find_rel (P := P) (w := w) hd hrel hk2 hfi
    have hi := h2 i rfl
    have hi' : i < es'.size := by simpa using hi
    have hie : i < es.length := by rw [hrel.length]; exact hi
    obtain ⟨w', k1, k2, k3⟩ := sim_setMap (es2 := es.modify i fun e => { e with key := ev T k, val := ev T x }) (es2' := es'.modify i fun e => { e with key := ev T k, val := a.eval x }) (cl2 := cl) hS hdr hg hw (by
      rw [Array.toList_modify]
      exact ERels.modify (f := fun e => { e with key := ev T k, val := ev T x }) (f' := fun e => { e with key := ev T k, val := a.eval x }) (fun e e' he => ⟨VR.of_scal R hk1, hrx, he.born⟩) hrel i) P
    refine ⟨w', ?_, rfl, k2, k3⟩
    have hge : es'.toList[i]? = some es'[i] := by simp [hi']
    have hke : (((es'[i]?).map (·.key)).getD (ev T k)) = (((es[i]?).map (·.key)).getD (ev T k)) := by
      obtain ⟨e2, he2, her⟩ := hrel.get i es[i] (by simp [hie])
      have h3 : es'[i]? = some e2 := by simpa using he2
      rw [h3]
      simp only [Option.map_some, Option.getD_some]
      rw [show es[i]? = some es[i] by simp [hie]]
      simp only [Option.map_some, Option.getD_some]
      exact her.key.scal_eq (hk2 _ (List.getElem_mem hie))
    simp only [Instr.mapUpdate, Sem.run_bind, run_under hu, Result.andThen_ok, hmv, hkk, run_getMap P hw]
    rw [hk4]
    simp only [Result.andThen_ok]
    rw [h1]
    simp only [Option.bind_some, hge, Option.map_some, Result.andThen_ok, Sem.run_bind, Instr.keyThatStays, hke, hsb, if_true, Sem.run_pure]
    exact k1
  · rename_i hfi
    simp only [Option.some.injEq, Prod.mk.injEq] at h
    obtain ⟨rfl, rfl⟩ := h
    obtain ⟨h1, h2⟩ := find_rel (P := P) (w := w) hd hrel hk2 hfi
    obtain ⟨w', k1, k2, k3⟩ := sim_setMap (es2 := es ++ [{ key := ev T k, val := ev T x, born := cl }]) (es2' := es'.push { key := ev T k, val := a.eval x, born := cl }) (cl2 := cl + 1) hS hdr hg hw (by
      rw [Array.toList_push]
      exact ERels.append (.cons (e := { key := ev T k, val := ev T x, born := cl }) (e' := { key := ev T k, val := a.eval x, born := cl }) ⟨VR.of_scal R hk1, hrx, rfl⟩ .nil) hrel) P
    refine ⟨w', ?_, rfl, k2, k3⟩
    simp only [Instr.mapUpdate, Sem.run_bind, run_under hu, Result.andThen_ok, hmv, hkk, run_getMap P hw]
    rw [hk4]
    simp only [Result.andThen_ok]
    rw [h1]
    simp only [Option.bind_none, Result.andThen_ok]
    exact k1
  · cases h

theorem sim_ac {o : Oper} {io : IOp} {v : Value} {H' : IHeap} (hS : Sim R H w) (hT : TRel n R T a.tmps) (hc : compOp P o = some io) (h : iact P T H io = some (v, H')) : Acted P R H w (execOp a.eval o) v H' := by
  unfold compOp at hc
  split at hc
  · cases hc
  rename_i hok
  have hok : okOs o.op.operands.toList = true := by cases hq : okOs o.op.operands.toList with | true => rfl | false => exact absurd hq hok
  obtain ⟨dst, op, ty, pos, after, g⟩ := o
  simp only at hc hok
  cases op with
  | store t x y =>
    simp only [] at hc
    cases hsz : sizeT P t with
    | none => simp [hsz] at hc
    | some m =>
      simp only [hsz, Option.map_some, Option.some.injEq] at hc
      subst hc
      have hrx := ev_rel hT (okOs_mem hok (x := x) (by simp [Op.operands]))
      have hry := ev_rel hT (okOs_mem hok (x := y) (by simp [Op.operands]))
      simp only [iact] at h
      split at h
      · rename_i b o he
        rw [he] at hrx
        obtain ⟨hx, hd⟩ := hrx.ptr_inv
        split at h
        · rename_i hln
          cases hst : H.storeL b o (ev T y).cells.toList with
          | none => rw [hst] at h; simp at h
          | some H1 =>
            rw [hst] at h
            simp only [Option.map_some, Option.some.injEq, Prod.mk.injEq] at h
            obtain ⟨rfl, rfl⟩ := h
            obtain ⟨w', k1, k2, k3⟩ := hS.storeL hd hst hry.cells P
            refine ⟨undef, w', R, .inr ⟨?_, rfl⟩, VR.undef R, k2, k3⟩
            have hsz' : (a.eval y).cells.size = m := by have := hry.cells.length; simp only [Array.length_toList] at this hln; omega
            simp only [execOp, Instr.storeAt, hx, Instr.sureAddr, pure_bind, storeVar, Sem.run_bind, run_sizeT hsz, Result.andThen_ok, hsz']
            rw [if_neg (by simp)]
            rw [k1]
            rfl
        · cases h
      · cases h
  | mapUpdate t m k x =>
    simp only [] at hc
    split at hc
    · rename_i kt e hu
      injection hc with hc; subst hc
      obtain ⟨w', k1, rfl, k2, k3⟩ := sim_mapUpdate hS hT hu (okOs_mem hok (by simp [Op.operands])) (okOs_mem hok (by simp [Op.operands])) (okOs_mem hok (by simp [Op.operands])) h
      refine ⟨undef, w', R, .inr ⟨?_, rfl⟩, VR.undef R, k2, k3⟩
      simp only [execOp, Sem.run_bind, k1, Result.andThen_ok, Sem.run_pure]
    · cases hc
  | insert t m k x =>
    simp only [] at hc
    split at hc
    · rename_i kt e hu
      injection hc with hc; subst hc
      obtain ⟨w', k1, rfl, k2, k3⟩ := sim_mapUpdate hS hT hu (okOs_mem hok (by simp [Op.operands])) (okOs_mem hok (by simp [Op.operands])) (okOs_mem hok (by simp [Op.operands])) h
      refine ⟨undef, w', R, .inr ⟨?_, rfl⟩, VR.undef R, k2, k3⟩
      simp only [execOp, Sem.run_bind, k1, Result.andThen_ok, Sem.run_pure]
    · cases hc
  | call c =>
    simp only [] at hc
    split at hc
    · injection hc with hc; subst hc; cases h
    · injection hc with hc; subst hc; cases h
    · rename_i b hcb
      obtain ⟨callee, args, tys⟩ := c
      simp only at hcb
      subst hcb
      exact sim_builtin_ac hS hT hok hc h
    · cases hc
  | select cs b => simp at hc
  | move x => simp at hc; subst hc; cases h
  | assign x => simp at hc; subst hc; cases h
  | pick c x y => simp at hc; subst hc; cases h
  | alloc t => cases hz : zeroT P t <;> simp [hz] at hc; subst hc; cases h
  | box t x => simp at hc; subst hc; cases h
  | build t parts =>
    simp only [] at hc
    split at hc
    · rename_i z fs hz hu
      cases hp : placesT P fs.toList with
      | none => simp [hp] at hc
      | some pl =>
        cases hq : partsT (pl[·]?) parts.toList with
        | none => simp [hp, hq] at hc
        | some ps => simp [hp, hq] at hc; subst hc; cases h
    · rename_i z k e hz hu
      cases hsz : sizeT P e with
      | none => simp [hsz] at hc
      | some s =>
        cases hq : partsT (fun i => some (i * s, s)) parts.toList with
        | none => simp [hsz, hq] at hc
        | some ps => simp [hsz, hq] at hc; subst hc; cases h
    · cases hc
  | buildSlice t len parts =>
    simp only [] at hc
    split at hc
    · split at hc
      · split at hc
        · rename_i e hu _ _ s z hs hz hcond
          cases hq : partsT (fun i => some (i * s, s)) parts.toList with
          | none => simp [hq] at hc
          | some ps => simp [hq] at hc; subst hc; cases h
        · cases hc
      · cases hc
    · cases hc
  | load t x => simp only [] at hc; split at hc <;> simp at hc <;> subst hc <;> cases h
  | nilCheck x => simp at hc; subst hc; cases h
  | binOp bop t x y yt =>
    simp only [] at hc
    cases bop <;> simp only [Option.some.injEq] at hc <;> subst hc <;> first
      | cases h
      | (unfold compEq at h; split at h <;> (try split at h) <;> cases h)
  | convert s d x =>
    simp only [] at hc
    split at hc
    · split at hc <;> simp at hc; subst hc; cases h
    · split at hc <;> simp at hc; subst hc; cases h
    · simp at hc; subst hc; cases h
  | makeInterface t x => simp only [] at hc; split at hc <;> simp at hc; subst hc; cases h
  | makeFunc fn first captured => cases fn <;> simp at hc <;> subst hc <;> cases h
  | makeMap t r => cases r <;> simp at hc <;> subst hc <;> cases h
  | makeSlice t l c =>
    simp only [] at hc
    split at hc
    · split at hc
      · split at hc
        · injection hc with hc; subst hc; cases h
        · cases hc
      · cases hc
    · cases hc
  | slice t x lo hi mx =>
    simp only [] at hc
    split at hc
    · rename_i e hu
      cases hsz : sizeT P e with
      | none => simp [hsz] at hc
      | some s => simp only [hsz, Option.bind_some] at hc; split at hc <;> simp at hc; subst hc; cases h
    · rename_i k e hu
      cases hsz : sizeT P e with
      | none => simp [hsz] at hc
      | some s => simp only [hsz, Option.bind_some] at hc; split at hc <;> simp at hc; subst hc; cases h
    · simp at hc; subst hc; cases h
    · cases hc
  | fieldAddr t x i =>
    simp only [] at hc
    split at hc
    · split at hc
      · rename_i f hf
        cases hsz : sizeT P f.type with
        | none => simp [hsz] at hc
        | some s => simp only [hsz, Option.bind_some] at hc; split at hc <;> simp at hc; subst hc; cases h
      · cases hc
    · cases hc
  | field t x i =>
    simp only [] at hc
    split at hc
    · split at hc
      · split at hc <;> simp at hc <;> subst hc <;> cases h
      · cases hc
    · cases hc
  | indexAddr t x i =>
    simp only [] at hc
    split at hc
    · rename_i e hu; cases hsz : sizeT P e <;> simp [hsz] at hc; subst hc; cases h
    · rename_i k e hu
      split at hc
      · cases hsz : sizeT P e <;> simp [hsz] at hc; subst hc; cases h
      · cases hc
    · cases hc
  | index t x i =>
    simp only [] at hc
    split at hc
    · simp at hc; subst hc; cases h
    · split at hc <;> simp at hc <;> subst hc <;> cases h
    · cases hc
  | lookup t m k ok =>
    simp only [] at hc
    split at hc
    · rename_i kt e hu; cases hz : zeroT P e <;> simp [hz] at hc; subst hc; cases h
    · cases hc
  | typeAssert x xt t ok =>
    simp only [] at hc
    split at hc
    · cases hc
    · cases hz : zeroT P t <;> simp [hz] at hc; subst hc; cases h
    · cases hc
  | extract x i => simp at hc; subst hc; cases h
  | range t x =>
    simp only [] at hc
    split at hc
    · injection hc with hc; subst hc; cases h
    · cases hc
  | next x s =>
    cases s with
    | true => simp only [] at hc; cases hc
    | false => simp only [] at hc; injection hc with hc; subst hc; cases h
  | entry x => simp only [Option.some.injEq] at hc; subst hc; cases h
  | _ => simp at hc; subst hc; cases h

end
end Go.Proofs.YtndndcdblfejnaaGreatRI
namespace Go.Proofs.YtndndcdblfejnaaGreatRI
set_option linter.unusedSimpArgs false
set_option linter.unusedVariables false
open Go

/-- What holds when a call has ended. -/
def callPost (K : Value → IHeap → Prop) (R : Ren) (H : IHeap) (w : World) : Ending → World → Prop :=
  fun e w' => ∃ r r' R' H', e = .returned r' ∧ K r H' ∧ VR R' r r' ∧ Sim R' H' w' ∧ Ext R H w R' H' w'

/-- What a call does in the model: of a function with a text, and of one that has none. -/
def Called (P : Program) (f : FuncId) (args : List Value) (H : IHeap) (K : Value → IHeap → Prop) : Prop :=
  ((∀ (as : Array Value) w, (callFunc f as).run P w = .ok (.enter f as) w) ∧
    ∀ R w (args' : Array Value), Sim R H w → VRs R args args'.toList → Calls P f args' w (callPost K R H w)) ∨
  ((∀ fn, P.funcs[f]? = some fn → fn.body.isNone = true) ∧ ∀ R w (args' : Array Value), Sim R H w → VRs R args args'.toList →
    ∃ r' w', (callFunc f args').run P w = .ok (.value r') w' ∧ callPost K R H w (.returned r') w')
/-- What is known of calls is so in the model. -/
def CSim (P : Program) (C : CallT) : Prop := ∀ f args H K, C f args H K → Called P f args H K

theorem kind_not_ca {P : Program} {o : Oper} {io : IOp} (hop : ∀ c, o.op ≠ .call c) (hop2 : ∀ t x, o.op ≠ .range t x) (hop3 : ∀ t s, o.op ≠ .next t s) (hop4 : ∀ t, o.op ≠ .entry t) (hc : compOp P o = some io) (hk : io.kind = .ca) : False := by
  unfold compOp at hc
  split at hc
  · cases hc
  obtain ⟨dst, op, ty, pos, after, g⟩ := o
  simp only at hc hop hop2 hop3 hop4
  cases op with
  | call c => exact absurd rfl (hop c)
  | range t x => exact absurd rfl (hop2 t x)
  | next t s => exact absurd rfl (hop3 t s)
  | entry t => exact absurd rfl (hop4 t)
  | mapUpdate t m k x => simp only [] at hc; split at hc <;> simp at hc; subst hc; cases hk
  | insert t m k x => simp only [] at hc; split at hc <;> simp at hc; subst hc; cases hk
  | store t x y => simp only [] at hc; cases hsz : sizeT P t <;> simp [hsz] at hc; subst hc; cases hk
  | select cs b => simp at hc
  | move x => simp at hc; subst hc; cases hk
  | assign x => simp at hc; subst hc; cases hk
  | pick c x y => simp at hc; subst hc; cases hk
  | alloc t => cases hz : zeroT P t <;> simp [hz] at hc; subst hc; cases hk
  | box t x => simp at hc; subst hc; cases hk
  | build t parts =>
    simp only [] at hc
    split at hc
    · rename_i z fs hz hu
      cases hp : placesT P fs.toList with
      | none => simp [hp] at hc
      | some pl =>
        cases hq : partsT (pl[·]?) parts.toList with
        | none => simp [hp, hq] at hc
        | some ps => simp [hp, hq] at hc; subst hc; cases hk
    · rename_i z k e hz hu
      cases hsz : sizeT P e with
      | none => simp [hsz] at hc
      | some s =>
        cases hq : partsT (fun i => some (i * s, s)) parts.toList with
        | none => simp [hsz, hq] at hc
        | some ps => simp [hsz, hq] at hc; subst hc; cases hk
    · cases hc
  | buildSlice t len parts =>
    simp only [] at hc
    split at hc
    · split at hc
      · split at hc
        · rename_i e hu _ _ s z hs hz hcond
          cases hq : partsT (fun i => some (i * s, s)) parts.toList with
          | none => simp [hq] at hc
          | some ps => simp [hq] at hc; subst hc; cases hk
        · cases hc
      · cases hc
    · cases hc
  | load t x => simp only [] at hc; split at hc <;> simp at hc <;> subst hc <;> cases hk
  | nilCheck x => simp at hc; subst hc; cases hk
  | binOp bop t x y yt =>
    simp only [] at hc
    cases bop <;> simp only [Option.some.injEq] at hc <;> subst hc <;> first
      | cases hk
      | (unfold compEq at hk; split at hk <;> (try split at hk) <;> cases hk)
  | convert s d x =>
    simp only [] at hc
    split at hc
    · split at hc <;> simp at hc; subst hc; cases hk
    · split at hc <;> simp at hc; subst hc; cases hk
    · simp at hc; subst hc; cases hk
  | makeInterface t x => simp only [] at hc; split at hc <;> simp at hc; subst hc; cases hk
  | makeFunc fn first captured => cases fn <;> simp at hc <;> subst hc <;> cases hk
  | makeMap t r => cases r <;> simp at hc <;> subst hc <;> cases hk
  | makeSlice t l c =>
    simp only [] at hc
    split at hc
    · split at hc
      · split at hc
        · injection hc with hc; subst hc; cases hk
        · cases hc
      · cases hc
    · cases hc
  | slice t x lo hi mx =>
    simp only [] at hc
    split at hc
    · rename_i e hu
      cases hsz : sizeT P e with
      | none => simp [hsz] at hc
      | some s => simp only [hsz, Option.bind_some] at hc; split at hc <;> simp at hc; subst hc; cases hk
    · rename_i k e hu
      cases hsz : sizeT P e with
      | none => simp [hsz] at hc
      | some s => simp only [hsz, Option.bind_some] at hc; split at hc <;> simp at hc; subst hc; cases hk
    · simp at hc; subst hc; cases hk
    · cases hc
  | fieldAddr t x i =>
    simp only [] at hc
    split at hc
    · split at hc
      · rename_i f hf
        cases hsz : sizeT P f.type with
        | none => simp [hsz] at hc
        | some s => simp only [hsz, Option.bind_some] at hc; split at hc <;> simp at hc; subst hc; cases hk
      · cases hc
    · cases hc
  | field t x i =>
    simp only [] at hc
    split at hc
    · split at hc
      · split at hc <;> simp at hc <;> subst hc <;> cases hk
      · cases hc
    · cases hc
  | indexAddr t x i =>
    simp only [] at hc
    split at hc
    · rename_i e hu; cases hsz : sizeT P e <;> simp [hsz] at hc; subst hc; cases hk
    · rename_i k e hu
      split at hc
      · cases hsz : sizeT P e <;> simp [hsz] at hc; subst hc; cases hk
      · cases hc
    · cases hc
  | index t x i =>
    simp only [] at hc
    split at hc
    · simp at hc; subst hc; cases hk
    · split at hc <;> simp at hc <;> subst hc <;> cases hk
    · cases hc
  | lookup t m k ok =>
    simp only [] at hc
    split at hc
    · rename_i kt e hu; cases hz : zeroT P e <;> simp [hz] at hc; subst hc; cases hk
    · cases hc
  | typeAssert x xt t ok =>
    simp only [] at hc
    split at hc
    · cases hc
    · cases hz : zeroT P t <;> simp [hz] at hc; subst hc; cases hk
    · cases hc
  | extract x i => simp at hc; subst hc; cases hk
  | _ => simp at hc; subst hc; cases hk


section
variable {P : Program} {C : CallT} {n : Nat} {R : Ren} {H : IHeap} {w : World} {T : Env} {a : Act}

/-- A range over a map begins. -/
theorem sim_range {dst : Option Nat} {ty t : TypeId} {x : Operand} {pos : _} {after : _} {g : _} {kt e : TypeId} {K : Value → IHeap → Prop} {next : Act → World → Prop} {Q : Exit → Act → World → Prop} (hS : Sim R H w) (hT : TRel n R T a.tmps)
    (hok : okOs (Op.range t x).operands.toList = true) (hu : P.underlying t = some (.map kt e)) (h : rangeI H K (ev T x))
    (hn : ∀ v v' R' H' w', K v H' → VR R' v v' → Sim R' H' w' → Ext R H w R' H' w' → next (a.put dst v') w') : Oper.upon P ⟨dst, .range t x, ty, pos, after, g⟩ a next Q ((execOp a.eval ⟨dst, .range t x, ty, pos, after, g⟩).run P w) := by
  have hv := ev_rel hT (okOs_mem hok (x := x) (by simp [Op.operands]))
  have hnd : ¬ R.dom H.next := fun hd => Nat.lt_irrefl _ (hS.lt _ hd)
  have fin : ∀ (m m' : Option Nat) (cl : Nat), itRel R m m' → K (.pointer (some ⟨H.next, 0, none⟩)) (H.alloc (.iter m cl [] cl)) →
      (execOp a.eval ⟨dst, .range t x, ty, pos, after, g⟩).run P w = .ok (.value (.pointer (some ⟨w.heap.size, 0, none⟩))) { w with heap := w.heap.push (.mapIter m' cl #[] cl) } →
      Oper.upon P ⟨dst, .range t x, ty, pos, after, g⟩ a next Q ((execOp a.eval ⟨dst, .range t x, ty, pos, after, g⟩).run P w) := by
    intro m m' cl hm hK hrun
    rw [hrun]
    have hle : R.le (R.add H.next w.heap.size 0 0) := Ren.add_le hnd
    have hone : WOne w { w with heap := w.heap.push (.mapIter m' cl #[] cl) } := pushOne w _ _
    refine hn _ _ _ _ _ hK ?_ (sim_new (size := 0) (len := 0) (hS.alloc_far (.iter m cl [] cl)) (Nat.lt_succ_self _) hnd (alloc_get H _) hone (x := .mapIter m' cl #[] cl) (by simp) ⟨by simp [Ren.add], rfl, rfl, rfl, hm.mono hle⟩)
      (ext_new hS hle (fun b => Iff.rfl) (by simp [Ren.add]) hone)
    have := VR.ptr (R := R.add H.next w.heap.size 0 0) H.next 0 (.inr rfl)
    simpa [Ren.add] using this
  unfold rangeI at h
  split at h
  · rename_i hx
    rw [hx] at hv
    have hx' : a.eval x = .map none := hv.map_nil
    refine fin none none 0 trivial h ?_
    simp only [execOp, Instr.range, Sem.run_bind, run_under hu, hx', Result.andThen_ok, Sem.run_pure, run_newObj]
  · rename_i r hx
    rw [hx] at hv
    split at h
    · rename_i es cl hg
      obtain ⟨hx', hd⟩ := hv.map_some
      have ho := hS.obj r hd
      rw [hg] at ho
      obtain ⟨es', hw, _⟩ := ho
      refine fin (some r) (some (R.blk r)) cl ⟨hd, rfl⟩ h ?_
      simp only [execOp, Instr.range, Sem.run_bind, run_under hu, hx', Result.andThen_ok, run_getMap P hw, Sem.run_pure, run_newObj]
    · exact h.elim
  · exact h.elim

theorem run_mapNext (P : Program) (k : Nat) (hk : 0 < k) (w : World) : ∃ i d, i < k ∧ (choose (.mapNext k)).run P w = .ok i { w with drawn := d } := by
  by_cases h : k ≤ 1
  · refine ⟨0, w.drawn, hk, ?_⟩
    simp only [choose, Sem.run, Question.forced, h, decide_true, if_true]
  · refine ⟨(w.tape w.drawn (.mapNext k)) % k, w.drawn + 1, Nat.mod_lt _ hk, ?_⟩
    simp only [choose, Sem.run, Question.forced, h, decide_false, Bool.false_eq_true, if_false, Question.cut]

theorem ERels.mem {R : Ren} : ∀ {l l' : List MapEntry}, ERels R l l' → ∀ e' ∈ l', ∃ e ∈ l, ERel R e e'
  | _, _, .nil, _, h => by simp at h
  | _, _, .cons h1 h2, e', h => by
    rcases List.mem_cons.1 h with rfl | h
    · exact ⟨_, List.mem_cons_self, h1⟩
    · obtain ⟨e, h3, h4⟩ := ERels.mem h2 e' h
      exact ⟨e, List.mem_cons_of_mem _ h3, h4⟩
theorem ERels.mem' {R : Ren} : ∀ {l l' : List MapEntry}, ERels R l l' → ∀ e ∈ l, ∃ e' ∈ l', ERel R e e'
  | _, _, .nil, _, h => by simp at h
  | _, _, .cons h1 h2, e, h => by
    rcases List.mem_cons.1 h with rfl | h
    · exact ⟨_, List.mem_cons_self, h1⟩
    · obtain ⟨e', h3, h4⟩ := ERels.mem' h2 e h
      exact ⟨e', List.mem_cons_of_mem _ h3, h4⟩

theorem run_getIter (P : Program) {w : World} {r s l : Nat} {m : Option Nat} {sn : Array Nat} (h : w.heap[r]? = some (.mapIter m s sn l)) : (getObj r).run P w = .ok (.mapIter m s sn l) w := by
  simp [getObj, Sem.run, h]

/-- The model's step: what comes of it. -/
theorem run_next (P : Program) {w : World} {b m since last clock : Nat} {seen : Array Nat} {es : Array MapEntry} {ty : TypeId} (h1 : w.heap[b]? = some (.mapIter (some m) since seen last)) (h2 : w.heap[m]? = some (.map es clock))
    (hok : (!seen.isEmpty && !es.isEmpty && es.all (·.born ≥ last)) = false) :
    (∃ d, (∀ e ∈ es.toList, e.born ∉ seen.toList → since ≤ e.born) ∧ (Instr.next (.pointer (some ⟨b, 0, none⟩)) false ty).run P w = .ok (.tuple #[.bool false]) { w with drawn := d }) ∨
    (∃ d, ∃ e ∈ es.toList, e.born ∉ seen.toList ∧ (Instr.next (.pointer (some ⟨b, 0, none⟩)) false ty).run P w = .ok (.tuple #[.bool true, e.key, e.val]) { w with heap := w.heap.setIfInBounds b (.mapIter (some m) since (seen.push e.born) clock), drawn := d }) := by
  generalize hleft : (es.filter fun e => !seen.contains e.born) = left
  generalize hold : (left.filter (·.born < since)) = old
  generalize hnew : (left.filter (·.born ≥ since)) = new
  generalize hcand : ((if old.isEmpty then #[none] else #[]) ++ (old ++ new).map some : Array (Option MapEntry)) = cand
  have hpos : 0 < cand.size := by
    rw [← hcand]
    by_cases h : old.isEmpty = true
    · rw [if_pos h]; simp; omega
    · rw [if_neg h]
      have : 0 < old.size := by
        rcases Nat.eq_zero_or_pos old.size with h0 | h0
        · exact absurd (by simp [Array.isEmpty, h0]) h
        · exact h0
      simp; omega
  obtain ⟨i, d, hi, hch⟩ := run_mapNext P cand.size hpos w
  have hrun : ∀ v w', (match cand[i]? with
      | some (some e) => (do setObj b (.mapIter (some m) since (seen.push e.born) clock); pure (.tuple #[.bool true, e.key, e.val]) : Sem Value)
      | some none => pure (.tuple #[.bool false])
      | none => stuck "Next: no such candidate").run P { w with drawn := d } = .ok v w' → (Instr.next (.pointer (some ⟨b, 0, none⟩)) false ty).run P w = .ok v w' := by
    intro v w' hh
    unfold Instr.next
    simp only [Sem.run_bind, run_getIter P h1, Result.andThen_ok, run_getMap P h2, hok, Bool.false_eq_true, if_false, hleft, hold, hnew, hcand, hch, pure_bind]
    exact hh
  have hc : cand[i]? = some cand[i] := by simp [hi]
  cases hci : cand[i] with
  | none =>
    left
    refine ⟨d, ?_, hrun _ _ (by rw [hc, hci]; rfl)⟩
    have hmem : (none : Option MapEntry) ∈ cand := by rw [← hci]; exact Array.getElem_mem hi
    have hemp : old.isEmpty = true := by
      cases hb : old.isEmpty with
      | true => rfl
      | false => rw [← hcand, hb] at hmem; simp at hmem
    intro e he hns
    refine Classical.byContradiction fun hlt => ?_
    have : e ∈ old := by
      rw [← hold, ← hleft]
      simp only [Array.mem_filter]
      refine ⟨⟨by simpa using he, by simpa using hns⟩, by simp; omega⟩
    rw [Array.isEmpty_iff] at hemp
    rw [hemp] at this
    simp at this
  | some e =>
    right
    have hmem : some e ∈ cand := by rw [← hci]; exact Array.getElem_mem hi
    have hm2 : e ∈ left := by
      rw [← hcand] at hmem
      have : e ∈ old ∨ e ∈ new := by
        cases hb : old.isEmpty <;> rw [hb] at hmem <;> simpa using hmem
      rcases this with h | h
      · rw [← hold] at h; exact (Array.mem_filter.1 h).1
      · rw [← hnew] at h; exact (Array.mem_filter.1 h).1
    rw [← hleft] at hm2
    obtain ⟨hm3, hm4⟩ := Array.mem_filter.1 hm2
    refine ⟨d, e, by simpa using hm3, by simpa using hm4, hrun _ _ ?_⟩
    rw [hc, hci]
    simp only [Sem.run_bind, setObj, Sem.run, h1, Result.andThen_ok]
    rfl

/-- A range over a map goes on. -/
theorem sim_next {dst : Option Nat} {ty : TypeId} {x : Operand} {pos : _} {after : _} {g : _} {K : Value → IHeap → Prop} {next : Act → World → Prop} {Q : Exit → Act → World → Prop} (hS : Sim R H w) (hT : TRel n R T a.tmps)
    (hok : okOs (Op.next x false).operands.toList = true) (h : nextI2 H K (ev T x))
    (hn : ∀ v v' R' H' w', K v H' → VR R' v v' → Sim R' H' w' → Ext R H w R' H' w' → next (a.put dst v') w') : Oper.upon P ⟨dst, .next x false, ty, pos, after, g⟩ a next Q ((execOp a.eval ⟨dst, .next x false, ty, pos, after, g⟩).run P w) := by
  have hv := ev_rel hT (okOs_mem hok (x := x) (by simp [Op.operands]))
  have fin : ∀ v w', (Instr.next (a.eval x) false ty).run P w = .ok v w' → next (a.put dst v) w' → Oper.upon P ⟨dst, .next x false, ty, pos, after, g⟩ a next Q ((execOp a.eval ⟨dst, .next x false, ty, pos, after, g⟩).run P w) := by
    intro v w' h1 h2
    have : (execOp a.eval ⟨dst, .next x false, ty, pos, after, g⟩).run P w = .ok (.value v) w' := by
      simp only [execOp, Sem.run_bind, h1, Result.andThen_ok]
      rfl
    rw [this]
    exact h2
  unfold nextI2 at h
  split at h
  · rename_i r hx
    rw [hx] at hv
    obtain ⟨hx', hd⟩ := hv.ptr_inv
    have ho := hS.obj r hd
    split at h
    · rename_i s sn l hg
      rw [hg] at ho
      obtain ⟨h0, m', hw, hm⟩ := ho
      have hm' : m' = none := by cases m' with
        | none => rfl
        | some j => exact hm.elim
      subst hm'
      rw [h0, Nat.add_zero] at hx'
      refine fin (.tuple #[.bool false]) w ?_ (hn _ _ R H w h (.tuple _ _ (.cons (.bool _) .nil)) hS (Ext.refl _ _ _))
      rw [hx']
      unfold Instr.next
      simp only [Sem.run_bind, run_getIter P hw, Result.andThen_ok]
      rfl
    · rename_i m since seen last hg
      rw [hg] at ho
      obtain ⟨h0, m', hw, hm⟩ := ho
      obtain ⟨j, rfl⟩ : ∃ j, m' = some j := by cases m' with
        | none => exact hm.elim
        | some j => exact ⟨j, rfl⟩
      obtain ⟨hmd, rfl⟩ := hm
      rw [h0, Nat.add_zero] at hx'
      split at h
      · rename_i es clock hgm
        have hom := hS.obj m hmd
        rw [hgm] at hom
        obtain ⟨es', hwm, hes⟩ := hom
        obtain ⟨c1, c2, c3⟩ := h
        have hcond : (!seen.toArray.isEmpty && !es'.isEmpty && es'.all (·.born ≥ last)) = false := by
          rcases c1 with rfl | rfl | ⟨e, he, hlt⟩
          · rfl
          · have hl := hes.length
            have : es' = #[] := by
              apply Array.eq_empty_of_size_eq_zero
              simpa using hl.symm
            rw [this]; simp
          · obtain ⟨e', he', hr⟩ := hes.mem' e he
            have : es'.all (fun e => decide (e.born ≥ last)) = false := by
              rw [Bool.eq_false_iff]
              intro hall
              rw [Array.all_eq_true'] at hall
              have := hall e' (by simpa using he')
              simp only [decide_eq_true_eq] at this
              have := hr.born
              omega
            rw [this, Bool.and_false]
        rcases run_next P (ty := ty) hw hwm hcond with ⟨d, q1, q2⟩ | ⟨d, e', he', hns, q2⟩
        · refine fin _ _ (by rw [hx']; exact q2) (hn _ _ R H _ (c2 fun e he hn' => ?_) (.tuple _ _ (.cons (.bool _) .nil)) (hS.drawn d) ((Ext.refl R H { w with drawn := d }).drawn))
          obtain ⟨e', he', hr⟩ := hes.mem' e he
          have := q1 e' he' (by rw [hr.born]; simpa using hn')
          rw [hr.born] at this
          exact this
        · obtain ⟨e, he, hr⟩ := hes.mem e' he'
          have hns' : e.born ∉ seen := by rw [← hr.born]; simpa using hns
          have hlive : liveRW H r := by unfold liveRW; rw [hg]; trivial
          have hwat : WAt w { w with heap := w.heap.setIfInBounds (R.blk r) (.mapIter (some (R.blk m)) since (seen.toArray.push e'.born) clock), drawn := d } (R.blk r) :=
            ⟨by simp, fun j hj => by simp [Array.getElem?_setIfInBounds_ne (fun e => hj e.symm)], rfl, rfl, rfl⟩
          have hlt : R.blk r < w.heap.size := (Array.getElem?_eq_some_iff.1 hw).1
          obtain ⟨s1, s2⟩ := sim_set (x := .iter (some m) since (seen ++ [e.born]) clock) hS hd hg (live_of_liveRW hlive) hlive hwat ⟨h0, some (R.blk m), by simp [hlt, hr.born], hmd, rfl⟩ (by simp)
          exact fin _ _ (by rw [hx']; exact q2) (hn _ _ R _ _ (c3 e he hns') (.tuple _ _ (.cons (.bool _) (.cons hr.key (.cons hr.val .nil)))) s1 s2)
      · exact h.elim
    · exact h.elim
  · exact h.elim

theorem findB_rel {s : Nat} : ∀ {l l' : List MapEntry}, ERels R l l' → ∀ e, l.find? (fun e => e.born == s) = some e → ∃ e', l'.find? (fun e => e.born == s) = some e' ∧ ERel R e e'
  | _, _, .nil, e, h => by simp at h
  | _, _, .cons (e := a) (e' := b) h1 h2, e, h => by
    rw [List.find?_cons] at h ⊢
    rw [h1.born]
    cases hb : a.born == s with
    | true => rw [hb] at h; injection h with h; subst h; exact ⟨b, rfl, h1⟩
    | false => rw [hb] at h; exact findB_rel h2 e h

theorem sim_entry {dst : Option Nat} {ty : TypeId} {x : Operand} {pos : _} {after : _} {g : _} {K : Value → IHeap → Prop} {next : Act → World → Prop} {Q : Exit → Act → World → Prop} (hS : Sim R H w) (hT : TRel n R T a.tmps)
    (hok : okOs (Op.entry x).operands.toList = true) (h : entryI H K (ev T x))
    (hn : ∀ v v' R' H' w', K v H' → VR R' v v' → Sim R' H' w' → Ext R H w R' H' w' → next (a.put dst v') w') : Oper.upon P ⟨dst, .entry x, ty, pos, after, g⟩ a next Q ((execOp a.eval ⟨dst, .entry x, ty, pos, after, g⟩).run P w) := by
  have hv := ev_rel hT (okOs_mem hok (x := x) (by simp [Op.operands]))
  unfold entryI at h
  split at h
  · rename_i r hx
    rw [hx] at hv
    obtain ⟨hx', hd⟩ := hv.ptr_inv
    have ho := hS.obj r hd
    split at h
    · rename_i m since seen last hg
      rw [hg] at ho
      obtain ⟨h0, m', hw, hm⟩ := ho
      obtain ⟨j, rfl⟩ : ∃ j, m' = some j := by cases m' with
        | none => exact hm.elim
        | some j => exact ⟨j, rfl⟩
      obtain ⟨hmd, rfl⟩ := hm
      rw [h0, Nat.add_zero] at hx'
      split at h
      · rename_i es clock hgm
        have hom := hS.obj m hmd
        rw [hgm] at hom
        obtain ⟨es', hwm, hes⟩ := hom
        obtain ⟨rfl, pre, s, rfl, e, hf, hK⟩ := h
        obtain ⟨e', hf', hr⟩ := findB_rel hes e hf
        have hf2 : es'.find? (fun e => e.born == s) = some e' := by rw [← hf']; simp
        have hrun : (execOp a.eval ⟨dst, .entry x, ty, pos, after, g⟩).run P w = .ok (.value (.tuple #[e'.key, e'.val])) w := by
          have : (Instr.entry (a.eval x)).run P w = .ok (.tuple #[e'.key, e'.val]) w := by
            rw [hx']
            unfold Instr.entry
            have hb : (pre ++ [s]).toArray.back? = some s := by simp
            simp only [Sem.run_bind, run_getIter P hw, Result.andThen_ok, hb, run_getMap P hwm, bne_self_eq_false, Bool.false_eq_true, if_false, hf2]
            rfl
          simp only [execOp, Sem.run_bind, this, Result.andThen_ok]
          rfl
        rw [hrun]
        exact hn _ _ R H w hK (.tuple _ _ (.cons hr.key (.cons hr.val .nil))) hS (Ext.refl _ _ _)
      · exact h.elim
    · exact h.elim
  · exact h.elim

theorem sim_op {o : Oper} {io : IOp} {K : Value → IHeap → Prop} {next : Act → World → Prop} {Q : Exit → Act → World → Prop} (hC : CSim P C) (hS : Sim R H w) (hT : TRel n R T a.tmps)
    (hc : compOp P o = some io) (h : iop P C T H io K) (hn : ∀ v v' R' H' w', K v H' → VR R' v v' → Sim R' H' w' → Ext R H w R' H' w' → next (a.put o.dst v') w') : o.wp P a w next Q := by
  unfold Oper.wp
  unfold iop at h
  split at h
  · rename_i hk
    obtain ⟨v, h1, h2⟩ := h
    obtain ⟨v', h3, h4⟩ := sim_rd hS hT hc hk h1
    rw [h3]
    exact hn v v' R H w h2 h4 hS (Ext.refl _ _ _)
  · obtain ⟨⟨obj, mk⟩, h1, h2⟩ := h
    have hnd : ¬ R.dom H.next := fun hd => Nat.lt_irrefl _ (hS.lt _ hd)
    obtain ⟨v', w', R', hm⟩ := sim_al (hS.alloc_far obj) hT hc h1 (Nat.lt_succ_self _) hnd (alloc_get H obj)
    rw [hm.run]
    exact hn _ v' R' _ w' h2 hm.val hm.sim (ext_new hS hm.le hm.dom hm.blk hm.one)
  · obtain ⟨⟨v, H'⟩, h1, h2⟩ := h
    obtain ⟨v', w', R', h3, h4, h5, h6⟩ := sim_ac hS hT hc h1
    rcases h3 with h3 | ⟨h3, rfl⟩
    · rw [h3]; exact hn v v' R' H' w' h2 h4 h5 h6
    · rw [h3]; exact hn v undef R' H' w' h2 h4 h5 h6
  · rename_i hk
    -- a call
    have hc0 := hc
    unfold compOp at hc
    split at hc
    · cases hc
    rename_i hok
    have hok : okOs o.op.operands.toList = true := by cases hq : okOs o.op.operands.toList with | true => rfl | false => exact absurd hq hok
    obtain ⟨dst, op, ty, pos, after, g⟩ := o
    simp only at hc hok hn
    have fin : ∀ f (as : List Value) (as' : Array Value), C f as H K → VRs R as as'.toList → (execOp a.eval ⟨dst, op, ty, pos, after, g⟩).run P w = (callFunc f as').run P w →
        (⟨dst, op, ty, pos, after, g⟩ : Oper).upon P a next Q ((execOp a.eval ⟨dst, op, ty, pos, after, g⟩).run P w) := by
      intro f as as' hcf hvs hrun
      rcases hC f as H K hcf with ⟨h1, h2⟩ | ⟨_, h2⟩
      · rw [hrun, h1]
        refine (h2 R w as' hS hvs).mono fun e w'' he => ?_
        obtain ⟨r, r', R', H', rfl, k1, k2, k3, k4⟩ := he
        exact hn r r' R' H' w'' k1 k2 k3 k4
      · obtain ⟨v', w', h3, r, r', R', H', he, k1, k2, k3, k4⟩ := h2 R w as' hS hvs
        injection he with he
        subst he
        rw [hrun, h3]
        exact hn r _ R' H' w' k1 k2 k3 k4
    cases op with
    | call c =>
      obtain ⟨callee, args, tys⟩ := c
      simp only [] at hc
      split at hc
      · rename_i f _
        injection hc with hc; subst hc
        simp only [icall] at h
        refine fin f _ (args.map a.eval) h ?_ ?_
        · rw [Array.toList_map]
          exact evs_rel hT (by unfold okOs; exact List.all_eq_true.2 fun x hx => okOs_mem hok (by simp [Op.operands, Call.operands]; exact .inr (by simpa using hx)))
        · simp [execOp, resolve, Act.eval, Deferred.ofValue, invoke]
      · rename_i x hnf _
        injection hc with hc; subst hc
        simp only [icall] at h
        split at h
        · rename_i f first captured he
          have hrx := ev_rel hT (okOs_mem hok (x := x) (by simp [Op.operands, Call.operands]))
          rw [he] at hrx
          obtain ⟨b', c', hx, h1, h2⟩ := hrx.func_inv
          refine fin f _ (b' ++ args.map a.eval ++ c') h ?_ ?_
          · rw [Array.toList_append, Array.toList_append, Array.toList_map]
            exact VRs.append h2 (VRs.append (evs_rel hT (by unfold okOs; exact List.all_eq_true.2 fun y hy => okOs_mem hok (by simp [Op.operands, Call.operands]; exact .inr (by simpa using hy)))) h1)
          · simp [execOp, resolve, hx, Deferred.ofValue, invoke]
        · exact h.elim
      · exfalso
        unfold compBuiltin at hc
        have bad : ∀ {x : IOp}, (x = io) → x.kind ≠ .ca → False := fun e hne => hne (e ▸ hk)
        split at hc
        · split at hc <;> first | (injection hc with hc; exact bad hc (by simp [IOp.kind])) | (split at hc <;> first | (injection hc with hc; exact bad hc (by simp [IOp.kind])) | cases hc)
        · split at hc <;> first | (injection hc with hc; exact bad hc (by simp [IOp.kind])) | cases hc
        · split at hc
          · split at hc <;> first | cases hc | (split at hc <;> first | (injection hc with hc; exact bad hc (by simp [IOp.kind])) | cases hc)
          · cases hc
        · split at hc
          · rename_i e _ _ _; cases hq : sizeT P e <;> simp [hq] at hc; exact bad hc (by simp [IOp.kind])
          · cases hc
        · split at hc
          · rename_i e _
            cases hq : zeroT P e with
            | none => simp [hq] at hc
            | some z => simp only [hq, Option.bind_some] at hc; split at hc <;> simp at hc; exact bad hc (by simp [IOp.kind])
          · cases hc
        · split at hc <;> first | (injection hc with hc; exact bad hc (by simp [IOp.kind])) | cases hc
        all_goals first | (injection hc with hc; exact bad hc (by simp [IOp.kind])) | cases hc
      · cases hc
    | range t x =>
      simp only [] at hc
      split at hc
      · rename_i kt e hu
        injection hc with hc; subst hc
        exact sim_range hS hT hok hu h hn
      · cases hc
    | next x s =>
      cases s with
      | true => simp only [] at hc; cases hc
      | false =>
        simp only [] at hc
        injection hc with hc; subst hc
        exact sim_next hS hT hok h hn
    | entry x =>
      simp only [Option.some.injEq] at hc
      subst hc
      exact sim_entry hS hT hok h hn
    | _ => exact (kind_not_ca (by simp) (by simp) (by simp) (by simp) hc0 hk).elim

theorem wanted_rel {ops : Array Oper} {o : Oper} {g : Option (Nat × Bool)} (hT : TRel n R T a.tmps) (hg : compGuard ops o.guard = some g) (hd : ∀ d b, g = some (d, b) → d < n) :
    Region.wanted o (yielded ops a.tmps) = wantedI T g := by
  unfold Region.wanted
  cases hog : o.guard with
  | none =>
    rw [hog] at hg
    simp only [compGuard, Option.some.injEq] at hg
    subst hg
    rfl
  | some jw =>
    obtain ⟨j, want⟩ := jw
    rw [hog] at hg
    simp only [compGuard] at hg
    cases hj : (ops[j]?).bind (·.dst) with
    | none => rw [hj] at hg; simp at hg
    | some d =>
      rw [hj] at hg
      simp only [Option.some.injEq] at hg
      subst hg
      have hdn := hd d want rfl
      have hr := hT.get d
      have hlt : d < a.tmps.size := by rw [hT.size]; exact hdn
      have ht : a.tmps[d]? = some a.tmps[d] := by simp [hlt]
      have hr' : VR R (T d) a.tmps[d] := by simpa [hlt] using hr
      unfold yielded wantedI
      simp only [hj, Option.bind_some, ht]
      cases he : T d <;> rw [he] at hr' <;> (generalize a.tmps[d] = v' at hr' ⊢) <;> cases hr' <;> first | rfl | (rename_i _ hnb; revert hnb; cases v' <;> first | (intro _; rfl) | (intro hnb; exact absurd rfl (hnb _)))

theorem sim_ops (hC : CSim P C) {ops : Array Oper} {Q : Exit → Act → World → Prop} {K : Env → IHeap → Prop} : ∀ (os : List Oper) (xs : List IOper) (R : Ren) (H : IHeap) (T : Env) (a : Act) (w : World),
    compOpers P n ops os = some xs → iwpOps P C xs K T H → Sim R H w → TRel n R T a.tmps → a.defers = [] →
    (∀ T' H' R' a' w', K T' H' → Sim R' H' w' → TRel n R' T' a'.tmps → a'.defers = [] → Ext R H w R' H' w' → Q .normal a' w') → wpList P ops Q os a w
  | [], xs, R, H, T, a, w, hx, h, hS, hT, hd, hK => by
    simp only [compOpers, Option.some.injEq] at hx
    subst hx
    exact hK T H R a w h hS hT hd (Ext.refl _ _ _)
  | o :: os, xs, R, H, T, a, w, hx, h, hS, hT, hd, hK => by
    simp only [compOpers] at hx
    cases hxo : compOper P n ops o with
    | none => rw [hxo] at hx; simp at hx
    | some x =>
      cases hxs : compOpers P n ops os with
      | none => rw [hxo, hxs] at hx; simp at hx
      | some xs' =>
        rw [hxo, hxs] at hx
        simp only [Option.some.injEq] at hx
        subst hx
        unfold compOper at hxo
        split at hxo
        case h_2 => cases hxo
        rename_i io g hio hg
        split at hxo
        case isFalse => cases hxo
        rename_i hcond
        injection hxo with hxo
        subst hxo
        simp only [Bool.and_eq_true] at hcond
        have hdst : ∀ x, o.dst = some x → x < n := fun x hx => by have := hcond.1; rw [hx] at this; simpa [ltO] using this
        have hgd : ∀ d b, g = some (d, b) → d < n := fun d b hgb => by have := hcond.2; rw [hgb] at this; simpa [ltG] using this
        unfold wpList
        rw [wanted_rel hT hg hgd]
        simp only [iwpOps] at h
        cases hw : wantedI T g with
        | true =>
          rw [hw] at h
          simp only [if_true]
          refine .inl (sim_op hC hS hT hio h fun v v' R' H' w' k1 k2 k3 k4 => ?_)
          exact sim_ops hC os xs' R' H' _ _ w' hxs k1 k3 ((hT.mono k4.le).put hdst k2) (by rw [put_defers]; exact hd) fun T'' H'' R'' a'' w'' q1 q2 q3 q4 q5 => hK T'' H'' R'' a'' w'' q1 q2 q3 q4 (k4.trans q5)
        | false =>
          rw [hw] at h
          simp only [Bool.false_eq_true, if_false]
          exact sim_ops hC os xs' R H _ _ w hxs h hS (hT.put hdst (VR.undef R)) (by rw [put_defers]; exact hd) hK

end
end Go.Proofs.YtndndcdblfejnaaGreatRI
