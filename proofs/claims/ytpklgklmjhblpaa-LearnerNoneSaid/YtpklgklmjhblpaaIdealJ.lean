/- Appends, and the other operations that turn the heap. -/
import Derived.Test.YtpklgklmjhblpaaIdealI
namespace Go.Proofs.YtpklgklmjhblpaaI
set_option linter.unusedSimpArgs false
set_option linter.unusedVariables false
open Go

theorem growBy_le (m : Nat) : ∀ (k c : Nat), Builtin.growBy m k c ≤ max c (m + (m + 768) / 4)
  | 0, c => by simp only [Builtin.growBy]; omega
  | k + 1, c => by
    simp only [Builtin.growBy]
    split
    · omega
    · have := growBy_le m k (c + (c + 768) / 4)
      omega

theorem nextcap_le {m c : Nat} (h : c < m) : Builtin.nextslicecap m c ≤ 2 * m := by
  unfold Builtin.nextslicecap
  split
  · omega
  · split
    · omega
    · have := growBy_le m 4 c
      omega

/-- An append's second half. -/
def contA (e : TypeId) (size : Nat) (zeros : Bool) (s : Value) (base : Option Addr) (sLen sCap n : Nat) (x : Value) (appended : Sem (Array Value)) : Sem Value := do
  let need := sLen + n
  if need ≤ sCap then
    let new ← appended
    if let some a := base then storeCells (a.add (sLen * size)) new.toList
    pure (.slice base need sCap)
  else
    if (need : Int) > IntKind.i64.max ∧ (zeros ∨ (← typeInfo e).bytes = 0) then runtimePanic (.error "growslice: len out of range")
    if Builtin.nextslicecap need sCap * (← typeInfo e).bytes > 2 ^ 48 then (if zeros then runtimePanic (.error "growslice: len out of range") else do
      if !(← Builtin.mayShare size sLen n base x) then mark .noRoom
      unsupported (.resourceLimit "append: a slice or a string whose bytes no memory bears"))
    let newCap ← choose (.appendCap need sCap e)
    askRoom (newCap * (← typeInfo e).bytes)
    let old ← Builtin.firstCells size sLen s
    let new ← appended
    let rest := Builtin.zeroCells (← zeroValue e).cells (newCap - need)
    pure (.slice (some (← newRow e (old ++ new ++ rest))) need newCap)

section
variable {P : Program} {n : Nat} {R : Ren} {H : IHeap} {w : World} {T : Env} {a : Act}

theorem contA_in {e : TypeId} {size sLen sCap m : Nat} {zeros : Bool} {s x : Value} {base : Option Addr} {app : Sem (Array Value)} (h : sLen + m ≤ sCap) :
    (contA e size zeros s base sLen sCap m x app).run P w = ((app.run P w).andThen fun new w1 => ((match base with | some a => storeCells (a.add (sLen * size)) new.toList | none => pure () : Sem Unit).run P w1).andThen fun _ w2 => .ok (.slice base (sLen + m) sCap) w2) := by
  unfold contA
  simp only [h, if_true, Sem.run_bind]
  congr 1
  funext new w1
  cases base <;> simp

theorem contA_out {e : TypeId} {size bytes sLen sCap m : Nat} {zeros : Bool} {s x z : Value} {base : Option Addr} {app : Sem (Array Value)} (h : ¬ sLen + m ≤ sCap)
    (hb : bytesT P e = some bytes) (hb0 : 0 < bytes) (hz : zeroT P e = some z) (h1 : (sLen + m) * bytes ≤ 17592186044416) (h2 : sLen + m ≤ 17592186044416) {old new : Array Value}
    (hold : (Builtin.firstCells size sLen s).run P { w with drawn := w.drawn + 1 } = .ok old { w with drawn := w.drawn + 1 }) (hnew : app.run P { w with drawn := w.drawn + 1 } = .ok new { w with drawn := w.drawn + 1 }) :
    ∃ cap, sLen + m ≤ cap ∧ (contA e size zeros s base sLen sCap m x app).run P w = .ok (.slice (some ⟨w.heap.size, 0, none⟩) (sLen + m) cap)
      { w with heap := w.heap.push (.cells (old ++ new ++ Builtin.zeroCells z.cells (cap - (sLen + m))) e), drawn := w.drawn + 1 } := by
  have _ := hb0
  obtain ⟨i, hi, hib⟩ : ∃ i, P.info? e = some i ∧ i.bytes = bytes := by
    unfold bytesT at hb
    cases hi : P.info? e with
    | none => simp [hi] at hb
    | some i => simp [hi] at hb; exact ⟨i, rfl, hb⟩
  refine ⟨(Question.appendCap (sLen + m) sCap e).cut (w.tape w.drawn (.appendCap (sLen + m) sCap e)), by simp [Question.cut], ?_⟩
  generalize hcap : (Question.appendCap (sLen + m) sCap e).cut (w.tape w.drawn (.appendCap (sLen + m) sCap e)) = cap
  have hrun : (choose (.appendCap (sLen + m) sCap e)).run P w = .ok cap { w with drawn := w.drawn + 1 } := by rw [← hcap]; rfl
  have hzr := fun w => (run_zeroT (P := P) hz w).1
  unfold contA
  simp only [h, if_false]
  have hn1 : ¬ (((sLen + m : Nat) : Int) > IntKind.i64.max ∧ (zeros = true ∨ bytes = 0)) := by
    intro hq
    have : IntKind.i64.max = 9223372036854775807 := by decide
    omega
  have hn2 : ¬ (Builtin.nextslicecap (sLen + m) sCap * bytes > 2 ^ 48) := by
    have := nextcap_le (m := sLen + m) (c := sCap) (by omega)
    have h3 : Builtin.nextslicecap (sLen + m) sCap * bytes ≤ 2 * (sLen + m) * bytes := Nat.mul_le_mul_right _ this
    rw [Nat.mul_assoc] at h3
    omega
  simp only [Sem.run_bind, run_typeInfo hi, Result.andThen_ok, hib]
  rw [if_neg hn1]
  simp only [Sem.run_bind, run_typeInfo hi, Result.andThen_ok, hib, pure_bind, Sem.run_pure]
  rw [if_neg hn2]
  simp only [Sem.run_bind, run_typeInfo hi, Result.andThen_ok, pure_bind, Sem.run_pure, hrun, run_askRoom, hold, hnew, hzr]
  rfl

theorem zeroCells_size (z : Array Value) (m : Nat) : (Builtin.zeroCells z m).size = m * z.size := by simp [Builtin.zeroCells]

theorem zeroCells_rel (R : Ren) {z : Value} (h : groundV z = true) (m : Nat) : VRs R (Builtin.zeroCells z.cells m).toList (Builtin.zeroCells z.cells m).toList := by
  unfold Builtin.zeroCells
  exact filled_refl R h _

/-- One id more, at a place in a block that was there. -/
def Ren.addAt (R : Ren) (r blk base size len : Nat) : Ren where
  dom b := R.dom b ∨ b = r
  blk b := if b = r then blk else R.blk b
  base b := if b = r then base else R.base b
  size b := if b = r then size else R.size b
  len b := if b = r then len else R.len b

theorem Ren.addAt_le {R : Ren} {r blk base size len : Nat} (h : ¬ R.dom r) : R.le (R.addAt r blk base size len) := by
  have hne : ∀ b, R.dom b → b ≠ r := fun b hb e => h (e ▸ hb)
  refine ⟨fun b hb => .inl hb, fun b hb => ?_, fun b hb => ?_, fun b hb => ?_, fun b hb => ?_⟩ <;> simp [Ren.addAt, hne b hb]

/-- An append in place, beyond what was known. -/
theorem sim_extend {b o len m c size : Nat} {cs news oldI : List Value} {new : Array Value} (hS : Sim R H w) (hd : R.dom b) (hg : H.get b = some (.cells cs false)) (hq4 : 0 < size) (hone : news.all one1 = true)
    (hrel : VRs R news new.toList) (hq5 : news.length = m * size) (k1 : R.len b ≤ o + c * size) (k2 : R.base b + o + c * size ≤ R.size b) (hlc : len + m ≤ c) {s : Nat}
    (hfi : firstI H size len (.slice (some ⟨b, o, none⟩) len s) = some oldI) (hol : oldI.length = len * size) (hoc : o ≤ cs.length) :
    ∃ w' R', (storeCells ⟨R.blk b, R.base b + o + len * size, none⟩ new.toList).run P w = .ok () w' ∧ VR R' (.slice (some ⟨H.next, 0, none⟩) (len + m) (UNK + size)) (.slice (some ⟨R.blk b, R.base b + o, none⟩) (len + m) c) ∧
      Sim R' ((H.set b .dead).alloc (.cells (oldI ++ news) false)) w' ∧ Ext R H w R' ((H.set b .dead).alloc (.cells (oldI ++ news) false)) w' := by
  have ho := hS.obj b hd
  rw [hg] at ho
  obtain ⟨g1, g2, arr, t, fr, g3, g4, g5, g6⟩ := ho
  have hmul : (len + m) * size ≤ c * size := Nat.mul_le_mul_right _ hlc
  have hadd : (len + m) * size = len * size + m * size := Nat.add_mul _ _ _
  have hnl : new.toList.length = m * size := by rw [← hrel.length, hq5]
  have hrun := run_storeCells P (b := R.blk b) (o := R.base b + o + len * size) (vs := new.toList) g3 (by rw [hnl]; omega) (by rw [hrel.one]; exact hone) (fun j hj1 hj2 => g6 rfl j (by omega) (by rw [hnl] at hj2; omega))
  have hnd : ¬ R.dom H.next := fun h => Nat.lt_irrefl _ (hS.lt _ h)
  have hle : R.le (R.addAt H.next (R.blk b) (R.base b + o) (R.size b) ((len + m) * size)) := Ren.addAt_le hnd
  have hlive : live H b := by unfold live; rw [hg]; trivial
  have hrw : liveRW H b := by unfold liveRW; rw [hg]; trivial
  have hblk : R.blk b < w.heap.size := (Array.getElem?_eq_some_iff.1 g3).1
  have hat := setArr_at w (R.blk b) (putAt arr.toList (R.base b + o + len * size) new.toList).toArray t fr
  have hne : ∀ x, R.dom x → x ≠ H.next := fun x hx e => hnd (e ▸ hx)
  have hget : ∀ x, ((H.set b .dead).alloc (.cells (oldI ++ news) false)).get x = if x = H.next then some (.cells (oldI ++ news) false) else if x = b then some .dead else H.get x := fun x => rfl
  have hlv : ∀ x, R.dom x → live ((H.set b .dead).alloc (.cells (oldI ++ news) false)) x → live H x ∧ x ≠ b := fun x hx hl => by
    unfold live at hl ⊢
    rw [hget, if_neg (hne x hx)] at hl
    by_cases hb : x = b
    · rw [if_pos hb] at hl; exact hl.elim
    · rw [if_neg hb] at hl; exact ⟨hl, hb⟩
  have hlvRW : ∀ x, R.dom x → liveRW ((H.set b .dead).alloc (.cells (oldI ++ news) false)) x → liveRW H x := fun x hx hl => by
    unfold liveRW at hl ⊢
    rw [hget, if_neg (hne x hx)] at hl
    by_cases hb : x = b
    · rw [if_pos hb] at hl; exact hl.elim
    · rw [if_neg hb] at hl; exact hl
  have e0 : ∀ x, R.dom x → (R.addAt H.next (R.blk b) (R.base b + o) (R.size b) ((len + m) * size)).blk x = R.blk x := fun x hx => hle.blk x hx
  have e1 : (R.addAt H.next (R.blk b) (R.base b + o) (R.size b) ((len + m) * size)).blk H.next = R.blk b := by simp [Ren.addAt]
  refine ⟨_, R.addAt H.next (R.blk b) (R.base b + o) (R.size b) ((len + m) * size), hrun, ?_, ⟨?_, ?_, ?_, fun c hc => by
    have hc' : H.next + 1 ≤ c := hc
    have := hS.lt b hd
    rw [hget, if_neg (by omega), if_neg (by omega)]; exact hS.wf c (by omega)⟩, ⟨hle, Nat.le_succ _, ?_, ?_, ?_, ?_, ?_, by rw [hat.size]; exact Nat.le_refl _, hat.os, hat.tape, hat.output⟩⟩
  · have := VR.sliceGr (R := R.addAt H.next (R.blk b) (R.base b + o) (R.size b) ((len + m) * size)) H.next 0 (len + m) c size (.inr rfl) hq4 hlc (by simp only [Ren.addAt, if_true]; omega) (by simp only [Ren.addAt, if_true]; omega)
    simpa [Ren.addAt] using this
  · intro x hx
    rcases hx with hx | rfl
    · exact Nat.lt_succ_of_lt (hS.lt x hx)
    · exact Nat.lt_succ_self _
  · intro x hx
    rw [hget]
    by_cases hxn : x = H.next
    · subst hxn
      rw [if_pos rfl]
      have hbx : (R.addAt H.next (R.blk b) (R.base b + o) (R.size b) ((len + m) * size)).base H.next = R.base b + o := by simp [Ren.addAt]
      have hsx : (R.addAt H.next (R.blk b) (R.base b + o) (R.size b) ((len + m) * size)).size H.next = R.size b := by simp [Ren.addAt]
      have hlx : (R.addAt H.next (R.blk b) (R.base b + o) (R.size b) ((len + m) * size)).len H.next = (len + m) * size := by simp [Ren.addAt]
      have hll : (oldI ++ news).length = (len + m) * size := by simp [hol, hq5, Nat.add_mul]
      have hpl : (putAt arr.toList (R.base b + o + len * size) new.toList).length = arr.toList.length := putAt_length (by rw [hnl]; simp; omega)
      refine ⟨by rw [hlx, hll], by rw [hbx, hsx, hll]; omega, _, t, fr, by rw [e1]; exact setArr_get hblk, by rw [hsx]; simpa [hpl] using g4, ?_, fun _ j hj1 hj2 => g6 rfl j (by rw [hbx] at hj1; omega) (by rw [hsx] at hj2; exact hj2)⟩
      rw [hbx, hll]
      simp only []
      rw [putAt_window (by rw [hnl]; omega) (by simp; omega)]
      have hp : putAt ((arr.toList.drop (R.base b + o)).take ((len + m) * size)) (len * size) new.toList = (arr.toList.drop (R.base b + o)).take (len * size) ++ new.toList := by
        unfold putAt
        have hdr : ((arr.toList.drop (R.base b + o)).take ((len + m) * size)).drop (len * size + new.toList.length) = [] := List.drop_eq_nil_of_le (by simp only [List.length_take, hnl]; omega)
        rw [hdr, List.append_nil, List.take_take, Nat.min_eq_left (by omega)]
      rw [hp]
      refine (VRs.append hrel ?_).mono hle
      -- the old ones
      simp only [firstI] at hfi
      split at hfi
      · rename_i h0
        injection hfi with hfi
        subst hfi
        rw [h0]; exact .nil
      · obtain ⟨arr', t', fr', hw', hle', hv'⟩ := hS.loadL hd hfi
        rw [g3] at hw'
        injection hw' with hw'
        injection hw' with h1 h2 h3
        subst h1
        exact hv'
    · rw [if_neg hxn]
      have hxd : R.dom x := hx.resolve_right hxn
      by_cases hxb : x = b
      · rw [if_pos hxb]; trivial
      · rw [if_neg hxb]
        have hox := hS.obj x hxd
        cases hgx : H.get x with
        | none => rw [hgx] at hox; exact hox.elim
        | some ob =>
          by_cases hdd : ob = .dead
          · subst hdd; trivial
          · rw [← hgx]
            have hl : live H x := by unfold live; rw [hgx]; cases ob <;> first | trivial | exact absurd rfl hdd
            refine hox.move hle hxd fun y hy => ?_
            rw [hat.old _ (fun e => hxb (hS.inj x b hxd hd hl hlive (.inr hrw) e))]
            exact hy
  · intro x y hx hy hlx hly hor he
    by_cases hxn : x = H.next
    · by_cases hyn : y = H.next
      · rw [hxn, hyn]
      · exfalso
        have hyd := hy.resolve_right hyn
        obtain ⟨h1, h2⟩ := hlv y hyd hly
        rw [hxn, e1, e0 y hyd] at he
        exact h2 (hS.inj y b hyd hd h1 hlive (.inr hrw) he.symm)
    · have hxd := hx.resolve_right hxn
      obtain ⟨h1, h2⟩ := hlv x hxd hlx
      by_cases hyn : y = H.next
      · exfalso
        rw [hyn, e1, e0 x hxd] at he
        exact h2 (hS.inj x b hxd hd h1 hlive (.inr hrw) he)
      · have hyd := hy.resolve_right hyn
        rw [e0 x hxd, e0 y hyd] at he
        exact hS.inj x y hxd hyd h1 (hlv y hyd hly).1 (hor.imp (hlvRW x hxd) (hlvRW y hyd)) he
  · intro x hx
    rcases hx with hx | rfl
    · exact .inl hx
    · exact .inr (Nat.le_refl _)
  · intro x hx hn
    rw [hget, if_neg (by omega), if_neg (fun e : x = b => hn (e ▸ hd))]
  · intro x cs' hgx hx
    rw [hget, if_neg (by omega)]
    by_cases hxb : x = b
    · subst hxb; rw [hg] at hgx; cases hgx
    · rw [if_neg hxb]; exact hgx
  · intro k _ hk
    exact hat.old k fun e => hk b hd hrw e.symm
  · intro x hx hl
    rcases hx with hx | rfl
    · refine .inr ⟨x, hx, ?_, (e0 x hx).symm⟩
      unfold liveRW at hl ⊢
      rw [hget, if_neg (hne x hx)] at hl
      by_cases hxb : x = b
      · rw [if_pos hxb] at hl; exact hl.elim
      · rw [if_neg hxb] at hl; exact hl
    · exact .inr ⟨b, hd, hrw, e1.symm⟩

/-- What an append does. -/
theorem sim_append {e : TypeId} {size bytes : Nat} {zeros : Bool} {s s' x v : Value} {m : Nat} {news : List Value} {app : Sem (Array Value)} {H' : IHeap} {z : Value}
    (hS : Sim R H w) (hs : VR R s s') (hb : bytesT P e = some bytes) (hz : zeroT P e = some z) (hzs : z.cells.size = size)
    (h : appendI H size bytes s m news = some (v, H')) {new : Array Value} (hnew : ∀ d, app.run P { w with drawn := d } = .ok new { w with drawn := d }) (hrel : VRs R news new.toList) :
    ∃ base sLen sCap v' w' R', s' = .slice base sLen sCap ∧ (contA e size zeros s' base sLen sCap m x app).run P w = .ok v' w' ∧ VR R' v v' ∧ Sim R' H' w' ∧ Ext R H w R' H' w' := by
  unfold appendI at h
  split at h
  case h_2 => cases h
  rename_i a len cap
  split at h
  case isFalse => cases h
  rename_i hcond
  obtain ⟨hq1, hq2, hq3, hq4, hq5⟩ := hcond
  have hnl : new.size = m * size := by have := hrel.length; rw [hq5] at this; simpa using this.symm
  have hnew0 : app.run P w = .ok new w := hnew w.drawn
  -- a new row
  have grow : ∀ (base : Option Addr) (sCap : Nat) (oldI : List Value) (old : Array Value) (H0 : IHeap), s' = .slice base len sCap → ¬ len + m ≤ sCap → Sim R H0 w → Ext R H w R H0 w →
      ((Builtin.firstCells size len s').run P { w with drawn := w.drawn + 1 } = .ok old { w with drawn := w.drawn + 1 }) → VRs R oldI old.toList → oldI.length = len * size →
      v = .slice (some ⟨H0.next, 0, none⟩) (len + m) (UNK + size) → H' = H0.alloc (.cells (oldI ++ news) false) →
      ∃ v' w' R', (contA e size zeros s' base len sCap m x app).run P w = .ok v' w' ∧ VR R' v v' ∧ Sim R' H' w' ∧ Ext R H w R' H' w' := by
    intro base sCap oldI old H0 hs' hnc hS0 hE0 hold ho hol hv hH
    obtain ⟨c, hc, hrun⟩ := contA_out (zeros := zeros) (s := s') (x := x) (base := base) (size := size) (sCap := sCap) (sLen := len) (m := m) (P := P) (app := app) (old := old) (new := new) hnc hb hq3 hz hq1 hq2 hold (hnew _)
    have hos : old.size = len * size := by have := ho.length; rw [hol] at this; simpa using this.symm
    let arr := old ++ new ++ Builtin.zeroCells z.cells (c - (len + m))
    have hsz : arr.size = c * size := by
      simp only [arr, Array.size_append, zeroCells_size, hos, hnl, hzs]
      rw [← Nat.add_mul, ← Nat.add_mul]; congr 1; omega
    have hlen : (oldI ++ news).length = (len + m) * size := by simp [hol, hq5, Nat.add_mul]
    have hnd : ¬ R.dom H0.next := fun hd => Nat.lt_irrefl _ (hS0.lt _ hd)
    have hle : R.le (R.add H0.next w.heap.size arr.size (oldI ++ news).length) := Ren.add_le hnd
    have hmul : (len + m) * size ≤ c * size := Nat.mul_le_mul_right _ hc
    have hSn := sim_new (w' := { w with heap := w.heap.push (.cells arr e), drawn := w.drawn + 1 }) (size := arr.size) (len := (oldI ++ news).length) (x := .cells arr e) (hS0.alloc_far (.cells (oldI ++ news) false)) (Nat.lt_succ_self _) hnd (alloc_get H0 _)
      (pushOne w _ _) (by simp) ⟨by simp [Ren.add], by simp [Ren.add], by simp [Ren.add], by rw [hlen, hsz]; exact hmul, by
        have e1 : arr.toList.take (oldI ++ news).length = old.toList ++ new.toList := by
          have : (oldI ++ news).length = (old.toList ++ new.toList).length := by simp [hol, hq5, hos, hnl]
          rw [this]
          simp only [arr, Array.toList_append]
          exact List.take_left
        rw [e1]
        exact (VRs.append hrel ho).mono hle, fun j _ => by simp⟩
    subst hv; subst hH
    refine ⟨_, _, _, hrun, ?_, hSn, hE0.trans (ext_new hS0 hle (fun b => Iff.rfl) (by simp [Ren.add]) (pushOne w _ _))⟩
    have := VR.sliceGr (R := R.add H0.next w.heap.size arr.size (oldI ++ news).length) H0.next 0 (len + m) c size (.inr rfl) hq4 hc (by simp only [Ren.add, if_true]; omega) (by simp only [Ren.add, if_true]; omega)
    simpa [Ren.add] using this
  by_cases hm0 : m = 0
  · -- nothing is appended
    subst hm0
    rw [if_pos rfl] at h
    split at h
    case isFalse => cases h
    rename_i hlc
    simp only [Option.some.injEq, Prod.mk.injEq] at h
    obtain ⟨rfl, rfl⟩ := h
    have hne : new = #[] := by apply Array.eq_empty_of_size_eq_zero; rw [hnl]; simp
    subst hne
    obtain ⟨base, sCap, hs', hcap⟩ : ∃ base sCap, s' = .slice base len sCap ∧ len ≤ sCap := by
      cases hs with
      | sliceNil => exact ⟨_, _, rfl, hlc⟩
      | sliceEx => exact ⟨_, _, rfl, hlc⟩
      | sliceZ => exact ⟨_, _, rfl, hlc⟩
      | sliceGr _ _ _ _ _ _ _ hl => exact ⟨_, _, rfl, hl⟩
      | sliceEm => exact ⟨_, _, rfl, Nat.le_refl _⟩
    refine ⟨base, len, sCap, s', w, R, hs', ?_, hs, hS, Ext.refl _ _ _⟩
    rw [contA_in (by omega), hnew0]
    subst hs'
    cases base <;> rfl
  rw [if_neg hm0] at h
  split at h
  · -- onto nil
    split at h
    case isFalse => cases h
    rename_i hlc
    obtain ⟨rfl, rfl⟩ := hlc
    simp only [Option.some.injEq, Prod.mk.injEq] at h
    obtain ⟨rfl, rfl⟩ := h
    obtain ⟨hs', _, _⟩ := hs.slice_nil
    have := grow none 0 [] #[] H hs' (by omega) hS (Ext.refl _ _ _) (by subst hs'; rfl) .nil (by simp) (by simp) (by simp)
    obtain ⟨v', w', R', h1, h2, h3, h4⟩ := this
    exact ⟨none, 0, 0, v', w', R', hs', h1, h2, h3, h4⟩
  · rename_i b o
    obtain ⟨hd, _, _⟩ := hs.slice_some
    split at h
    · -- in place, its capacity known
      rename_i hin
      cases hst : H.storeL b (o + len * size) news with
      | none => rw [hst] at h; simp at h
      | some H1 =>
        rw [hst] at h
        simp only [Option.map_some, Option.some.injEq, Prod.mk.injEq] at h
        obtain ⟨rfl, rfl⟩ := h
        obtain ⟨w', h1, h2, h3⟩ := hS.storeL hd hst hrel P
        have hs2 : s' = .slice (some ⟨R.blk b, R.base b + o, none⟩) len cap := by
          cases hs with
          | sliceEx => rfl
          | sliceZ => exfalso; omega
          | sliceGr => exfalso; unfold UNK at hin; omega
          | sliceEm => exfalso; unfold UNK at hin; omega
        refine ⟨_, len, cap, .slice (some ⟨R.blk b, R.base b + o, none⟩) (len + m) cap, w', R, hs2, ?_, .sliceEx b o _ _ hd hin.1, h2, h3⟩
        rw [contA_in hin.2, hnew0]
        simp only [Result.andThen_ok, add_lit]
        rw [Nat.add_assoc, h1]
        rfl
    · rename_i hin
      split at h
      case h_2 => cases h
      rename_i oldI hfi
      have hlen_old : oldI.length = len * size := by
        simp only [firstI] at hfi
        split at hfi
        · rename_i h0; injection hfi with hfi; subst hfi; simp [h0]
        · unfold IHeap.loadL at hfi
          split at hfi
          · split at hfi
            · injection hfi with hfi; subst hfi; simp; omega
            · cases hfi
          · cases hfi
      obtain ⟨old, hold0, ho⟩ := first_rel (P := P) hS hs (fun q hq => by simp [lenOfI] at hq; omega) hfi
      have hold := hold0 (w.drawn + 1)
      split at h
      · -- its capacity known, and too small
        rename_i hcu
        simp only [Option.some.injEq, Prod.mk.injEq] at h
        obtain ⟨rfl, rfl⟩ := h
        obtain ⟨base, sCap, hs2, hnc⟩ : ∃ base sCap, s' = .slice base len sCap ∧ ¬ len + m ≤ sCap := by
          cases hs with
          | sliceEx => exact ⟨_, _, rfl, fun hq => hin ⟨hcu, hq⟩⟩
          | sliceZ => exact ⟨_, _, rfl, by omega⟩
          | sliceGr => exfalso; unfold UNK at hcu; omega
          | sliceEm => exfalso; unfold UNK at hcu; omega
        obtain ⟨v', w', R', h1, h2, h3, h4⟩ := grow base sCap oldI old H hs2 hnc hS (Ext.refl _ _ _) hold ho hlen_old rfl rfl
        exact ⟨base, len, sCap, v', w', R', hs2, h1, h2, h3, h4⟩
      · rename_i hcu
        split at h
        case isFalse => cases h
        rename_i hce
        split at h
        case h_2 => cases h
        rename_i cs hg
        split at h
        case isFalse => cases h
        rename_i hone
        split at h
        · -- in place, within what is known
          rename_i hfit
          simp only [Option.some.injEq, Prod.mk.injEq] at h
          obtain ⟨rfl, rfl⟩ := h
          have hst : H.storeL b (o + len * size) news = some (H.set b (.cells (putAt cs (o + len * size) news) false)) := by
            unfold IHeap.storeL
            rw [hg]
            simp only []
            rw [if_pos ⟨by rw [hq5, Nat.add_assoc, ← Nat.add_mul]; exact hfit, hone⟩]
          obtain ⟨w', h1, h2, h3⟩ := hS.storeL hd hst hrel P
          have hlenb : cs.length = R.len b := by have ho' := hS.obj b hd; rw [hg] at ho'; exact ho'.1
          cases hs with
          | sliceEx _ _ _ _ _ hcc => exact absurd hcc hcu
          | sliceZ => exact absurd (by unfold UNK; omega) hcu
          | sliceGr _ _ _ c e' _ he hl k1 k2 =>
            obtain rfl : size = e' := by omega
            have hlc : len + m ≤ c := by
              have : (len + m) * size ≤ c * size := by omega
              exact Nat.le_of_mul_le_mul_right this hq4
            refine ⟨_, len, c, .slice (some ⟨R.blk b, R.base b + o, none⟩) (len + m) c, w', R, rfl, ?_, .sliceGr b o _ _ _ hd he hlc k1 k2, h2, h3⟩
            rw [contA_in hlc, hnew0]
            simp only [Result.andThen_ok, add_lit]
            rw [Nat.add_assoc, h1]
            rfl
          | sliceEm _ _ e' _ _ he k1 =>
            obtain rfl : size = e' := by omega
            exfalso
            have : 1 ≤ (0 + m) * size := Nat.mul_pos (by omega) hq4
            omega
        · rename_i hfit
          split at h
          case isFalse => cases h
          rename_i hoc
          simp only [Option.some.injEq, Prod.mk.injEq] at h
          obtain ⟨rfl, rfl⟩ := h
          obtain ⟨hSk, hEk⟩ := sim_kill hS hd hg
          have hlenb : cs.length = R.len b := by have ho' := hS.obj b hd; rw [hg] at ho'; exact ho'.1
          cases hs with
          | sliceEx _ _ _ _ _ hcc => exact absurd hcc hcu
          | sliceZ => exact absurd (by unfold UNK; omega) hcu
          | sliceEm _ _ e' a' _ he k1 =>
            obtain rfl : size = e' := by omega
            obtain ⟨v', w', R', h1, h2, h3, h4⟩ := grow (some a') 0 oldI old _ rfl (by omega) hSk hEk hold ho hlen_old rfl rfl
            exact ⟨_, 0, 0, v', w', R', rfl, h1, h2, h3, h4⟩
          | sliceGr _ _ _ c e' _ he hl k1 k2 =>
            obtain rfl : size = e' := by omega
            by_cases hlc : len + m ≤ c
            · obtain ⟨w', R', h1, h2, h3, h4⟩ := sim_extend (P := P) hS hd hg hq4 hone hrel hq5 k1 k2 hlc hfi hlen_old hoc
              refine ⟨_, len, c, .slice (some ⟨R.blk b, R.base b + o, none⟩) (len + m) c, w', R', rfl, ?_, h2, h3, h4⟩
              rw [contA_in hlc, hnew0]
              simp only [Result.andThen_ok, add_lit]
              rw [h1]
              rfl
            · obtain ⟨v', w', R', h1, h2, h3, h4⟩ := grow _ c oldI old _ rfl hlc hSk hEk hold ho hlen_old rfl rfl
              exact ⟨_, len, c, v', w', R', rfl, h1, h2, h3, h4⟩
  · cases h

end
end Go.Proofs.YtpklgklmjhblpaaI
