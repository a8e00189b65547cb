/- Operations that make one new thing. -/
import Derived.Test.YtpklgklmjhblpaaIdealG
namespace Go.Proofs.YtpklgklmjhblpaaI
set_option linter.unusedSimpArgs false
set_option linter.unusedVariables false
open Go

theorem ObjRel.move {R R' : Ren} {o : Option IObj} {b : Nat} {w w' : World} (h : ObjRel R o b w) (hl : R.le R') (hb : R.dom b) (hw : ∀ x, w.heap[R.blk b]? = some x → w'.heap[R.blk b]? = some x) : ObjRel R' o b w' := by
  unfold ObjRel at h ⊢
  split at h
  · obtain ⟨h1, h2, arr, t, fr, h3, h4, h5, h6⟩ := h
    rw [hl.len b hb, hl.base b hb, hl.size b hb, hl.blk b hb]
    exact ⟨h1, h2, arr, t, fr, hw _ h3, h4, h5.mono hl, h6⟩
  · obtain ⟨es', h1, h2⟩ := h
    rw [hl.blk b hb]
    exact ⟨es', hw _ h1, h2.mono hl⟩
  · exact h
  · trivial
  · exact h

/-- One id more. -/
def Ren.add (R : Ren) (r blk size len : Nat) : Ren where
  dom b := R.dom b ∨ b = r
  blk b := if b = r then blk else R.blk b
  base b := if b = r then 0 else R.base b
  size b := if b = r then size else R.size b
  len b := if b = r then len else R.len b

theorem Ren.add_le {R : Ren} {r blk size len : Nat} (h : ¬ R.dom r) : R.le (R.add r blk size len) := by
  have hne : ∀ b, R.dom b → b ≠ r := fun b hb e => h (e ▸ hb)
  refine ⟨fun b hb => .inl hb, fun b hb => ?_, fun b hb => ?_, fun b hb => ?_, fun b hb => ?_⟩ <;> simp [Ren.add, hne b hb]

/-- Only one block more. -/
structure WOne (w w' : World) : Prop where
  size : w'.heap.size = w.heap.size + 1
  old : ∀ k, k < w.heap.size → w'.heap[k]? = w.heap[k]?
  os : w'.os = w.os
  tape : w'.tape = w.tape
  output : w'.output = w.output

/-- The new thing's block. -/
def NewBlk (R' : Ren) (o : IObj) (r : Nat) (x : Obj) : Prop :=
  match o, x with
  | .cells cs false, .cells arr _ fr => R'.len r = cs.length ∧ R'.base r = 0 ∧ R'.size r = arr.size ∧ cs.length ≤ arr.size ∧ VRs R' cs (arr.toList.take cs.length) ∧ (∀ j, j < arr.size → ¬ (fr.1 ≤ j ∧ j < fr.2))
  | .map es clock, .map es' clock' => clock' = clock ∧ ERels R' es es'.toList
  | _, _ => False

theorem sim_new {R : Ren} {H : IHeap} {w w' : World} {r size len : Nat} {o : IObj} {x : Obj} (hS : Sim R H w) (hr : r < H.next) (hn : ¬ R.dom r) (hg : H.get r = some o)
    (hw : WOne w w') (hx : w'.heap[w.heap.size]? = some x) (hb : NewBlk (R.add r w.heap.size size len) o r x) : Sim (R.add r w.heap.size size len) H w' := by
  have hle : R.le (R.add r w.heap.size size len) := Ren.add_le hn
  refine ⟨?_, ?_, ?_, hS.wf⟩
  · intro b hb
    rcases hb with hb | rfl
    · exact hS.lt b hb
    · exact hr
  · intro b hb'
    by_cases hbr : b = r
    · subst hbr
      rw [hg]
      unfold NewBlk at hb
      have e1 : (R.add b w.heap.size size len).blk b = w.heap.size := by simp [Ren.add]
      split at hb
      · rename_i cs arr t fr
        obtain ⟨h1, h2, h3, h4, h5, h6⟩ := hb
        refine ⟨h1.symm, by rw [h2, h3]; omega, arr, t, fr, by rw [e1]; exact hx, h3.symm, by rw [h2]; simpa using h5, fun _ j _ hj => h6 j (by rw [h3] at hj; exact hj)⟩
      · obtain ⟨h1, h2⟩ := hb
        exact ⟨_, by rw [e1, hx, h1], h2⟩
      · exact hb.elim
    · have hbd : R.dom b := hb'.resolve_right hbr
      have ho := hS.obj b hbd
      cases hgb : H.get b with
      | none => rw [hgb] at ho; exact ho.elim
      | some ob =>
        by_cases hd : ob = .dead
        · subst hd; trivial
        · rw [← hgb]
          refine ho.move hle hbd fun y hy => ?_
          rw [hw.old _ (Array.getElem?_eq_some_iff.1 hy).1]
          exact hy
  · intro b c hb' hc' hlb hlc hor he
    have key : ∀ d, R.dom d → live H d → d ≠ r → (R.add r w.heap.size size len).blk d < w.heap.size := fun d hd hl hne => by
      have := hS.blk_lt hd hl
      simpa [Ren.add, hne] using this
    have e1 : (R.add r w.heap.size size len).blk r = w.heap.size := by simp [Ren.add]
    by_cases hbr : b = r
    · by_cases hcr : c = r
      · rw [hbr, hcr]
      · have := key c (hc'.resolve_right hcr) hlc hcr
        rw [hbr, e1] at he; omega
    · by_cases hcr : c = r
      · have := key b (hb'.resolve_right hbr) hlb hbr
        rw [hcr, e1] at he; omega
      · have h1 := hb'.resolve_right hbr
        have h2 := hc'.resolve_right hcr
        refine hS.inj b c h1 h2 hlb hlc hor ?_
        simpa [Ren.add, hbr, hcr] using he

theorem VRs.refl_of {R : Ren} : ∀ (l : List Value), (∀ x ∈ l, VR R x x) → VRs R l l
  | [], _ => .nil
  | x :: l, h => .cons (h x (by simp)) (VRs.refl_of l fun y hy => h y (by simp [hy]))

theorem ground_cells {z : Value} (h : groundV z = true) (i : Nat) : groundS (z.cells[i]!) = true := by
  have hall : ∀ x ∈ z.cells, groundS x = true := by
    unfold groundV at h
    split at h
    · intro x hx
      exact List.all_eq_true.1 h x (Array.mem_toList_iff.2 hx)
    · rename_i hn
      intro x hx
      have : z.cells = #[z] := by cases z <;> first | rfl | exact absurd rfl (hn _)
      rw [this] at hx
      simp only [List.mem_toArray, List.mem_singleton] at hx
      subst hx; exact h
  by_cases hi : i < z.cells.size
  · rw [getElem!_pos z.cells i hi]
    exact hall _ (Array.getElem_mem hi)
  · rw [getElem!_neg z.cells i hi]
    rfl

theorem filled_refl (R : Ren) {z : Value} (h : groundV z = true) (m : Nat) : VRs R ((Array.range m).map (z.cells[· % z.cells.size]!)).toList ((Array.range m).map (z.cells[· % z.cells.size]!)).toList := by
  refine VRs.refl_of _ fun x hx => ?_
  rw [Array.toList_map] at hx
  obtain ⟨i, _, rfl⟩ := List.mem_map.1 hx
  exact VR.of_groundS R (ground_cells h _)

theorem pushOne (w : World) (x : Obj) (d : Nat) : WOne w { w with heap := w.heap.push x, drawn := d } :=
  ⟨by simp, fun k hk => by simp [Array.getElem?_push_lt, hk], rfl, rfl, rfl⟩

section
variable {P : Program} {n : Nat} {R : Ren} {H : IHeap} {w : World} {T : Env} {a : Act}

/-- Cells that are laid whole. -/
theorem laid_cells {r : Nat} {cs : List Value} {arr : Array Value} {t : TypeId} (hS : Sim R H w) (hr : r < H.next) (hn : ¬ R.dom r) (hg : H.get r = some (.cells cs false)) (hv : VRs R cs arr.toList) :
    Sim (R.add r w.heap.size arr.size cs.length) H { w with heap := w.heap.push (.cells arr t) } ∧ R.le (R.add r w.heap.size arr.size cs.length) ∧ WOne w { w with heap := w.heap.push (.cells arr t) } := by
  have hlen : cs.length = arr.size := by have := hv.length; simpa using this
  have hle : R.le (R.add r w.heap.size arr.size cs.length) := Ren.add_le hn
  refine ⟨sim_new hS hr hn hg (pushOne w _ _) (x := .cells arr t) (by simp) ?_, hle, pushOne w _ _⟩
  refine ⟨by simp [Ren.add], by simp [Ren.add], by simp [Ren.add], by omega, ?_, fun j _ => by simp⟩
  rw [List.take_of_length_le (by simp; omega)]
  exact hv.mono hle

def arrOf (s : ByteArray) (cap : Nat) : Array Value := (s.data.map fun b => Value.int .u8 b.toNat) ++ Array.replicate (cap - s.size) (.int .u8 0)

theorem run_strBytes (P : Program) (e : TypeId) (s : ByteArray) (w : World) : ∃ cap, s.size ≤ cap ∧
    (Conv.stringToBytes e s).run P w = .ok (.slice (some ⟨w.heap.size, 0, none⟩) s.size cap) { w with heap := w.heap.push (.cells (arrOf s cap) e (cap, cap + 1)), drawn := w.drawn + 1 } := by
  refine ⟨(Question.appendCap s.size 0 e).cut (w.tape w.drawn (.appendCap s.size 0 e)), by simp [Question.cut], ?_⟩
  generalize hcap : (Question.appendCap s.size 0 e).cut (w.tape w.drawn (.appendCap s.size 0 e)) = cap
  have hle : s.size ≤ cap := by rw [← hcap]; simp [Question.cut]
  have hrun : (choose (.appendCap s.size 0 e)).run P w = .ok cap { w with drawn := w.drawn + 1 } := by rw [← hcap]; rfl
  have hsz : (arrOf s cap).size = cap := by simp [arrOf]; have : s.data.size = s.size := rfl; omega
  unfold Conv.stringToBytes
  simp only [Sem.run_bind, hrun, Result.andThen_ok, newRow, run_newObj, Sem.run_pure]
  show (((markStringish ⟨w.heap.size, 0, none⟩).run P { w with heap := w.heap.push (.cells (arrOf s cap) e), drawn := w.drawn + 1 }).andThen fun _ w' => (pure (Value.slice (some ⟨w.heap.size, 0, none⟩) s.size cap) : Sem Value).run P w') = _
  have hshape : ({ w with heap := w.heap.push (.cells (arrOf s cap) e), drawn := w.drawn + 1 } : World).shape? w.heap.size = some (e, cap) := by simp [World.shape?, hsz]
  have hfreeze : ({ w with heap := w.heap.push (.cells (arrOf s cap) e), drawn := w.drawn + 1 } : World).freeze { block := w.heap.size, off := cap } 1 = { w with heap := w.heap.push (.cells (arrOf s cap) e (cap, cap + 1)), drawn := w.drawn + 1 } := by
    unfold World.freeze
    rw [if_neg (by decide)]
    congr 1
    apply Array.ext_getElem?
    intro i
    by_cases hi' : i = w.heap.size
    · subst hi'
      simp [Array.getElem_modify]
    · have hne : w.heap.size ≠ i := fun e => hi' e.symm
      simp [Array.getElem?_modify, Array.getElem?_push, hne, hi']
  unfold markStringish
  simp only [Sem.run_bind, run_shape, hshape, Result.andThen_ok, run_freeze, hfreeze, Sem.run_pure]

/-- What an allocation has done. -/
structure Made (P : Program) (R : Ren) (H : IHeap) (w : World) (s : Sem Next) (r : Nat) (y : Value) (v' : Value) (w' : World) (R' : Ren) : Prop where
  run : s.run P w = .ok (.value v') w'
  sim : Sim R' H w'
  val : VR R' y v'
  le : R.le R'
  dom : ∀ b, R'.dom b ↔ (R.dom b ∨ b = r)
  blk : R'.blk r = w.heap.size
  one : WOne w w'

theorem sim_al {o : Oper} {io : IOp} {obj : IObj} {mk : Nat → Value} {r : Nat} (hS : Sim R H w) (hT : TRel n R T a.tmps) (hc : compOp P o = some io) (h : ial T io = some (obj, mk))
    (hr : r < H.next) (hn : ¬ R.dom r) (hg : H.get r = some obj) : ∃ v' w' R', Made P R H w (execOp a.eval o) r (mk r) v' w' R' := by
  unfold compOp at hc
  split at hc
  · cases hc
  rename_i hok
  have hok : okOs o.op.operands.toList = true := by cases hq : okOs o.op.operands.toList with | true => rfl | false => exact absurd hq hok
  obtain ⟨dst, op, ty, pos, after, g⟩ := o
  simp only at hc hok
  -- a pointer to cells that are laid whole
  have fin : ∀ (cs : List Value) (arr : Array Value) (t : TypeId) (f : Nat → Value) (f' : Nat → Value), H.get r = some (.cells cs false) → VRs R cs arr.toList →
      ((execOp a.eval ⟨dst, op, ty, pos, after, g⟩).run P w = .ok (.value (f' w.heap.size)) { w with heap := w.heap.push (.cells arr t) }) →
      (VR (R.add r w.heap.size arr.size cs.length) (f r) (f' w.heap.size)) → ∃ v' w' R', Made P R H w (execOp a.eval ⟨dst, op, ty, pos, after, g⟩) r (f r) v' w' R' := by
    intro cs arr t f f' hg' hv hrun hval
    obtain ⟨h1, h2, h3⟩ := laid_cells (t := t) hS hr hn hg' hv
    exact ⟨_, _, _, ⟨hrun, h1, hval, h2, fun b => Iff.rfl, by simp [Ren.add], h3⟩⟩
  have ptr : ∀ size len, VR (R.add r w.heap.size size len) (.pointer (some ⟨r, 0, none⟩)) (.pointer (some ⟨w.heap.size, 0, none⟩)) := fun size len => by
    have := VR.ptr (R := R.add r w.heap.size size len) r 0 (.inr rfl)
    simpa [Ren.add] using this
  have slc : ∀ size len l c, c < UNK → VR (R.add r w.heap.size size len) (.slice (some ⟨r, 0, none⟩) l c) (.slice (some ⟨w.heap.size, 0, none⟩) l c) := fun size len l c hcu => by
    have := VR.sliceEx (R := R.add r w.heap.size size len) r 0 l c (.inr rfl) hcu
    simpa [Ren.add] using this
  cases op with
  | alloc t =>
    cases hz : zeroT P t with
    | none => simp [hz] at hc
    | some z =>
      simp only [hz, Option.map_some, Option.some.injEq] at hc
      subst hc
      simp only [ial, Option.some.injEq, Prod.mk.injEq] at h
      obtain ⟨rfl, rfl⟩ := h
      have hzr := run_zeroT hz w
      refine fin _ z.cells t (fun r => .pointer (some ⟨r, 0, none⟩)) (fun r => .pointer (some ⟨r, 0, none⟩)) hg (VR.of_ground R hzr.2).cells ?_ (ptr _ _)
      simp only [execOp, Instr.alloc, Sem.run_bind, hzr.1, Result.andThen_ok]
      rfl
  | box t x =>
    simp at hc; subst hc
    simp only [ial, Option.some.injEq, Prod.mk.injEq] at h
    obtain ⟨rfl, rfl⟩ := h
    exact fin _ (a.eval x).cells t (fun r => .pointer (some ⟨r, 0, none⟩)) (fun r => .pointer (some ⟨r, 0, none⟩)) hg (ev_rel hT (okOs_mem hok (by simp [Op.operands]))).cells rfl (ptr _ _)
  | buildSlice t len parts =>
    simp only [] at hc
    split at hc
    · split at hc
      · split at hc
        · rename_i e hu _ _ s z hs hz hcond
          cases hq : partsT (fun i => some (i * s, s)) parts.toList with
          | none => simp [hq] at hc
          | some ps =>
            simp only [hq, Option.map_some, Option.some.injEq] at hc
            subst hc
            simp only [ial] at h
            cases hf : fillL ((Array.range (len * s)).map (z.cells[· % z.cells.size]!)).toList (ps.map fun p => (p.1, ev T p.2)) with
            | none => rw [hf] at h; simp at h
            | some l =>
              rw [hf] at h
              simp only [Option.map_some, Option.some.injEq, Prod.mk.injEq] at h
              obtain ⟨rfl, rfl⟩ := h
              have hzr := run_zeroT hz w
              obtain ⟨l', h1, h2⟩ := fill_rel hT parts.toList ps _ l ((Array.range (len * s)).map (z.cells[· % z.cells.size]!)) (place := fun i => some (i * s, s)) hq
                (fun x hx => okOs_mem hok (by simp only [Op.operands]; exact List.mem_map.2 ⟨x, hx, rfl⟩)) (filled_refl R hzr.2 _) hf
              refine fin l l' e (fun r => .slice (some ⟨r, 0, none⟩) len len) (fun r => .slice (some ⟨r, 0, none⟩) len len) hg h2 ?_ (slc _ _ _ _ (by have := hcond.2.2; unfold UNK; omega))
              simp only [execOp, Instr.buildSlice, Sem.run_bind, run_under hu, Result.andThen_ok, run_sizeT hs]
              have h1' : Instr.fill (fun i => some (i * s, s)) ((Array.range (len * s)).map (z.cells[· % z.cells.size]!)) (parts.map fun (p : Nat × Operand) => (p.1, a.eval p.2)).toList = some l' := by
                rw [Array.toList_map]; exact h1
              rw [if_neg (by omega)]
              by_cases h0 : len * s = 0
              · simp only [h0, if_true, pure_bind] at h1' ⊢
                have e0 : ∀ (z' : Array Value), (Array.range 0).map (z'[· % z'.size]!) = #[] := fun _ => by simp
                rw [e0] at h1' ⊢
                rw [h1']
                rfl
              · rw [if_neg h0]
                simp only [bind_assoc, pure_bind, Sem.run_bind, hzr.1, Result.andThen_ok]
                rw [h1']
                rfl
        · cases hc
      · cases hc
    · cases hc
  | convert sT d x =>
    simp only [] at hc
    split at hc
    · rename_i e hus hud
      split at hc
      · rename_i hue hse
        injection hc with hc; subst hc
        have hrx := ev_rel hT (okOs_mem hok (x := x) (by simp [Op.operands]))
        simp only [ial] at h
        split at h
        · rename_i s he
          rw [he] at hrx
          have hx := hrx.string_inv
          simp only [Option.some.injEq, Prod.mk.injEq] at h
          obtain ⟨rfl, rfl⟩ := h
          obtain ⟨cap, hcap, hrun⟩ := run_strBytes P e s w
          have hle : R.le (R.add r w.heap.size cap s.size) := Ren.add_le hn
          have hcs : (s.data.toList.map fun b => Value.int .u8 b.toNat).length = s.size := by simp
          have hsz : (arrOf s cap).size = cap := by simp [arrOf]; have : s.data.size = s.size := rfl; omega
          refine ⟨.slice (some ⟨w.heap.size, 0, none⟩) s.size cap, { w with heap := w.heap.push (.cells (arrOf s cap) e (cap, cap + 1)), drawn := w.drawn + 1 }, R.add r w.heap.size cap s.size, ⟨?_, ?_, ?_, hle, fun b => Iff.rfl, by simp [Ren.add], pushOne w _ _⟩⟩
          · simp only [execOp, convert, Sem.run_bind, run_under hus, run_under hud, Result.andThen_ok, hx, run_under hue, hrun]
            rfl
          · refine sim_new hS hr hn hg (pushOne w _ _) (x := .cells (arrOf s cap) e (cap, cap + 1)) (by simp) ?_
            refine ⟨by simp only [Ren.add, if_true, hcs], by simp [Ren.add], by simp [Ren.add, hsz], by rw [hcs, hsz]; exact hcap, ?_, fun j hj => by rw [hsz] at hj; simp only []; omega⟩
            have : (arrOf s cap).toList.take (s.data.toList.map fun b => Value.int .u8 b.toNat).length = s.data.toList.map fun b => Value.int .u8 b.toNat := by
              simp [arrOf]
            rw [this]
            exact VRs.refl_of _ fun y hy => by obtain ⟨q, _, rfl⟩ := List.mem_map.1 hy; exact .int _ _
          · have := VR.sliceGr (R := R.add r w.heap.size cap s.size) r 0 s.size cap 1 (.inr rfl) (by omega) hcap (by simp [Ren.add]; omega) (by simp [Ren.add])
            simpa [Ren.add] using this
        · cases h
      · cases hc
    · split at hc
      · injection hc with hc; subst hc; cases h
      · cases hc
    · injection hc with hc; subst hc; cases h
  | makeMap t q =>
    cases q with
    | none =>
      simp at hc; subst hc
      simp only [ial, Option.some.injEq, Prod.mk.injEq] at h
      obtain ⟨rfl, rfl⟩ := h
      have hle : R.le (R.add r w.heap.size 0 0) := Ren.add_le hn
      refine ⟨.map (some w.heap.size), { w with heap := w.heap.push (.map #[] 0) }, R.add r w.heap.size 0 0, ⟨rfl, ?_, ?_, hle, fun b => Iff.rfl, by simp [Ren.add], pushOne w _ _⟩⟩
      · exact sim_new hS hr hn hg (pushOne w _ _) (x := .map #[] 0) (by simp) ⟨rfl, .nil⟩
      · have := VR.map (R := R.add r w.heap.size 0 0) r (.inr rfl)
        simpa [Ren.add] using this
    | some q => simp only [Option.some.injEq] at hc; subst hc; cases h
  | makeSlice t lo co =>
    simp only [] at hc
    split at hc
    · rename_i e hu
      split at hc
      · rename_i s b z hs hbt hz
        split at hc
        · rename_i hcond
          injection hc with hc; subst hc
          have hrl := ev_rel hT (okOs_mem hok (x := lo) (by simp [Op.operands]))
          have hrc := ev_rel hT (okOs_mem hok (x := co) (by simp [Op.operands]))
          simp only [ial] at h
          split at h
          · rename_i k1 l k2 c he1 he2
            rw [he1] at hrl
            rw [he2] at hrc
            split at h
            · rename_i hq
              simp only [Option.some.injEq, Prod.mk.injEq] at h
              obtain ⟨rfl, rfl⟩ := h
              have hzr := run_zeroT hz w
              have hzl : z.cells.toList.length = s := by simpa using hcond.2
              refine fin _ ((Array.range (c.toNat * s)).map (z.cells[· % z.cells.size]!)) e (fun r => .slice (some ⟨r, 0, none⟩) l.toNat c.toNat) (fun r => .slice (some ⟨r, 0, none⟩) l.toNat c.toNat) hg ?_ ?_ (slc _ _ _ _ (by unfold UNK; omega))
              · rw [hzl]; exact filled_refl R hzr.2 _
              · obtain ⟨i, hi, hib⟩ : ∃ i, P.info? e = some i ∧ i.bytes = b := by
                  unfold bytesT at hbt
                  cases hi : P.info? e with
                  | none => simp [hi] at hbt
                  | some i => simp [hi] at hbt; exact ⟨i, rfl, hbt⟩
                have hwl : IntKind.i64.wrap l = l := by simp [IntKind.wrap, IntKind.bits, IntKind.signed]; omega
                have hwc : IntKind.i64.wrap c = c := by simp [IntKind.wrap, IntKind.bits, IntKind.signed]; omega
                simp only [execOp, Instr.makeSlice, Sem.run_bind, run_under hu, Result.andThen_ok, hrl.int_inv, hrc.int_inv, asInt, asIntOf, pure_bind, run_typeInfo hi, hib, hwl, hwc]
                have hcb : (b : Int) * c = c * b := Int.mul_comm _ _
                rw [if_neg (by simp; omega)]
                simp only [Sem.run_bind, run_askRoom, Result.andThen_ok, run_sizeT hs, pure_bind, Sem.run_pure]
                by_cases h0 : c.toNat * s = 0
                · simp only [h0, if_true, pure_bind]
                  have e0 : ∀ (z' : Array Value), (Array.range 0).map (z'[· % z'.size]!) = #[] := fun _ => by simp
                  rw [e0, e0]
                  rfl
                · rw [if_neg h0]
                  simp only [bind_assoc, pure_bind, Sem.run_bind, hzr.1, Result.andThen_ok]
                  rfl
            · cases h
          · cases h
        · cases hc
      · cases hc
    · cases hc
  | select cs b => simp at hc
  | move x => simp at hc; subst hc; cases h
  | assign x => simp at hc; subst hc; cases h
  | pick c x y => simp at hc; subst hc; cases h
  | build t parts =>
    simp only [] at hc
    split at hc
    · rename_i z fs hz hu
      cases hp : placesT P fs.toList with
      | none => simp [hp] at hc
      | some pl =>
        cases hq : partsT (pl[·]?) parts.toList with
        | none => simp [hp, hq] at hc
        | some ps => simp [hp, hq] at hc; subst hc; cases h
    · rename_i z k e hz hu
      cases hsz : sizeT P e with
      | none => simp [hsz] at hc
      | some s =>
        cases hq : partsT (fun i => some (i * s, s)) parts.toList with
        | none => simp [hsz, hq] at hc
        | some ps => simp [hsz, hq] at hc; subst hc; cases h
    · cases hc
  | insert t m k x => simp only [] at hc; split at hc <;> simp at hc; subst hc; cases h
  | mapUpdate t m k x => simp only [] at hc; split at hc <;> simp at hc; subst hc; cases h
  | load t x => simp only [] at hc; split at hc <;> simp at hc <;> subst hc <;> cases h
  | store t x y => simp only [] at hc; cases hsz : sizeT P t <;> simp [hsz] at hc; subst hc; cases h
  | nilCheck x => simp at hc; subst hc; cases h
  | binOp bop t x y yt =>
    simp only [] at hc
    cases bop <;> simp only [Option.some.injEq] at hc <;> subst hc <;> first
      | cases h
      | (unfold compEq at h; split at h <;> (try split at h) <;> cases h)
  | makeInterface t x => simp only [] at hc; split at hc <;> simp at hc; subst hc; cases h
  | makeFunc fn first captured => cases fn <;> simp at hc <;> subst hc <;> cases h
  | slice t x lo hi mx =>
    simp only [] at hc
    split at hc
    · rename_i e hu
      cases hsz : sizeT P e with
      | none => simp [hsz] at hc
      | some s => simp only [hsz, Option.bind_some] at hc; split at hc <;> simp at hc; subst hc; cases h
    · rename_i k e hu
      cases hsz : sizeT P e with
      | none => simp [hsz] at hc
      | some s => simp only [hsz, Option.bind_some] at hc; split at hc <;> simp at hc; subst hc; cases h
    · simp at hc; subst hc; cases h
    · cases hc
  | fieldAddr t x i =>
    simp only [] at hc
    split at hc
    · split at hc
      · rename_i f hf
        cases hsz : sizeT P f.type with
        | none => simp [hsz] at hc
        | some s => simp only [hsz, Option.bind_some] at hc; split at hc <;> simp at hc; subst hc; cases h
      · cases hc
    · cases hc
  | field t x i =>
    simp only [] at hc
    split at hc
    · split at hc
      · split at hc <;> simp at hc <;> subst hc <;> cases h
      · cases hc
    · cases hc
  | indexAddr t x i =>
    simp only [] at hc
    split at hc
    · rename_i e hu; cases hsz : sizeT P e <;> simp [hsz] at hc; subst hc; cases h
    · rename_i k e hu
      split at hc
      · cases hsz : sizeT P e <;> simp [hsz] at hc; subst hc; cases h
      · cases hc
    · cases hc
  | index t x i =>
    simp only [] at hc
    split at hc
    · simp at hc; subst hc; cases h
    · split at hc <;> simp at hc <;> subst hc <;> cases h
    · cases hc
  | lookup t m k ok =>
    simp only [] at hc
    split at hc
    · rename_i kt e hu; cases hz : zeroT P e <;> simp [hz] at hc; subst hc; cases h
    · cases hc
  | typeAssert x xt t ok =>
    simp only [] at hc
    split at hc
    · cases hc
    · cases hz : zeroT P t <;> simp [hz] at hc; subst hc; cases h
    · cases hc
  | extract x i => simp at hc; subst hc; cases h
  | call c =>
    simp only [] at hc
    split at hc
    · injection hc with hc; subst hc; cases h
    · injection hc with hc; subst hc; cases h
    · exfalso
      unfold compBuiltin at hc
      split at hc
      · split at hc <;> first | (injection hc with hc; subst hc; cases h) | (split at hc <;> first | (injection hc with hc; subst hc; cases h) | cases hc)
      · split at hc <;> first | (injection hc with hc; subst hc; cases h) | cases hc
      · split at hc
        · split at hc <;> first | (injection hc with hc; subst hc; cases h) | (split at hc <;> first | (injection hc with hc; subst hc; cases h) | cases hc) | cases hc
        · cases hc
      · split at hc
        · rename_i e _ _ _; cases hq : sizeT P e <;> simp [hq] at hc; subst hc; cases h
        · cases hc
      · split at hc
        · rename_i e _
          cases hq : zeroT P e with
          | none => simp [hq] at hc
          | some z => simp only [hq, Option.bind_some] at hc; split at hc <;> simp at hc; subst hc; cases h
        · cases hc
      · split at hc <;> first | (injection hc with hc; subst hc; cases h) | cases hc
      all_goals first | (injection hc with hc; subst hc; cases h) | cases hc
    · cases hc
  | _ => simp at hc; subst hc; cases h

end
end Go.Proofs.YtpklgklmjhblpaaI
