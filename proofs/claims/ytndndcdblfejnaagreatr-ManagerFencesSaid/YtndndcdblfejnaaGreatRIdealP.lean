/- What an operation hangs on: its operands, and of the heap what is there. / A region that draws its order: one order shows them all. / A region that draws its order: one order shows them all (the invariant, its steps). / A region that draws its order: one order shows them all (the steps in the order). -/
import Derived.Test.YtndndcdblfejnaaGreatRIdealL
namespace Go.Proofs.YtndndcdblfejnaaGreatRI
set_option linter.unusedSimpArgs false
set_option linter.unusedVariables false
open Go

def IOp.opnds : IOp → List Operand
  | .raw o _ => o.operands.toList
  | .move x | .box x | .load1 x | .loadN _ x | .nilCheck x | .eqNil _ _ x | .mkIface _ x | .strBytes x | .bytesStr x | .fieldAddr _ x | .part1 _ x | .partN _ _ x | .lenSl x | .capSl x | .lenMap x
  | .extract x _ | .assertT _ _ _ x | .clearSl _ x => [x]
  | .pick c a b => [c, a, b]
  | .alloc _ | .mkMap => []
  | .build _ ps | .buildSlice _ _ ps => ps.map (·.2)
  | .store _ a x | .mkSlice _ _ a x | .idxSl _ a x | .idxArr _ _ a x | .idxAgg1 _ a x | .idxAggN _ _ a x | .lookup _ _ _ a x | .delete _ a x | .copy _ a x | .append _ _ a x | .appendStr a x | .appendZ _ _ a x => [a, x]
  | .mkFunc _ first captured => first ++ captured
  | .sliceSl _ x lo hi mx | .sliceArr _ _ x lo hi mx => x :: (lo.toList ++ hi.toList ++ mx.toList)
  | .mapUpdate _ m k v => [m, k, v]
  | .call _ args => args
  | .callDyn f args => f :: args
  | .bin _ x y | .eqv _ _ x y | .mxn _ x y | .strIdx x y => [x, y]
  | .un _ x | .conv _ x | .strLen x => [x]
  | .strSl x lo hi => x :: (lo.toList ++ hi.toList)
  | .rangeMap x | .nextMap x | .entryMap x => [x]
  | .never => []

theorem map_congr_mem {f g : Operand → Value} {l : List Operand} (h : ∀ x ∈ l, f x = g x) : l.map f = l.map g := List.map_congr_left h

theorem natI_congr {T T' : Env} {x : Operand} (h : ev T x = ev T' x) : natI T x = natI T' x := by unfold natI; rw [h]

theorem bounds_congr {T T' : Env} {len : Nat} {lo hi mx : Option Operand} (h : ∀ x ∈ lo.toList ++ hi.toList ++ mx.toList, ev T x = ev T' x) : boundsI T len lo hi mx = boundsI T' len lo hi mx := by
  have h1 : ∀ x, lo = some x → natI T x = natI T' x := fun x hx => natI_congr (h x (by simp [hx]))
  have h2 : ∀ x, hi = some x → natI T x = natI T' x := fun x hx => natI_congr (h x (by simp [hx]))
  have h3 : ∀ x, mx = some x → natI T x = natI T' x := fun x hx => natI_congr (h x (by simp [hx]))
  unfold boundsI
  cases lo <;> cases hi <;> cases mx <;> simp only [] <;> (try rw [h1 _ rfl]) <;> (try rw [h2 _ rfl]) <;> (try rw [h3 _ rfl])

theorem parts_congr {T T' : Env} {ps : List ((Nat × Nat) × Operand)} (h : ∀ x ∈ ps.map (·.2), ev T x = ev T' x) : (ps.map fun p => (p.1, ev T p.2)) = (ps.map fun p => (p.1, ev T' p.2)) :=
  List.map_congr_left fun p hp => by rw [h p.2 (List.mem_map.2 ⟨p, hp, rfl⟩)]

theorem raw_congr {P : Program} {T T' : Env} {H : IHeap} {o : Op} {ty : TypeId} (hsel : ∀ cs b, o ≠ .select cs b) (h : ∀ x ∈ o.operands.toList, ev T x = ev T' x) : ird P T H (.raw o ty) = ird P T' H (.raw o ty) := by
  have e : execOp (ev T) ⟨none, o, ty, "", #[], none⟩ = execOp (ev T') ⟨none, o, ty, "", #[], none⟩ := execOp_congr _ hsel fun x hx => h x (by simpa using hx)
  have e2 : o.operands.toList.all (fun x => scal (ev T x)) = o.operands.toList.all (fun x => scal (ev T' x)) := by
    rw [Bool.eq_iff_iff, List.all_eq_true, List.all_eq_true]
    exact ⟨fun k x hx => by rw [← h x hx]; exact k x hx, fun k x hx => by rw [h x hx]; exact k x hx⟩
  simp only [ird, e, e2]

theorem ird_congr {P : Program} {T T' : Env} {H : IHeap} {io : IOp} (hsel : ∀ cs b ty, io ≠ .raw (.select cs b) ty) (h : ∀ x ∈ io.opnds, ev T x = ev T' x) : ird P T H io = ird P T' H io := by
  cases io <;> simp only [IOp.opnds] at h
  case raw o ty => exact raw_congr (fun cs b e => hsel cs b ty (by rw [e])) h
  case build z ps => simp only [ird]; rw [parts_congr h]
  case mkFunc f first captured =>
    simp only [ird]
    rw [map_congr_mem fun x hx => h x (List.mem_append_left _ hx), map_congr_mem (l := captured) fun x hx => h x (List.mem_append_right _ hx)]
  case sliceSl s x lo hi mx =>
    have hb := fun len => bounds_congr (len := len) fun y hy => h y (List.mem_cons_of_mem _ hy)
    simp only [ird, h x (by simp), hb]
  case sliceArr s n x lo hi mx =>
    have hb := fun len => bounds_congr (len := len) fun y hy => h y (List.mem_cons_of_mem _ hy)
    simp only [ird, h x (by simp), hb]
  case strSl x lo hi =>
    have hb := fun len => bounds_congr (len := len) (mx := none) fun y hy => h y (List.mem_cons_of_mem _ (by simpa using hy))
    simp only [ird, h x (by simp), hb]
  all_goals first
    | rfl
    | (simp only [ird]; rename_i x; rw [h x (by simp)]; done)
    | (simp only [ird]; rename_i x _; rw [h x (by simp)]; done)
    | (simp only [ird]; rename_i x y; rw [h x (by simp), h y (by simp)]; done)
    | (simp only [ird]; rename_i x y z; rw [h x (by simp), h y (by simp), h z (by simp)]; done)

theorem ial_congr {T T' : Env} {io : IOp} (h : ∀ x ∈ io.opnds, ev T x = ev T' x) : ial T io = ial T' io := by
  cases io <;> simp only [IOp.opnds] at h
  case buildSlice n z ps => simp only [ial]; rw [parts_congr h]
  all_goals first
    | rfl
    | (simp only [ial]; rename_i x; rw [h x (by simp)]; done)
    | (simp only [ial]; rename_i x y; rw [h x (by simp), h y (by simp)]; done)

theorem iact_congr {P : Program} {T T' : Env} {H : IHeap} {io : IOp} (h : ∀ x ∈ io.opnds, ev T x = ev T' x) : iact P T H io = iact P T' H io := by
  cases io <;> simp only [IOp.opnds] at h
  all_goals first
    | rfl
    | (simp only [iact]; rename_i x; rw [h x (by simp)]; done)
    | (simp only [iact]; rename_i x y; rw [h x (by simp), h y (by simp)]; done)
    | (simp only [iact]; rename_i x y z; rw [h x (by simp), h y (by simp), h z (by simp)]; done)

theorem icall_congr {C : CallT} {T T' : Env} {H : IHeap} {K : Value → IHeap → Prop} {io : IOp} (h : ∀ x ∈ io.opnds, ev T x = ev T' x) : icall C T H K io = icall C T' H K io := by
  cases io <;> simp only [IOp.opnds] at h
  case call f args => simp only [icall]; rw [map_congr_mem h]
  case callDyn f args =>
    simp only [icall]
    rw [h f (by simp), map_congr_mem fun x hx => h x (List.mem_cons_of_mem _ hx)]
  case rangeMap x => simp only [icall]; rw [h x (by simp)]
  case nextMap x => simp only [icall]; rw [h x (by simp)]
  case entryMap x => simp only [icall]; rw [h x (by simp)]
  all_goals rfl

theorem iop_congr {P : Program} {C : CallT} {T T' : Env} {H : IHeap} {K : Value → IHeap → Prop} {io : IOp} (hsel : ∀ cs b ty, io ≠ .raw (.select cs b) ty) (h : ∀ x ∈ io.opnds, ev T x = ev T' x) : iop P C T H io K = iop P C T' H io K := by
  unfold iop
  rw [ird_congr hsel h, ial_congr h, iact_congr h, icall_congr h]

theorem wantedI_congr {T T' : Env} {g : Option (Nat × Bool)} (h : ∀ d b, g = some (d, b) → T d = T' d) : wantedI T g = wantedI T' g := by
  cases g with
  | none => rfl
  | some x => obtain ⟨d, b⟩ := x; unfold wantedI; simp only [h d b rfl]

theorem ird_far {P : Program} {T : Env} {H H' : IHeap} {io : IOp} (h : io.looks = false) : ird P T H io = ird P T H' io := by
  cases io <;> first
    | rfl
    | (simp [IOp.looks] at h; done)
    | skip
  case sliceArr n s x lo hi mx =>
    simp only [ird]
    have : ∀ (a : Option Addr) l hh m, n < UNK → sliceI H s a n n l hh m = sliceI H' s a n n l hh m := by
      intro a l hh m hn
      unfold sliceI
      rw [if_pos hn, if_pos hn]
    split
    · split
      · split
        · rename_i hn; exact this _ _ _ _ hn
        · rfl
      · rfl
    · rfl

/-- What there is stays as it is. -/
def IHeap.sub (H H' : IHeap) : Prop := ∀ b o, H.get b = some o → H'.get b = some o

theorem ird_mono {P : Program} {T : Env} {H H' : IHeap} {io : IOp} {v : Value} (hs : H.sub H') (h : ird P T H io = some v) : ird P T H' io = some v := by
  have hL : ∀ b o n l, H.loadL b o n = some l → H'.loadL b o n = some l := by
    intro b o n l hl
    unfold IHeap.loadL at hl ⊢
    cases hg : H.get b with
    | none => rw [hg] at hl; simp at hl
    | some x => rw [hs b x hg]; rw [hg] at hl; exact hl
  have h1 : ∀ b o v, H.load1 b o = some v → H'.load1 b o = some v := by
    intro b o v hl
    unfold IHeap.load1 at hl ⊢
    cases hg : H.get b with
    | none => rw [hg] at hl; simp at hl
    | some x => rw [hs b x hg]; rw [hg] at hl; exact hl
  by_cases hl : io.looks = true
  · cases io <;> first | (simp [IOp.looks] at hl; done) | skip
    case load1 x =>
      simp only [ird] at h ⊢
      split at h
      · exact h1 _ _ _ h
      · cases h
    case loadN n x =>
      simp only [ird] at h ⊢
      split at h
      · rename_i b o _
        cases hq : H.loadL b o n with
        | none => rw [hq] at h; simp at h
        | some l => rw [hL _ _ _ _ hq]; rw [hq] at h; exact h
      · cases h
    case bytesStr x =>
      simp only [ird] at h ⊢
      split at h
      · exact h
      · rename_i b o n _ _
        cases hq : H.loadL b o n with
        | none => rw [hq] at h; simp at h
        | some l => rw [hL _ _ _ _ hq]; rw [hq] at h; exact h
      · cases h
    case lenMap x =>
      simp only [ird] at h ⊢
      split at h
      · exact h
      · rename_i r _
        cases hg : H.get r with
        | none => rw [hg] at h; simp at h
        | some o => rw [hs r o hg]; rw [hg] at h; exact h
      · cases h
    case lookup kt z ok m k =>
      simp only [ird] at h ⊢
      have hent : ∀ es, entriesI H (ev T m) = some es → entriesI H' (ev T m) = some es := by
        intro es he
        unfold entriesI at he ⊢
        split at he
        · exact he
        · rename_i r _
          cases hg : H.get r with
          | none => rw [hg] at he; simp at he
          | some o => simp only [hs r o hg]; rw [hg] at he; exact he
        · cases he
      split at h
      · rename_i es he
        rw [hent es he]
        exact h
      · cases h
    case sliceSl s x lo hi mx =>
      simp only [ird] at h ⊢
      split at h
      · rename_i a len cap _
        split at h
        · rename_i l hh m hb
          unfold sliceI at h ⊢
          split at h
          · rename_i hc; rw [if_pos hc]; exact h
          · rename_i hc
            rw [if_neg hc]
            split at h
            · rename_i b o _
              split at h
              · rename_i hcond
                have hf : fitsI H b (o + m.getD hh * s) = true → fitsI H' b (o + m.getD hh * s) = true := by
                  intro hf
                  unfold fitsI at hf ⊢
                  cases hg : H.get b with
                  | none => rw [hg] at hf; simp at hf
                  | some o => rw [hs b o hg]; rw [hg] at hf; exact hf
                rw [if_pos ⟨hcond.1, hcond.2.1, hcond.2.2.imp id hf⟩]
                exact h
              · cases h
            · cases h
        · cases h
      · cases h
  · rw [ird_far (H' := H) (by simpa using hl)] at h
    rw [ird_far (H' := H) (by simpa using hl)]
    exact h

theorem compOp_sel {P : Program} {o : Oper} {io : IOp} (hc : compOp P o = some io) : ∀ cs b, o.op ≠ .select cs b := by
  intro cs b he
  unfold compOp at hc
  split at hc
  · cases hc
  · rw [he] at hc; simp at hc

theorem partsT_mem {place : Nat → Option (Nat × Nat)} : ∀ {l : List (Nat × Operand)} {ps : List ((Nat × Nat) × Operand)}, partsT place l = some ps → ps.map (·.2) = l.map (·.2)
  | [], ps, h => by simp only [partsT, Option.some.injEq] at h; subst h; rfl
  | (i, x) :: r, ps, h => by
    simp only [partsT, bind, Option.bind, pure] at h
    cases hp : place i with
    | none => simp [hp] at h
    | some p =>
      cases hr : partsT place r with
      | none => simp [hp, hr] at h
      | some rs =>
        simp only [hp, hr, Option.some.injEq] at h
        subst h
        simp [partsT_mem hr]

/-- The intermediate operation's operands are the operation's. -/
structure Fine (op : Op) (io : IOp) : Prop where
  mem : ∀ x ∈ io.opnds, x ∈ op.operands.toList ∨ ∃ v, x = .const v
  sel : ∀ cs b ty, io ≠ .raw (.select cs b) ty

theorem Fine.raw {op : Op} {ty : TypeId} (h : ∀ cs b, op ≠ .select cs b) : Fine op (.raw op ty) :=
  ⟨fun x hx => .inl hx, fun cs b ty he => by injection he with h1; exact h cs b h1⟩

theorem comp_fine {P : Program} {o : Oper} {io : IOp} (hc : compOp P o = some io) : Fine o.op io := by
  have hsel := compOp_sel hc
  unfold compOp at hc
  split at hc
  · cases hc
  rename_i hok0
  clear hok0
  obtain ⟨dst, op, ty, pos, after, g⟩ := o
  simp only at hc hsel ⊢
  cases op with
  | select cs b => simp at hc
  | move x => simp at hc; subst hc; exact ⟨by simp [IOp.opnds, Op.operands], by simp⟩
  | assign x => simp at hc; subst hc; exact ⟨by simp [IOp.opnds, Op.operands], by simp⟩
  | pick c x y => simp at hc; subst hc; exact ⟨by simp [IOp.opnds, Op.operands], by simp⟩
  | alloc t => cases hz : zeroT P t <;> simp [hz] at hc; subst hc; exact ⟨by simp [IOp.opnds], by simp⟩
  | box t x => simp at hc; subst hc; exact ⟨by simp [IOp.opnds, Op.operands], by simp⟩
  | build t parts =>
    simp only [] at hc
    split at hc
    · rename_i z fs hz hu
      cases hp : placesT P fs.toList with
      | none => simp [hp] at hc
      | some pl =>
        cases hq : partsT (pl[·]?) parts.toList with
        | none => simp [hp, hq] at hc
        | some ps => simp [hp, hq] at hc; subst hc; exact ⟨by simp only [IOp.opnds, Op.operands, partsT_mem hq]; intro x hx; exact .inl hx, by simp⟩
    · rename_i z k e hz hu
      cases hsz : sizeT P e with
      | none => simp [hsz] at hc
      | some s =>
        cases hq : partsT (fun i => some (i * s, s)) parts.toList with
        | none => simp [hsz, hq] at hc
        | some ps => simp [hsz, hq] at hc; subst hc; exact ⟨by simp only [IOp.opnds, Op.operands, partsT_mem hq]; intro x hx; exact .inl hx, by simp⟩
    · cases hc
  | buildSlice t len parts =>
    simp only [] at hc
    split at hc
    · split at hc
      · split at hc
        · rename_i e hu _ _ s z hs hz hcond
          cases hq : partsT (fun i => some (i * s, s)) parts.toList with
          | none => simp [hq] at hc
          | some ps => simp [hq] at hc; subst hc; exact ⟨by simp only [IOp.opnds, Op.operands, partsT_mem hq]; intro x hx; exact .inl hx, by simp⟩
        · cases hc
      · cases hc
    · cases hc
  | insert t m k x => simp only [] at hc; split at hc <;> simp at hc; subst hc; exact ⟨by simp [IOp.opnds, Op.operands], by simp⟩
  | mapUpdate t m k x => simp only [] at hc; split at hc <;> simp at hc; subst hc; exact ⟨by simp [IOp.opnds, Op.operands], by simp⟩
  | load t x => simp only [] at hc; split at hc <;> simp at hc <;> subst hc <;> exact ⟨by simp [IOp.opnds, Op.operands], by simp⟩
  | store t x y => simp only [] at hc; cases hsz : sizeT P t <;> simp [hsz] at hc; subst hc; exact ⟨by simp [IOp.opnds, Op.operands], by simp⟩
  | nilCheck x => simp at hc; subst hc; exact ⟨by simp [IOp.opnds, Op.operands], by simp⟩
  | binOp bop t x y yt =>
    simp only [] at hc
    have heq : ∀ neg, compEq P (.binOp bop t x y yt) ty neg t x y = io → Fine (.binOp bop t x y yt) io := by
      intro neg he
      unfold compEq at he
      split at he
      · split at he
        · subst he; exact ⟨by simp [IOp.opnds, Op.operands], by simp⟩
        · subst he; exact Fine.raw hsel
      · subst he; exact Fine.raw hsel
    cases bop <;> simp only [Option.some.injEq] at hc <;> first
      | exact heq _ hc
      | (subst hc; exact Fine.raw hsel)
  | convert s d x =>
    simp only [] at hc
    split at hc
    · split at hc <;> simp at hc; subst hc; exact ⟨by simp [IOp.opnds, Op.operands], by simp⟩
    · split at hc <;> simp at hc; subst hc; exact ⟨by simp [IOp.opnds, Op.operands], by simp⟩
    · simp at hc; subst hc; exact Fine.raw hsel
  | makeInterface t x => simp only [] at hc; split at hc <;> simp at hc; subst hc; exact ⟨by simp [IOp.opnds, Op.operands], by simp⟩
  | makeFunc fn first captured =>
    cases fn with
    | func f => simp at hc; subst hc; exact ⟨fun x hx => .inl (by simpa [IOp.opnds, Op.operands] using hx), by simp⟩
    | _ => simp at hc; subst hc; exact Fine.raw hsel
  | makeMap t r =>
    cases r with
    | none => simp at hc; subst hc; exact ⟨by simp [IOp.opnds], by simp⟩
    | some r => simp at hc; subst hc; exact Fine.raw hsel
  | makeSlice t l c =>
    simp only [] at hc
    split at hc
    · split at hc
      · split at hc
        · injection hc with hc; subst hc; exact ⟨by simp [IOp.opnds, Op.operands], by simp⟩
        · cases hc
      · cases hc
    · cases hc
  | slice t x lo hi mx =>
    simp only [] at hc
    have hm : ∀ y, y ∈ x :: (lo.toList ++ hi.toList ++ mx.toList) → y ∈ (Op.slice t x lo hi mx).operands.toList := by
      intro y hy
      simp only [Op.operands]
      simpa [or_assoc] using hy
    split at hc
    · rename_i e hu
      cases hsz : sizeT P e with
      | none => simp [hsz] at hc
      | some s => simp only [hsz, Option.bind_some] at hc; split at hc <;> simp at hc; subst hc; exact ⟨fun y hy => .inl (hm y hy), by simp⟩
    · rename_i k e hu
      cases hsz : sizeT P e with
      | none => simp [hsz] at hc
      | some s => simp only [hsz, Option.bind_some] at hc; split at hc <;> simp at hc; subst hc; exact ⟨fun y hy => .inl (hm y hy), by simp⟩
    · simp at hc; subst hc; exact Fine.raw hsel
    · cases hc
  | fieldAddr t x i =>
    simp only [] at hc
    split at hc
    · split at hc
      · rename_i f hf
        cases hsz : sizeT P f.type with
        | none => simp [hsz] at hc
        | some s => simp only [hsz, Option.bind_some] at hc; split at hc <;> simp at hc; subst hc; exact ⟨by simp [IOp.opnds, Op.operands], by simp⟩
      · cases hc
    · cases hc
  | field t x i =>
    simp only [] at hc
    split at hc
    · split at hc
      · split at hc <;> simp at hc <;> subst hc <;> exact ⟨by simp [IOp.opnds, Op.operands], by simp⟩
      · cases hc
    · cases hc
  | indexAddr t x i =>
    simp only [] at hc
    split at hc
    · rename_i e hu; cases hsz : sizeT P e <;> simp [hsz] at hc; subst hc; exact ⟨by simp [IOp.opnds, Op.operands], by simp⟩
    · rename_i k e hu
      split at hc
      · cases hsz : sizeT P e <;> simp [hsz] at hc; subst hc; exact ⟨by simp [IOp.opnds, Op.operands], by simp⟩
      · cases hc
    · cases hc
  | index t x i =>
    simp only [] at hc
    split at hc
    · simp at hc; subst hc; exact Fine.raw hsel
    · split at hc <;> simp at hc <;> subst hc <;> exact ⟨by simp [IOp.opnds, Op.operands], by simp⟩
    · cases hc
  | lookup t m k ok =>
    simp only [] at hc
    split at hc
    · rename_i kt e hu; cases hz : zeroT P e <;> simp [hz] at hc; subst hc; exact ⟨by simp [IOp.opnds, Op.operands], by simp⟩
    · cases hc
  | typeAssert x xt t ok =>
    simp only [] at hc
    split at hc
    · cases hc
    · cases hz : zeroT P t <;> simp [hz] at hc; subst hc; exact ⟨by simp [IOp.opnds, Op.operands], by simp⟩
    · cases hc
  | extract x i => simp at hc; subst hc; exact ⟨by simp [IOp.opnds, Op.operands], by simp⟩
  | call c =>
    obtain ⟨callee, args, tys⟩ := c
    simp only [] at hc
    split at hc
    · injection hc with hc; subst hc; exact ⟨fun x hx => .inl (by simp only [IOp.opnds] at hx; simp [Op.operands, Call.operands]; exact .inr (by simpa using hx)), by simp⟩
    · injection hc with hc; subst hc; exact ⟨fun x hx => .inl (by simpa [Op.operands, Call.operands, IOp.opnds] using hx), by simp⟩
    · rename_i b
      have hmem : ∀ x, x ∈ args.toList → x ∈ (Op.call ⟨.builtin b, args, tys⟩).operands.toList := by intro x hx; simp [Op.operands, Call.operands]; simpa using hx
      have fin : ∀ {i : IOp}, (i = io) → (∀ x ∈ i.opnds, x ∈ args.toList ∨ ∃ v, x = .const v) → (∀ cs b ty, i ≠ .raw (.select cs b) ty) → Fine (.call ⟨.builtin b, args, tys⟩) io :=
        fun e h1 h2 => e ▸ ⟨fun x hx => (h1 x hx).imp (hmem x) id, h2⟩
      unfold compBuiltin at hc
      split at hc
      · rename_i t x hty hxs; rw [hxs] at fin
        split at hc
        · injection hc with hc; exact fin hc (by simp [IOp.opnds]) (by simp)
        · injection hc with hc; exact fin hc (by simp [IOp.opnds]) (by simp)
        · injection hc with hc; exact fin hc (by simp [IOp.opnds]) (by simp)
        · split at hc
          · injection hc with hc; exact fin hc (by simp [IOp.opnds]) (by simp)
          · cases hc
        · injection hc with hc; subst hc; exact Fine.raw hsel
      · rename_i t x hty hxs; rw [hxs] at fin
        split at hc
        · injection hc with hc; exact fin hc (by simp [IOp.opnds]) (by simp)
        · cases hc
      · rename_i t u s x hty hxs; rw [hxs] at fin
        split at hc
        · split at hc <;> first | (split at hc <;> first | (injection hc with hc; exact fin hc (by simp [IOp.opnds]) (by simp)) | cases hc) | cases hc
        · cases hc
      · rename_i t u s x hty hxs; rw [hxs] at fin
        split at hc
        · rename_i e _ _ _; cases hq : sizeT P e <;> simp [hq] at hc; exact fin hc (by simp [IOp.opnds]) (by simp)
        · cases hc
      · rename_i t x hty hxs; rw [hxs] at fin
        split at hc
        · rename_i e _
          cases hq : zeroT P e with
          | none => simp [hq] at hc
          | some z => simp only [hq, Option.bind_some] at hc; split at hc <;> simp at hc; exact fin hc (by simp [IOp.opnds]) (by simp)
        · cases hc
      · rename_i t u s x hty hxs; rw [hxs] at fin
        split at hc <;> first | (injection hc with hc; exact fin hc (by simp [IOp.opnds]) (by simp)) | cases hc
      all_goals first | (injection hc with hc; subst hc; exact Fine.raw hsel) | cases hc
    · cases hc
  | range t x =>
    simp only [] at hc
    split at hc
    · injection hc with hc; subst hc; exact ⟨by simp [IOp.opnds, Op.operands], by simp⟩
    · cases hc
  | next x s =>
    cases s with
    | true => simp only [] at hc; cases hc
    | false => simp only [] at hc; injection hc with hc; subst hc; exact ⟨by simp [IOp.opnds, Op.operands], by simp⟩
  | entry x => simp only [Option.some.injEq] at hc; subst hc; exact ⟨by simp [IOp.opnds, Op.operands], by simp⟩
  | _ => simp at hc; subst hc; exact Fine.raw hsel

end Go.Proofs.YtndndcdblfejnaaGreatRI
namespace Go.Proofs.YtndndcdblfejnaaGreatRI
set_option linter.unusedSimpArgs false
set_option linter.unusedVariables false
open Go

/-! ### Who waits for whom -/

def foldA (acc : List Nat) (o : Oper) : Nat := o.after.toList.foldl (fun s e => if Region.binds .any e then s ||| 2 ^ e.on ||| acc.getD e.on 0 else s) 0

theorem ancL_spec : ∀ (os : List Oper) (acc : List Nat), ∃ r, ancL os acc = acc ++ r ∧ r.length = os.length ∧ ∀ k o, os[k]? = some o → r[k]? = some (foldA (acc ++ r.take k) o)
  | [], acc => ⟨[], by simp [ancL], rfl, by simp⟩
  | o :: os, acc => by
    obtain ⟨r, h1, h2, h3⟩ := ancL_spec os (acc ++ [foldA acc o])
    refine ⟨foldA acc o :: r, ?_, by simp [h2], fun k o' hk => ?_⟩
    · show ancL os (acc ++ [foldA acc o]) = _
      rw [h1]; simp
    · cases k with
      | zero => simp at hk; subst hk; simp
      | succ k =>
        have := h3 k o' (by simpa using hk)
        simpa using this

theorem foldA_bit {acc : List Nat} {j : Nat} : ∀ (l : List Edge) (s : Nat), (l.foldl (fun s e => if Region.binds .any e then s ||| 2 ^ e.on ||| acc.getD e.on 0 else s) s).testBit j = true →
    s.testBit j = true ∨ ∃ e ∈ l, Region.binds .any e = true ∧ (e.on = j ∨ (acc.getD e.on 0).testBit j = true)
  | [], s, h => .inl h
  | e :: l, s, h => by
    simp only [List.foldl_cons] at h
    rcases foldA_bit l _ h with h1 | ⟨e', he', h1⟩
    · by_cases hb : Region.binds .any e = true
      · rw [if_pos hb, Nat.testBit_or, Nat.testBit_or, Nat.testBit_two_pow] at h1
        simp only [Bool.or_eq_true, decide_eq_true_eq] at h1
        rcases h1 with (h1 | h1) | h1
        · exact .inl h1
        · exact .inr ⟨e, by simp, hb, .inl h1⟩
        · exact .inr ⟨e, by simp, hb, .inr h1⟩
      · rw [if_neg hb] at h1; exact .inl h1
    · exact .inr ⟨e', by simp [he'], h1⟩

theorem edgesBack_spec : ∀ (os : List Oper) (i : Nat), edgesBack os i = true → ∀ k o, os[k]? = some o → ∀ e ∈ o.after.toList, Region.binds .any e = true → e.on < i + k
  | [], _, _, k, o, hk, _, _, _ => by simp at hk
  | o' :: os, i, h, k, o, hk, e, he, hb => by
    simp only [edgesBack, Bool.and_eq_true] at h
    cases k with
    | zero =>
      simp at hk; subst hk
      have := List.all_eq_true.1 h.1 e he
      simpa [hb] using this
    | succ k =>
      have := edgesBack_spec os (i + 1) h.2 k o (by simpa using hk) e he hb
      omega

section
variable {ops : Array Oper}

theorem anc_spec (hb : edgesBack ops.toList 0 = true) {i : Nat} {o : Oper} {j : Nat} (ho : ops[i]? = some o) (h : waits (ancL ops.toList []) i j = true) :
    ∃ e ∈ o.after.toList, Region.binds .any e = true ∧ e.on < i ∧ (e.on = j ∨ waits (ancL ops.toList []) e.on j = true) := by
  obtain ⟨r, h1, h2, h3⟩ := ancL_spec ops.toList []
  have ho' : ops.toList[i]? = some o := by simpa using ho
  have hr := h3 i o ho'
  rw [List.nil_append] at h1 hr
  unfold waits at h ⊢
  rw [h1] at h ⊢
  have hg : r.getD i 0 = foldA (r.take i) o := by rw [List.getD_eq_getElem?_getD, hr]; rfl
  rw [hg] at h
  rcases foldA_bit _ _ h with h4 | ⟨e, he, hbe, h4⟩
  · simp at h4
  · have hlt : e.on < i := by have := edgesBack_spec ops.toList 0 hb i o ho' e he hbe; omega
    refine ⟨e, he, hbe, hlt, h4.imp id fun h5 => ?_⟩
    have : (r.take i).getD e.on 0 = r.getD e.on 0 := by
      rw [List.getD_eq_getElem?_getD, List.getD_eq_getElem?_getD, List.getElem?_take, if_pos hlt]
    rw [this] at h5; exact h5

/-- Closed under the edges. -/
def Cl (ops : Array Oper) (S : Nat → Prop) : Prop := ∀ i o, ops[i]? = some o → S i → ∀ e ∈ o.after.toList, Region.binds .any e = true → S e.on

theorem waits_in (hb : edgesBack ops.toList 0 = true) {S : Nat → Prop} (hcl : Cl ops S) : ∀ (i : Nat) (o : Oper) (j : Nat), ops[i]? = some o → (∀ e ∈ o.after.toList, Region.binds .any e = true → S e.on) →
    waits (ancL ops.toList []) i j = true → S j := by
  intro i
  induction i using Nat.strongRecOn with
  | _ i ih =>
    intro o j ho hr hw
    obtain ⟨e, he, hbe, hlt, h4⟩ := anc_spec hb ho hw
    have hs := hr e he hbe
    rcases h4 with rfl | h4
    · exact hs
    · have hlt' : e.on < ops.size := Nat.lt_trans hlt (Array.getElem?_eq_some_iff.1 ho).1
      exact ih e.on hlt ops[e.on] j (by simp [hlt']) (hcl e.on _ (by simp [hlt']) hs) h4

theorem waits_of (hb : edgesBack ops.toList 0 = true) {S : Nat → Prop} (hcl : Cl ops S) {i j : Nat} {o : Oper} (ho : ops[i]? = some o) (hs : S i) (hw : waits (ancL ops.toList []) i j = true) : S j :=
  waits_in hb hcl i o j ho (hcl i o ho hs) hw

def dstAt (ops : Array Oper) (i : Nat) : Option Nat := (ops[i]?).bind (·.dst)

end

section
variable {P : Program} {C : CallT} {n : Nat} {ops : Array Oper} {xs : List IOper}

theorem compOpers_get : ∀ {os : List Oper} {xs : List IOper}, compOpers P n ops os = some xs → xs.length = os.length ∧ ∀ (i : Nat) (o : Oper), os[i]? = some o → ∃ x, xs[i]? = some x ∧ compOper P n ops o = some x
  | [], xs, h => by simp only [compOpers, Option.some.injEq] at h; subst h; exact ⟨rfl, by simp⟩
  | o :: os, xs, h => by
    simp only [compOpers] at h
    cases hx : compOper P n ops o with
    | none => rw [hx] at h; simp at h
    | some x =>
      cases hxs : compOpers P n ops os with
      | none => rw [hx, hxs] at h; simp at h
      | some r =>
        rw [hx, hxs] at h
        simp only [Option.some.injEq] at h
        subst h
        obtain ⟨h1, h2⟩ := compOpers_get hxs
        refine ⟨by simp [h1], fun i o' hi => ?_⟩
        cases i with
        | zero => simp at hi; subst hi; exact ⟨x, by simp, hx⟩
        | succ i =>
          obtain ⟨y, hy, hc⟩ := h2 i o' (by simpa using hi)
          exact ⟨y, by simpa using hy, hc⟩

/-- What a made operation is. -/
structure CompOf (P : Program) (n : Nat) (ops : Array Oper) (o : Oper) (x : IOper) : Prop where
  op : compOp P o = some x.op
  guard : compGuard ops o.guard = some x.guard
  dst : x.dst = o.dst
  lt : ∀ d, o.dst = some d → d < n
  glt : ∀ d b, x.guard = some (d, b) → d < n

theorem compOper_spec {o : Oper} {x : IOper} (h : compOper P n ops o = some x) : CompOf P n ops o x := by
  unfold compOper at h
  split at h
  case h_2 => cases h
  rename_i io g hio hg
  split at h
  case isFalse => cases h
  rename_i hcond
  injection h with h
  subst h
  simp only [Bool.and_eq_true] at hcond
  exact ⟨hio, hg, rfl, fun d hd => by have := hcond.1; rw [hd] at this; simpa [ltO] using this, fun d b hgb => by have := hcond.2; simp only [] at hgb; rw [hgb] at this; simpa [ltG] using this⟩

/-- Environments that agree on all that an operation reads. -/
def Agree (ops : Array Oper) (o : Oper) (E E' : Env) : Prop := ∀ d ∈ readsI ops o, E d = E' d

theorem Agree.opnds {o : Oper} {x : IOper} (hx : CompOf P n ops o x) {E E' : Env} (h : Agree ops o E E') : ∀ y ∈ x.op.opnds, ev E y = ev E' y := by
  intro y hy
  rcases (comp_fine hx.op).mem y hy with h1 | ⟨v, rfl⟩
  · cases y with
    | tmp t => exact h t (by unfold readsI Oper.looksAt; exact List.mem_append_left _ (List.mem_filterMap.2 ⟨.tmp t, h1, rfl⟩))
    | _ => rfl
  · rfl

theorem Agree.guard {o : Oper} {x : IOper} (hx : CompOf P n ops o x) {E E' : Env} (h : Agree ops o E E') : wantedI E x.guard = wantedI E' x.guard := by
  refine wantedI_congr fun d b hd => h d ?_
  have hg := hx.guard
  rw [hd] at hg
  cases hog : o.guard with
  | none => rw [hog] at hg; simp [compGuard] at hg
  | some jw =>
    obtain ⟨j, w⟩ := jw
    rw [hog] at hg
    simp only [compGuard] at hg
    cases hj : (ops[j]?).bind (·.dst) with
    | none => rw [hj] at hg; simp at hg
    | some d' =>
      rw [hj] at hg
      simp only [Option.some.injEq, Prod.mk.injEq] at hg
      unfold readsI Oper.looksAt
      rw [hog]
      simp only [hj]
      exact List.mem_append_right _ (by simp [hg.1])

theorem Agree.ird {o : Oper} {x : IOper} (hx : CompOf P n ops o x) {E E' : Env} (h : Agree ops o E E') (H : IHeap) : ird P E H x.op = ird P E' H x.op := ird_congr (comp_fine hx.op).sel (h.opnds hx)
theorem Agree.ial {o : Oper} {x : IOper} (hx : CompOf P n ops o x) {E E' : Env} (h : Agree ops o E E') : ial E x.op = ial E' x.op := ial_congr (h.opnds hx)
theorem Agree.iop {o : Oper} {x : IOper} (hx : CompOf P n ops o x) {E E' : Env} (h : Agree ops o E E') (H : IHeap) (K : Value → IHeap → Prop) : iop P C E H x.op K = iop P C E' H x.op K := iop_congr (comp_fine hx.op).sel (h.opnds hx)

end
end Go.Proofs.YtndndcdblfejnaaGreatRI
namespace Go.Proofs.YtndndcdblfejnaaGreatRI
set_option linter.unusedSimpArgs false
set_option linter.unusedVariables false
open Go
open Classical in
/-- What the slots hold where those of S have come up. -/
noncomputable def ES (ops : Array Oper) (S : Nat → Prop) (T T0 : Env) : Env := fun d => if ∃ i, S i ∧ dstAt ops i = some d then T d else T0 d
open Classical in
/-- What an operation sees of the slots. -/
noncomputable def EI (ops : Array Oper) (anc : List Nat) (i : Nat) (T T0 : Env) : Env := fun d => if ∃ j, waits anc i j = true ∧ dstAt ops j = some d then T d else T0 d

theorem ES_pos {ops : Array Oper} {S : Nat → Prop} {T T0 : Env} {d : Nat} (h : ∃ i, S i ∧ dstAt ops i = some d) : ES ops S T T0 d = T d := by unfold ES; rw [if_pos h]
theorem ES_neg {ops : Array Oper} {S : Nat → Prop} {T T0 : Env} {d : Nat} (h : ¬ ∃ i, S i ∧ dstAt ops i = some d) : ES ops S T T0 d = T0 d := by unfold ES; rw [if_neg h]
theorem EI_pos {ops : Array Oper} {anc : List Nat} {i : Nat} {T T0 : Env} {d : Nat} (h : ∃ j, waits anc i j = true ∧ dstAt ops j = some d) : EI ops anc i T T0 d = T d := by unfold EI; rw [if_pos h]
theorem EI_neg {ops : Array Oper} {anc : List Nat} {i : Nat} {T T0 : Env} {d : Nat} (h : ¬ ∃ j, waits anc i j = true ∧ dstAt ops j = some d) : EI ops anc i T T0 d = T0 d := by unfold EI; rw [if_neg h]

/-- What has been checked of a region. -/
structure Region' (P : Program) (n : Nat) (ops : Array Oper) (xs : List IOper) (σ : List Nat) : Prop where
  comp : ∀ (i : Nat) (o : Oper), ops[i]? = some o → ∃ x, xs[i]? = some x ∧ CompOf P n ops o x
  len : xs.length = ops.size
  back : edgesBack ops.toList 0 = true
  slen : σ.length = ops.size
  nodup : σ.Nodup
  slt : ∀ i ∈ σ, i < ops.size
  ord : okOrd xs (ancL ops.toList []) [] σ = true
  tmp : ∀ (i j : Nat) (oi oj : Oper) (d : Nat), i ≠ j → ops[i]? = some oi → ops[j]? = some oj → oi.dst = some d → oj.dst ≠ some d ∧
    (d ∈ readsI ops oj → waits (ancL ops.toList []) j i = true ∨ (waits (ancL ops.toList []) i j = true ∧ seesAt xs j = false))
  own : ∀ (i : Nat) (o : Oper) (d : Nat), ops[i]? = some o → o.dst = some d → d ∉ readsI ops o

theorem okOrd_split {xs : List IOper} {anc : List Nat} : ∀ (r pre q : List Nat), okOrd xs anc pre (q ++ r) = true → okOrd xs anc (pre ++ q) r = true
  | r, pre, [], h => by simpa using h
  | r, pre, i :: q, h => by
    simp only [List.cons_append, okOrd, Bool.and_eq_true] at h
    have := okOrd_split r (pre ++ [i]) q h.2
    simpa using this

section
variable {P : Program} {C : CallT} {n : Nat} {ops : Array Oper} {xs : List IOper} {σ : List Nat}

theorem Region'.head (h : Region' P n ops xs σ) {pre rest : List Nat} {i : Nat} (hs : σ = pre ++ i :: rest) {j : Nat} (hj : j ∈ pre) :
    (actsAt xs j = true → waits (ancL ops.toList []) i j = true) ∧ waits (ancL ops.toList []) j i = false := by
  have ho := h.ord
  rw [hs] at ho
  have := okOrd_split (i :: rest) [] pre ho
  simp only [List.nil_append, okOrd, Bool.and_eq_true] at this
  have h1 := List.all_eq_true.1 this.1 j hj
  simp only [Bool.and_eq_true, Bool.or_eq_true, Bool.not_eq_true'] at h1
  refine ⟨fun ha => ?_, h1.2⟩
  rcases h1.1 with h2 | h2
  · rw [ha] at h2; cases h2
  · exact h2

theorem Region'.get (h : Region' P n ops xs σ) {i : Nat} (hi : i < ops.size) : ∃ o x, ops[i]? = some o ∧ xs[i]? = some x ∧ CompOf P n ops o x := by
  obtain ⟨x, h1, h2⟩ := h.comp i ops[i] (by simp [hi])
  exact ⟨ops[i], x, by simp [hi], h1, h2⟩

theorem dstAt_some {i d : Nat} (h : dstAt ops i = some d) : ∃ o, ops[i]? = some o ∧ o.dst = some d := by
  unfold dstAt at h
  cases ho : ops[i]? with
  | none => rw [ho] at h; cases h
  | some o => rw [ho] at h; exact ⟨o, rfl, h⟩
theorem dstAt_of {i : Nat} {o : Oper} (h : ops[i]? = some o) : dstAt ops i = o.dst := by unfold dstAt; rw [h]; rfl

theorem Region'.uniq (h : Region' P n ops xs σ) {i j d : Nat} (h1 : dstAt ops i = some d) (h2 : dstAt ops j = some d) : i = j := by
  obtain ⟨oi, hi, hdi⟩ := dstAt_some h1
  obtain ⟨oj, hj, hdj⟩ := dstAt_some h2
  by_cases he : i = j
  · exact he
  · exact absurd hdj (h.tmp i j oi oj d he hi hj hdi).1

/-- What stands to come up, of one that has been gone through. -/
def Pend (P : Program) (ops : Array Oper) (xs : List IOper) (b0 : Nat) (T T0 : Env) (H : IHeap) (R : Ren) (rid : Nat → Nat) (i : Nat) : Prop :=
  ∀ x, xs[i]? = some x → ∃ v, (∀ d, x.dst = some d → T d = v) ∧ match wantedI (EI ops (ancL ops.toList []) i T T0) x.guard with
    | false => v = undef
    | true => (x.op.kind = .rd ∧ ird P (EI ops (ancL ops.toList []) i T T0) H x.op = some v) ∨
      (x.op.kind = .al ∧ ∃ obj mk, ial (EI ops (ancL ops.toList []) i T T0) x.op = some (obj, mk) ∧ v = mk (rid i) ∧ H.get (rid i) = some obj ∧ ¬ R.dom (rid i) ∧ rid i < H.next ∧ b0 ≤ rid i)

/-- Does it make something? -/
def makes (ops : Array Oper) (xs : List IOper) (T T0 : Env) (i : Nat) : Prop := ∃ x, xs[i]? = some x ∧ x.op.kind = .al ∧ wantedI (EI ops (ancL ops.toList []) i T T0) x.guard = true

structure Inv (P : Program) (C : CallT) (n : Nat) (ops : Array Oper) (xs : List IOper) (σ : List Nat) (K : Env → IHeap → Prop) (T0 : Env) (R0 : Ren) (H0 : IHeap) (w0 : World)
    (pre rest : List Nat) (S : Nat → Prop) (rid : Nat → Nat) (T : Env) (H : IHeap) (R : Ren) (a : Act) (w : World) : Prop where
  sched : σ = pre ++ rest
  sub : ∀ i, S i → i ∈ pre
  closed : Cl ops S
  acts : ∀ i ∈ pre, actsAt xs i = true → S i
  run : iwpDraw P C (layI xs (ancL ops.toList []) pre rest) K T H
  sim : Sim R H w
  tmps : TRel n R (ES ops S T T0) a.tmps
  defers : a.defers = []
  old : ∀ d, (∀ i ∈ pre, dstAt ops i ≠ some d) → T d = T0 d
  pend : ∀ i ∈ pre, ¬ S i → Pend P ops xs H0.next T T0 H R rid i
  inj : ∀ i ∈ pre, ∀ j ∈ pre, ¬ S i → ¬ S j → makes ops xs T T0 i → makes ops xs T T0 j → rid i = rid j → i = j
  ext : Ext R0 H0 w0 R H w

variable {K : Env → IHeap → Prop} {T0 : Env} {R0 : Ren} {H0 : IHeap} {w0 : World} {pre rest : List Nat} {S : Nat → Prop} {rid : Nat → Nat} {T : Env} {H : IHeap} {R : Ren} {a : Act} {w : World}

/-- One that may come up sees what it saw. -/
theorem agree_ready (hR : Region' P n ops xs σ) (hcl : Cl ops S) {i : Nat} {o : Oper} (ho : ops[i]? = some o) (hr : ∀ e ∈ o.after.toList, Region.binds .any e = true → S e.on) (hns : ¬ S i) :
    Agree ops o (ES ops S T T0) (EI ops (ancL ops.toList []) i T T0) := by
  intro d hd
  by_cases h : ∃ j, waits (ancL ops.toList []) i j = true ∧ dstAt ops j = some d
  · obtain ⟨j, h1, h2⟩ := h
    rw [EI_pos ⟨j, h1, h2⟩, ES_pos ⟨j, waits_in hR.back hcl i o j ho hr h1, h2⟩]
  · rw [EI_neg h, ES_neg]
    rintro ⟨j, h1, h2⟩
    obtain ⟨oj, hj, hdj⟩ := dstAt_some h2
    have hji : j ≠ i := fun e => hns (e ▸ h1)
    rcases (hR.tmp j i oj o d hji hj ho hdj).2 hd with h3 | ⟨h3, _⟩
    · exact h ⟨j, h3, h2⟩
    · exact hns (waits_of hR.back hcl hj h1 h3)

/-- The next one in the order sees what it will have seen. -/
theorem agree_head (hR : Region' P n ops xs σ) {i : Nat} {r : List Nat} (hs : σ = pre ++ i :: r) (hold : ∀ d, (∀ j ∈ pre, dstAt ops j ≠ some d) → T d = T0 d) {o : Oper} (ho : ops[i]? = some o) :
    Agree ops o T (EI ops (ancL ops.toList []) i T T0) := by
  intro d hd
  by_cases h : ∃ j, waits (ancL ops.toList []) i j = true ∧ dstAt ops j = some d
  · rw [EI_pos h]
  · rw [EI_neg h]
    refine hold d fun j hj h2 => ?_
    obtain ⟨oj, hoj, hdj⟩ := dstAt_some h2
    have hji : j ≠ i := by
      rintro rfl
      have := hR.nodup
      rw [hs] at this
      have := (List.nodup_append.1 this).2.2 j hj j (by simp)
      exact this rfl
    rcases (hR.tmp j i oj o d hji hoj ho hdj).2 hd with h3 | ⟨h3, _⟩
    · exact h ⟨j, h3, h2⟩
    · rw [(hR.head hs hj).2] at h3; cases h3

/-- What one sees of a slot that a later one writes. -/
theorem EI_put (hR : Region' P n ops xs σ) {i j : Nat} (hw : waits (ancL ops.toList []) i j = false) {d : Option Nat} (hd : dstAt ops j = d) (v : Value) :
    EI ops (ancL ops.toList []) i (T.put d v) T0 = EI ops (ancL ops.toList []) i T T0 := by
  funext e
  by_cases h : ∃ k, waits (ancL ops.toList []) i k = true ∧ dstAt ops k = some e
  · rw [EI_pos h, EI_pos h]
    cases d with
    | none => rfl
    | some d =>
      show (if e = d then v else T e) = T e
      rw [if_neg]
      rintro rfl
      obtain ⟨k, h1, h2⟩ := h
      rw [hR.uniq h2 hd] at h1
      rw [hw] at h1; cases h1
  · rw [EI_neg h, EI_neg h]

theorem ES_put {i : Nat} {d : Option Nat} (hd : dstAt ops i = d) (hR : Region' P n ops xs σ) (v : Value) : ES ops (fun k => S k ∨ k = i) (T.put d v) T0 = (ES ops S T T0).put d v := by
  funext e
  cases d with
  | none =>
    show ES ops (fun k => S k ∨ k = i) T T0 e = ES ops S T T0 e
    by_cases h : ∃ k, S k ∧ dstAt ops k = some e
    · obtain ⟨k, h1, h2⟩ := h
      rw [ES_pos ⟨k, h1, h2⟩, ES_pos ⟨k, .inl h1, h2⟩]
    · rw [ES_neg h, ES_neg]
      rintro ⟨k, h1 | rfl, h2⟩
      · exact h ⟨k, h1, h2⟩
      · rw [hd] at h2; cases h2
  | some d =>
    show ES ops (fun k => S k ∨ k = i) (fun t => if t = d then v else T t) T0 e = if e = d then v else ES ops S T T0 e
    by_cases he : e = d
    · subst he
      rw [ES_pos ⟨i, .inr rfl, hd⟩, if_pos rfl, if_pos rfl]
    · rw [if_neg he]
      by_cases h : ∃ k, S k ∧ dstAt ops k = some e
      · obtain ⟨k, h1, h2⟩ := h
        rw [ES_pos ⟨k, h1, h2⟩, ES_pos ⟨k, .inl h1, h2⟩, if_neg he]
      · rw [ES_neg h, ES_neg]
        rintro ⟨k, h1 | rfl, h2⟩
        · exact h ⟨k, h1, h2⟩
        · rw [hd] at h2; injection h2 with h2; exact he h2.symm

/-- A slot that holds already what is put into it. -/
theorem ES_same {i : Nat} {d : Option Nat} (hd : dstAt ops i = d) (hR : Region' P n ops xs σ) {v : Value} (hv : ∀ k, d = some k → T k = v) : ES ops (fun k => S k ∨ k = i) T T0 = (ES ops S T T0).put d v := by
  have : T = T.put d v := by
    funext e
    cases d with
    | none => rfl
    | some d =>
      show T e = if e = d then v else T e
      by_cases he : e = d
      · rw [if_pos he, he]; exact hv d rfl
      · rw [if_neg he]
  calc ES ops (fun k => S k ∨ k = i) T T0 = ES ops (fun k => S k ∨ k = i) (T.put d v) T0 := by rw [← this]
    _ = _ := ES_put hd hR v

end
end Go.Proofs.YtndndcdblfejnaaGreatRI
namespace Go.Proofs.YtndndcdblfejnaaGreatRI
set_option linter.unusedSimpArgs false
set_option linter.unusedVariables false
open Go

section
variable {P : Program} {C : CallT} {n : Nat} {ops : Array Oper} {xs : List IOper} {σ : List Nat}
variable {K : Env → IHeap → Prop} {T0 : Env} {R0 : Ren} {H0 : IHeap} {w0 : World} {pre rest : List Nat} {S : Nat → Prop} {rid : Nat → Nat} {T : Env} {H : IHeap} {R : Ren} {a : Act} {w : World}

theorem waits_lt (hb : edgesBack ops.toList 0 = true) : ∀ (i j : Nat) (o : Oper), ops[i]? = some o → waits (ancL ops.toList []) i j = true → j < i := by
  intro i
  induction i using Nat.strongRecOn with
  | _ i ih =>
    intro j o ho hw
    obtain ⟨e, _, _, hlt, h4⟩ := anc_spec hb ho hw
    rcases h4 with rfl | h4
    · exact hlt
    · have hlt' : e.on < ops.size := Nat.lt_trans hlt (Array.getElem?_eq_some_iff.1 ho).1
      exact Nat.lt_trans (ih e.on hlt j ops[e.on] (by simp [hlt']) h4) hlt

theorem waits_self (hb : edgesBack ops.toList 0 = true) {i : Nat} {o : Oper} (ho : ops[i]? = some o) : waits (ancL ops.toList []) i i = false := by
  cases h : waits (ancL ops.toList []) i i with
  | false => rfl
  | true => exact absurd (waits_lt hb i i o ho h) (Nat.lt_irrefl _)

theorem notin_pre (hR : Region' P n ops xs σ) {i : Nat} {r : List Nat} (hs : σ = pre ++ i :: r) : i ∉ pre := by
  intro hi
  have := hR.nodup
  rw [hs] at this
  exact (List.nodup_append.1 this).2.2 i hi i (by simp) rfl

theorem put_ne {T : Env} {d : Option Nat} {v : Value} {e : Nat} (h : d ≠ some e) : T.put d v e = T e := by
  cases d with
  | none => rfl
  | some d =>
    show (if e = d then v else T e) = T e
    rw [if_neg (fun he => h (by rw [he]))]
theorem put_eq {T : Env} {e : Nat} {v : Value} : T.put (some e) v e = v := by
  show (if e = e then v else T e) = v
  rw [if_pos rfl]

theorem ES_skip (hR : Region' P n ops xs σ) {i : Nat} (hns : ¬ S i) {d : Option Nat} (hd : dstAt ops i = d) (v : Value) : ES ops S (T.put d v) T0 = ES ops S T T0 := by
  funext e
  by_cases h : ∃ k, S k ∧ dstAt ops k = some e
  · rw [ES_pos h, ES_pos h]
    refine put_ne fun he => ?_
    obtain ⟨k, h1, h2⟩ := h
    rw [he] at hd
    exact hns (hR.uniq hd h2 ▸ h1)
  · rw [ES_neg h, ES_neg h]

/-- One step in the order, of one that turns nothing. -/
theorem adv_core (hR : Region' P n ops xs σ) {i : Nat} {r : List Nat} {o : Oper} {x : IOper} {v : Value} {H1 : IHeap} {rid' : Nat → Nat}
    (hI : Inv P C n ops xs σ K T0 R0 H0 w0 pre (i :: r) S rid T H R a w) (ho : ops[i]? = some o) (hx : xs[i]? = some x) (hco : CompOf P n ops o x) (hna : actsAt xs i = false)
    (hsub : H.sub H1) (hnext : H.next ≤ H1.next) (hsim : Sim R H1 w) (hext : Ext R0 H0 w0 R H1 w) (hrun : iwpDraw P C (layI xs (ancL ops.toList []) (pre ++ [i]) r) K (T.put x.dst v) H1)
    (hrid : ∀ j ∈ pre, rid' j = rid j) (hridi : makes ops xs (T.put x.dst v) T0 i → rid' i = H.next)
    (hp : Pend P ops xs H0.next (T.put x.dst v) T0 H1 R rid' i) : Inv P C n ops xs σ K T0 R0 H0 w0 (pre ++ [i]) r S rid' (T.put x.dst v) H1 R a w := by
  have hni := notin_pre hR hI.sched
  have hns : ¬ S i := fun h => hni (hI.sub i h)
  have hdi : dstAt ops i = x.dst := by rw [dstAt_of ho, hco.dst]
  have hne : ∀ j ∈ pre, j ≠ i := fun j hj e => hni (e ▸ hj)
  have hei : ∀ j ∈ pre, EI ops (ancL ops.toList []) j (T.put x.dst v) T0 = EI ops (ancL ops.toList []) j T T0 := fun j hj => EI_put hR (hR.head hI.sched hj).2 hdi v
  have hmk : ∀ j ∈ pre, makes ops xs (T.put x.dst v) T0 j → makes ops xs T T0 j := by
    rintro j hj ⟨y, h1, h2, h3⟩
    rw [hei j hj] at h3
    exact ⟨y, h1, h2, h3⟩
  have hlt : ∀ j ∈ pre, ¬ S j → makes ops xs T T0 j → rid j < H.next := by
    rintro j hj hsj ⟨y, h1, h2, h3⟩
    obtain ⟨u, _, h4⟩ := hI.pend j hj hsj y h1
    rw [h3] at h4
    rcases h4 with ⟨h5, _⟩ | ⟨_, _, _, _, _, _, _, h6⟩
    · rw [h2] at h5; cases h5
    · exact h6.1
  refine ⟨by rw [hI.sched]; simp, fun j hj => List.mem_append_left _ (hI.sub j hj), hI.closed, ?_, hrun, hsim, ?_, hI.defers, ?_, ?_, ?_, hext⟩
  · intro j hj ha
    rcases List.mem_append.1 hj with h1 | h1
    · exact hI.acts j h1 ha
    · simp at h1; subst h1; rw [hna] at ha; cases ha
  · rw [ES_skip hR hns hdi]; exact hI.tmps
  · intro d hd
    have : x.dst ≠ some d := by rw [← hdi]; exact hd i (by simp)
    rw [put_ne this]
    exact hI.old d fun j hj => hd j (List.mem_append_left _ hj)
  · intro j hj hsj
    rcases List.mem_append.1 hj with h1 | h1
    · intro y hy
      obtain ⟨u, h2, h3⟩ := hI.pend j h1 hsj y hy
      refine ⟨u, fun d hd => ?_, ?_⟩
      · rw [put_ne]
        · exact h2 d hd
        · intro he
          obtain ⟨oj, yj, hoj, hyj, hcj⟩ := hR.get (hR.slt j (by rw [hI.sched]; exact List.mem_append_left _ h1))
          have hyy : yj = y := by rw [hy] at hyj; exact (Option.some.inj hyj).symm
          subst hyy
          have h4 : dstAt ops j = some d := by rw [dstAt_of hoj, ← hcj.dst]; exact hd
          rw [← hdi] at he
          exact hne j h1 (hR.uniq h4 he)
      · rw [hei j h1, hrid j h1]
        cases hw : wantedI (EI ops (ancL ops.toList []) j T T0) y.guard with
        | false => rw [hw] at h3; exact h3
        | true =>
          rw [hw] at h3
          rcases h3 with ⟨h5, h6⟩ | ⟨h5, obj, mk, h6, h7, h8, h9, h10⟩
          · exact .inl ⟨h5, ird_mono hsub h6⟩
          · exact .inr ⟨h5, obj, mk, h6, h7, hsub _ _ h8, h9, Nat.lt_of_lt_of_le h10.1 hnext, h10.2⟩
    · simp at h1; subst h1; exact hp
  · intro j hj k hk hsj hsk hmj hmk' he
    rcases List.mem_append.1 hj with h1 | h1 <;> rcases List.mem_append.1 hk with h2 | h2
    · rw [hrid j h1, hrid k h2] at he
      exact hI.inj j h1 k h2 hsj hsk (hmk j h1 hmj) (hmk k h2 hmk') he
    · simp at h2; subst h2
      rw [hrid j h1, hridi hmk'] at he
      have := hlt j h1 hsj (hmk j h1 hmj)
      omega
    · simp at h1; subst h1
      rw [hrid k h2, hridi hmj] at he
      have := hlt k h2 hsk (hmk k h2 hmk')
      omega
    · simp at h1 h2; rw [h1, h2]

theorem adv1 (hR : Region' P n ops xs σ) {i : Nat} {r : List Nat} (hI : Inv P C n ops xs σ K T0 R0 H0 w0 pre (i :: r) S rid T H R a w) (hna : actsAt xs i = false) :
    ∃ T1 H1 rid1, Inv P C n ops xs σ K T0 R0 H0 w0 (pre ++ [i]) r S rid1 T1 H1 R a w := by
  obtain ⟨o, x, ho, hx, hco⟩ := hR.get (hR.slt i (by rw [hI.sched]; simp))
  have hnact : acts x = false := by unfold actsAt at hna; rw [hx] at hna; exact hna
  have hrun := hI.run
  simp only [layI, hx, againI, hnact, Bool.false_eq_true, if_false, iwpDraw] at hrun
  have hag := agree_head (T := T) (T0 := T0) hR hI.sched hI.old ho
  have hdi : dstAt ops i = x.dst := by rw [dstAt_of ho, hco.dst]
  have hei : ∀ v, EI ops (ancL ops.toList []) i (T.put x.dst v) T0 = EI ops (ancL ops.toList []) i T T0 := fun v => EI_put hR (waits_self hR.back ho) hdi v
  have hput : ∀ v d, x.dst = some d → T.put x.dst v d = v := fun v d hd => by rw [hd]; exact put_eq
  have hpend : ∀ (v : Value) (H1 : IHeap) (rid' : Nat → Nat), (match wantedI T x.guard with
      | false => v = undef
      | true => (x.op.kind = .rd ∧ ird P T H1 x.op = some v) ∨ (x.op.kind = .al ∧ ∃ obj mk, ial T x.op = some (obj, mk) ∧ v = mk (rid' i) ∧ H1.get (rid' i) = some obj ∧ ¬ R.dom (rid' i) ∧ rid' i < H1.next ∧ H0.next ≤ rid' i)) →
      Pend P ops xs H0.next (T.put x.dst v) T0 H1 R rid' i := by
    intro v H1 rid' h y hy
    rw [hx] at hy
    injection hy with hy
    subst hy
    refine ⟨v, hput v, ?_⟩
    rw [hei v, ← hag.guard hco, ← hag.ird hco, ← hag.ial hco]
    exact h
  cases hw : wantedI T x.guard with
  | false =>
    rw [hw] at hrun
    refine ⟨T.put x.dst undef, H, rid, adv_core hR hI ho hx hco hna (fun _ _ h => h) (Nat.le_refl _) hI.sim hI.ext hrun (fun _ _ => rfl) ?_ (hpend _ _ _ (by rw [hw]))⟩
    rintro ⟨y, h1, h2, h3⟩
    rw [hx] at h1; injection h1 with h1; subst h1
    rw [hei, ← hag.guard hco, hw] at h3; cases h3
  | true =>
    rw [hw] at hrun
    unfold iop at hrun
    cases hk : x.op.kind with
    | rd =>
      rw [hk] at hrun
      obtain ⟨v, h1, h2⟩ := hrun
      refine ⟨T.put x.dst v, H, rid, adv_core hR hI ho hx hco hna (fun _ _ h => h) (Nat.le_refl _) hI.sim hI.ext h2 (fun _ _ => rfl) ?_ (hpend _ _ _ (by rw [hw]; exact .inl ⟨hk, h1⟩))⟩
      rintro ⟨y, h3, h4, _⟩
      rw [hx] at h3; injection h3 with h3; subst h3
      rw [hk] at h4; cases h4
    | al =>
      rw [hk] at hrun
      obtain ⟨⟨obj, mk⟩, h1, h2⟩ := hrun
      have hsub : H.sub (H.alloc obj) := by
        intro b q hb
        have hlt : b < H.next := by
          rcases Nat.lt_or_ge b H.next with h | h
          · exact h
          · rw [hI.sim.wf b h] at hb; cases hb
        rw [alloc_get_lt H obj hlt]; exact hb
      have hnd : ¬ R.dom H.next := fun h => Nat.lt_irrefl _ (hI.sim.lt _ h)
      have hext : Ext R0 H0 w0 R (H.alloc obj) w := by
        refine hI.ext.trans ⟨R.le_refl, Nat.le_succ _, fun b hb => .inl hb, fun b hb _ => alloc_get_lt H obj hb, fun b cs hg hb => by rw [alloc_get_lt H obj hb]; exact hg, fun _ _ _ => rfl, fun b hb hl => .inr ⟨b, hb, ?_, rfl⟩, Nat.le_refl _, rfl, rfl, rfl⟩
        unfold liveRW at hl ⊢
        rw [alloc_get_lt H obj (hI.sim.lt b hb)] at hl
        exact hl
      have hni := notin_pre hR hI.sched
      refine ⟨T.put x.dst (mk H.next), H.alloc obj, fun j => if j = i then H.next else rid j, adv_core hR hI ho hx hco hna hsub (Nat.le_succ _) (hI.sim.alloc_far obj) hext h2 (fun j hj => ?_) (fun _ => by simp)
        (hpend _ _ _ (by rw [hw]; exact .inr ⟨hk, obj, mk, h1, by simp, by simp [alloc_get], by simpa using hnd, by simp [IHeap.alloc], by simpa using hI.ext.next⟩))⟩
      rw [if_neg (fun e : j = i => hni (e ▸ hj))]
    | ac => unfold acts at hnact; rw [hk] at hnact; simp at hnact
    | ca => unfold acts at hnact; rw [hk] at hnact; simp at hnact

/-- On to the next one that acts. -/
theorem advance (hR : Region' P n ops xs σ) : ∀ (rest pre : List Nat) (rid : Nat → Nat) (T : Env) (H : IHeap), Inv P C n ops xs σ K T0 R0 H0 w0 pre rest S rid T H R a w →
    ∃ pre' rest' rid' T' H', Inv P C n ops xs σ K T0 R0 H0 w0 pre' rest' S rid' T' H' R a w ∧ ∀ i r, rest' = i :: r → actsAt xs i = true
  | [], pre, rid, T, H, hI => ⟨pre, [], rid, T, H, hI, by simp⟩
  | i :: r, pre, rid, T, H, hI => by
    cases ha : actsAt xs i with
    | true => exact ⟨pre, i :: r, rid, T, H, hI, fun j q h => by injection h with h1 _; subst h1; exact ha⟩
    | false =>
      obtain ⟨T1, H1, rid1, h1⟩ := adv1 hR hI ha
      exact advance hR r (pre ++ [i]) rid1 T1 H1 h1

end
end Go.Proofs.YtndndcdblfejnaaGreatRI
