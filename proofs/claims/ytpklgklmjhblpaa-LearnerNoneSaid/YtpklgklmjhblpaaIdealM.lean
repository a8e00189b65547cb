/- What an operation hangs on: its operands, and of the heap what is there. -/
import Derived.Test.YtpklgklmjhblpaaIdealL
namespace Go.Proofs.YtpklgklmjhblpaaI
set_option linter.unusedSimpArgs false
set_option linter.unusedVariables false
open Go

def IOp.opnds : IOp → List Operand
  | .raw o _ => o.operands.toList
  | .move x | .box x | .load1 x | .loadN _ x | .nilCheck x | .eqNil _ _ x | .mkIface _ x | .strBytes x | .bytesStr x | .fieldAddr _ x | .part1 _ x | .partN _ _ x | .lenSl x | .capSl x | .lenMap x
  | .extract x _ | .assertT _ _ _ x | .clearSl _ x => [x]
  | .pick c a b => [c, a, b]
  | .alloc _ | .mkMap => []
  | .build _ ps | .buildSlice _ _ ps => ps.map (·.2)
  | .store _ a x | .mkSlice _ _ a x | .idxSl _ a x | .idxArr _ _ a x | .idxAgg1 _ a x | .idxAggN _ _ a x | .lookup _ _ _ a x | .delete _ a x | .copy _ a x | .append _ _ a x | .appendStr a x | .appendZ _ _ a x => [a, x]
  | .mkFunc _ first captured => first ++ captured
  | .sliceSl _ x lo hi mx | .sliceArr _ _ x lo hi mx => x :: (lo.toList ++ hi.toList ++ mx.toList)
  | .mapUpdate _ m k v => [m, k, v]
  | .call _ args => args
  | .callDyn f args => f :: args
  | .bin _ x y | .eqv _ _ x y | .mxn _ x y | .strIdx x y => [x, y]
  | .un _ x | .conv _ x | .strLen x => [x]
  | .strSl x lo hi => x :: (lo.toList ++ hi.toList)
  | .never => []

theorem map_congr_mem {f g : Operand → Value} {l : List Operand} (h : ∀ x ∈ l, f x = g x) : l.map f = l.map g := List.map_congr_left h

theorem natI_congr {T T' : Env} {x : Operand} (h : ev T x = ev T' x) : natI T x = natI T' x := by unfold natI; rw [h]

theorem bounds_congr {T T' : Env} {len : Nat} {lo hi mx : Option Operand} (h : ∀ x ∈ lo.toList ++ hi.toList ++ mx.toList, ev T x = ev T' x) : boundsI T len lo hi mx = boundsI T' len lo hi mx := by
  have h1 : ∀ x, lo = some x → natI T x = natI T' x := fun x hx => natI_congr (h x (by simp [hx]))
  have h2 : ∀ x, hi = some x → natI T x = natI T' x := fun x hx => natI_congr (h x (by simp [hx]))
  have h3 : ∀ x, mx = some x → natI T x = natI T' x := fun x hx => natI_congr (h x (by simp [hx]))
  unfold boundsI
  cases lo <;> cases hi <;> cases mx <;> simp only [] <;> (try rw [h1 _ rfl]) <;> (try rw [h2 _ rfl]) <;> (try rw [h3 _ rfl])

theorem parts_congr {T T' : Env} {ps : List ((Nat × Nat) × Operand)} (h : ∀ x ∈ ps.map (·.2), ev T x = ev T' x) : (ps.map fun p => (p.1, ev T p.2)) = (ps.map fun p => (p.1, ev T' p.2)) :=
  List.map_congr_left fun p hp => by rw [h p.2 (List.mem_map.2 ⟨p, hp, rfl⟩)]

theorem raw_congr {P : Program} {T T' : Env} {H : IHeap} {o : Op} {ty : TypeId} (hsel : ∀ cs b, o ≠ .select cs b) (h : ∀ x ∈ o.operands.toList, ev T x = ev T' x) : ird P T H (.raw o ty) = ird P T' H (.raw o ty) := by
  have e : execOp (ev T) ⟨none, o, ty, "", #[], none⟩ = execOp (ev T') ⟨none, o, ty, "", #[], none⟩ := execOp_congr _ hsel fun x hx => h x (by simpa using hx)
  have e2 : o.operands.toList.all (fun x => scal (ev T x)) = o.operands.toList.all (fun x => scal (ev T' x)) := by
    rw [Bool.eq_iff_iff, List.all_eq_true, List.all_eq_true]
    exact ⟨fun k x hx => by rw [← h x hx]; exact k x hx, fun k x hx => by rw [h x hx]; exact k x hx⟩
  simp only [ird, e, e2]

theorem ird_congr {P : Program} {T T' : Env} {H : IHeap} {io : IOp} (hsel : ∀ cs b ty, io ≠ .raw (.select cs b) ty) (h : ∀ x ∈ io.opnds, ev T x = ev T' x) : ird P T H io = ird P T' H io := by
  cases io <;> simp only [IOp.opnds] at h
  case raw o ty => exact raw_congr (fun cs b e => hsel cs b ty (by rw [e])) h
  case build z ps => simp only [ird]; rw [parts_congr h]
  case mkFunc f first captured =>
    simp only [ird]
    rw [map_congr_mem fun x hx => h x (List.mem_append_left _ hx), map_congr_mem (l := captured) fun x hx => h x (List.mem_append_right _ hx)]
  case sliceSl s x lo hi mx =>
    have hb := fun len => bounds_congr (len := len) fun y hy => h y (List.mem_cons_of_mem _ hy)
    simp only [ird, h x (by simp), hb]
  case sliceArr s n x lo hi mx =>
    have hb := fun len => bounds_congr (len := len) fun y hy => h y (List.mem_cons_of_mem _ hy)
    simp only [ird, h x (by simp), hb]
  case strSl x lo hi =>
    have hb := fun len => bounds_congr (len := len) (mx := none) fun y hy => h y (List.mem_cons_of_mem _ (by simpa using hy))
    simp only [ird, h x (by simp), hb]
  all_goals first
    | rfl
    | (simp only [ird]; rename_i x; rw [h x (by simp)]; done)
    | (simp only [ird]; rename_i x _; rw [h x (by simp)]; done)
    | (simp only [ird]; rename_i x y; rw [h x (by simp), h y (by simp)]; done)
    | (simp only [ird]; rename_i x y z; rw [h x (by simp), h y (by simp), h z (by simp)]; done)

theorem ial_congr {T T' : Env} {io : IOp} (h : ∀ x ∈ io.opnds, ev T x = ev T' x) : ial T io = ial T' io := by
  cases io <;> simp only [IOp.opnds] at h
  case buildSlice n z ps => simp only [ial]; rw [parts_congr h]
  all_goals first
    | rfl
    | (simp only [ial]; rename_i x; rw [h x (by simp)]; done)
    | (simp only [ial]; rename_i x y; rw [h x (by simp), h y (by simp)]; done)

theorem iact_congr {P : Program} {T T' : Env} {H : IHeap} {io : IOp} (h : ∀ x ∈ io.opnds, ev T x = ev T' x) : iact P T H io = iact P T' H io := by
  cases io <;> simp only [IOp.opnds] at h
  all_goals first
    | rfl
    | (simp only [iact]; rename_i x; rw [h x (by simp)]; done)
    | (simp only [iact]; rename_i x y; rw [h x (by simp), h y (by simp)]; done)
    | (simp only [iact]; rename_i x y z; rw [h x (by simp), h y (by simp), h z (by simp)]; done)

theorem icall_congr {C : CallT} {T T' : Env} {H : IHeap} {K : Value → IHeap → Prop} {io : IOp} (h : ∀ x ∈ io.opnds, ev T x = ev T' x) : icall C T H K io = icall C T' H K io := by
  cases io <;> simp only [IOp.opnds] at h
  case call f args => simp only [icall]; rw [map_congr_mem h]
  case callDyn f args =>
    simp only [icall]
    rw [h f (by simp), map_congr_mem fun x hx => h x (List.mem_cons_of_mem _ hx)]
  all_goals rfl

theorem iop_congr {P : Program} {C : CallT} {T T' : Env} {H : IHeap} {K : Value → IHeap → Prop} {io : IOp} (hsel : ∀ cs b ty, io ≠ .raw (.select cs b) ty) (h : ∀ x ∈ io.opnds, ev T x = ev T' x) : iop P C T H io K = iop P C T' H io K := by
  unfold iop
  rw [ird_congr hsel h, ial_congr h, iact_congr h, icall_congr h]

theorem wantedI_congr {T T' : Env} {g : Option (Nat × Bool)} (h : ∀ d b, g = some (d, b) → T d = T' d) : wantedI T g = wantedI T' g := by
  cases g with
  | none => rfl
  | some x => obtain ⟨d, b⟩ := x; unfold wantedI; simp only [h d b rfl]

theorem ird_far {P : Program} {T : Env} {H H' : IHeap} {io : IOp} (h : io.looks = false) : ird P T H io = ird P T H' io := by
  cases io <;> first
    | rfl
    | (simp [IOp.looks] at h; done)
    | skip
  case sliceArr n s x lo hi mx =>
    simp only [ird]
    have : ∀ (a : Option Addr) l hh m, n < UNK → sliceI H s a n n l hh m = sliceI H' s a n n l hh m := by
      intro a l hh m hn
      unfold sliceI
      rw [if_pos hn, if_pos hn]
    split
    · split
      · split
        · rename_i hn; exact this _ _ _ _ hn
        · rfl
      · rfl
    · rfl

/-- What there is stays as it is. -/
def IHeap.sub (H H' : IHeap) : Prop := ∀ b o, H.get b = some o → H'.get b = some o

theorem ird_mono {P : Program} {T : Env} {H H' : IHeap} {io : IOp} {v : Value} (hs : H.sub H') (h : ird P T H io = some v) : ird P T H' io = some v := by
  have hL : ∀ b o n l, H.loadL b o n = some l → H'.loadL b o n = some l := by
    intro b o n l hl
    unfold IHeap.loadL at hl ⊢
    cases hg : H.get b with
    | none => rw [hg] at hl; simp at hl
    | some x => rw [hs b x hg]; rw [hg] at hl; exact hl
  have h1 : ∀ b o v, H.load1 b o = some v → H'.load1 b o = some v := by
    intro b o v hl
    unfold IHeap.load1 at hl ⊢
    cases hg : H.get b with
    | none => rw [hg] at hl; simp at hl
    | some x => rw [hs b x hg]; rw [hg] at hl; exact hl
  by_cases hl : io.looks = true
  · cases io <;> first | (simp [IOp.looks] at hl; done) | skip
    case load1 x =>
      simp only [ird] at h ⊢
      split at h
      · exact h1 _ _ _ h
      · cases h
    case loadN n x =>
      simp only [ird] at h ⊢
      split at h
      · rename_i b o _
        cases hq : H.loadL b o n with
        | none => rw [hq] at h; simp at h
        | some l => rw [hL _ _ _ _ hq]; rw [hq] at h; exact h
      · cases h
    case bytesStr x =>
      simp only [ird] at h ⊢
      split at h
      · exact h
      · rename_i b o n _ _
        cases hq : H.loadL b o n with
        | none => rw [hq] at h; simp at h
        | some l => rw [hL _ _ _ _ hq]; rw [hq] at h; exact h
      · cases h
    case lenMap x =>
      simp only [ird] at h ⊢
      split at h
      · exact h
      · rename_i r _
        cases hg : H.get r with
        | none => rw [hg] at h; simp at h
        | some o => rw [hs r o hg]; rw [hg] at h; exact h
      · cases h
    case lookup kt z ok m k =>
      simp only [ird] at h ⊢
      have hent : ∀ es, entriesI H (ev T m) = some es → entriesI H' (ev T m) = some es := by
        intro es he
        unfold entriesI at he ⊢
        split at he
        · exact he
        · rename_i r _
          cases hg : H.get r with
          | none => rw [hg] at he; simp at he
          | some o => simp only [hs r o hg]; rw [hg] at he; exact he
        · cases he
      split at h
      · rename_i es he
        rw [hent es he]
        exact h
      · cases h
    case sliceSl s x lo hi mx =>
      simp only [ird] at h ⊢
      split at h
      · rename_i a len cap _
        split at h
        · rename_i l hh m hb
          unfold sliceI at h ⊢
          split at h
          · rename_i hc; rw [if_pos hc]; exact h
          · rename_i hc
            rw [if_neg hc]
            split at h
            · rename_i b o _
              split at h
              · rename_i hcond
                have hf : fitsI H b (o + m.getD hh * s) = true → fitsI H' b (o + m.getD hh * s) = true := by
                  intro hf
                  unfold fitsI at hf ⊢
                  cases hg : H.get b with
                  | none => rw [hg] at hf; simp at hf
                  | some o => rw [hs b o hg]; rw [hg] at hf; exact hf
                rw [if_pos ⟨hcond.1, hcond.2.1, hcond.2.2.imp id hf⟩]
                exact h
              · cases h
            · cases h
        · cases h
      · cases h
  · rw [ird_far (H' := H) (by simpa using hl)] at h
    rw [ird_far (H' := H) (by simpa using hl)]
    exact h

theorem compOp_sel {P : Program} {o : Oper} {io : IOp} (hc : compOp P o = some io) : ∀ cs b, o.op ≠ .select cs b := by
  intro cs b he
  unfold compOp at hc
  split at hc
  · cases hc
  · rw [he] at hc; simp at hc

theorem partsT_mem {place : Nat → Option (Nat × Nat)} : ∀ {l : List (Nat × Operand)} {ps : List ((Nat × Nat) × Operand)}, partsT place l = some ps → ps.map (·.2) = l.map (·.2)
  | [], ps, h => by simp only [partsT, Option.some.injEq] at h; subst h; rfl
  | (i, x) :: r, ps, h => by
    simp only [partsT, bind, Option.bind, pure] at h
    cases hp : place i with
    | none => simp [hp] at h
    | some p =>
      cases hr : partsT place r with
      | none => simp [hp, hr] at h
      | some rs =>
        simp only [hp, hr, Option.some.injEq] at h
        subst h
        simp [partsT_mem hr]

/-- The intermediate operation's operands are the operation's. -/
structure Fine (op : Op) (io : IOp) : Prop where
  mem : ∀ x ∈ io.opnds, x ∈ op.operands.toList ∨ ∃ v, x = .const v
  sel : ∀ cs b ty, io ≠ .raw (.select cs b) ty

theorem Fine.raw {op : Op} {ty : TypeId} (h : ∀ cs b, op ≠ .select cs b) : Fine op (.raw op ty) :=
  ⟨fun x hx => .inl hx, fun cs b ty he => by injection he with h1; exact h cs b h1⟩

theorem comp_fine {P : Program} {o : Oper} {io : IOp} (hc : compOp P o = some io) : Fine o.op io := by
  have hsel := compOp_sel hc
  unfold compOp at hc
  split at hc
  · cases hc
  rename_i hok0
  clear hok0
  obtain ⟨dst, op, ty, pos, after, g⟩ := o
  simp only at hc hsel ⊢
  cases op with
  | select cs b => simp at hc
  | move x => simp at hc; subst hc; exact ⟨by simp [IOp.opnds, Op.operands], by simp⟩
  | assign x => simp at hc; subst hc; exact ⟨by simp [IOp.opnds, Op.operands], by simp⟩
  | pick c x y => simp at hc; subst hc; exact ⟨by simp [IOp.opnds, Op.operands], by simp⟩
  | alloc t => cases hz : zeroT P t <;> simp [hz] at hc; subst hc; exact ⟨by simp [IOp.opnds], by simp⟩
  | box t x => simp at hc; subst hc; exact ⟨by simp [IOp.opnds, Op.operands], by simp⟩
  | build t parts =>
    simp only [] at hc
    split at hc
    · rename_i z fs hz hu
      cases hp : placesT P fs.toList with
      | none => simp [hp] at hc
      | some pl =>
        cases hq : partsT (pl[·]?) parts.toList with
        | none => simp [hp, hq] at hc
        | some ps => simp [hp, hq] at hc; subst hc; exact ⟨by simp only [IOp.opnds, Op.operands, partsT_mem hq]; intro x hx; exact .inl hx, by simp⟩
    · rename_i z k e hz hu
      cases hsz : sizeT P e with
      | none => simp [hsz] at hc
      | some s =>
        cases hq : partsT (fun i => some (i * s, s)) parts.toList with
        | none => simp [hsz, hq] at hc
        | some ps => simp [hsz, hq] at hc; subst hc; exact ⟨by simp only [IOp.opnds, Op.operands, partsT_mem hq]; intro x hx; exact .inl hx, by simp⟩
    · cases hc
  | buildSlice t len parts =>
    simp only [] at hc
    split at hc
    · split at hc
      · split at hc
        · rename_i e hu _ _ s z hs hz hcond
          cases hq : partsT (fun i => some (i * s, s)) parts.toList with
          | none => simp [hq] at hc
          | some ps => simp [hq] at hc; subst hc; exact ⟨by simp only [IOp.opnds, Op.operands, partsT_mem hq]; intro x hx; exact .inl hx, by simp⟩
        · cases hc
      · cases hc
    · cases hc
  | insert t m k x => simp only [] at hc; split at hc <;> simp at hc; subst hc; exact ⟨by simp [IOp.opnds, Op.operands], by simp⟩
  | mapUpdate t m k x => simp only [] at hc; split at hc <;> simp at hc; subst hc; exact ⟨by simp [IOp.opnds, Op.operands], by simp⟩
  | load t x => simp only [] at hc; split at hc <;> simp at hc <;> subst hc <;> exact ⟨by simp [IOp.opnds, Op.operands], by simp⟩
  | store t x y => simp only [] at hc; cases hsz : sizeT P t <;> simp [hsz] at hc; subst hc; exact ⟨by simp [IOp.opnds, Op.operands], by simp⟩
  | nilCheck x => simp at hc; subst hc; exact ⟨by simp [IOp.opnds, Op.operands], by simp⟩
  | binOp bop t x y yt =>
    simp only [] at hc
    have heq : ∀ neg, compEq P (.binOp bop t x y yt) ty neg t x y = io → Fine (.binOp bop t x y yt) io := by
      intro neg he
      unfold compEq at he
      split at he
      · split at he
        · subst he; exact ⟨by simp [IOp.opnds, Op.operands], by simp⟩
        · subst he; exact Fine.raw hsel
      · subst he; exact Fine.raw hsel
    cases bop <;> simp only [Option.some.injEq] at hc <;> first
      | exact heq _ hc
      | (subst hc; exact Fine.raw hsel)
  | convert s d x =>
    simp only [] at hc
    split at hc
    · split at hc <;> simp at hc; subst hc; exact ⟨by simp [IOp.opnds, Op.operands], by simp⟩
    · split at hc <;> simp at hc; subst hc; exact ⟨by simp [IOp.opnds, Op.operands], by simp⟩
    · simp at hc; subst hc; exact Fine.raw hsel
  | makeInterface t x => simp only [] at hc; split at hc <;> simp at hc; subst hc; exact ⟨by simp [IOp.opnds, Op.operands], by simp⟩
  | makeFunc fn first captured =>
    cases fn with
    | func f => simp at hc; subst hc; exact ⟨fun x hx => .inl (by simpa [IOp.opnds, Op.operands] using hx), by simp⟩
    | _ => simp at hc; subst hc; exact Fine.raw hsel
  | makeMap t r =>
    cases r with
    | none => simp at hc; subst hc; exact ⟨by simp [IOp.opnds], by simp⟩
    | some r => simp at hc; subst hc; exact Fine.raw hsel
  | makeSlice t l c =>
    simp only [] at hc
    split at hc
    · split at hc
      · split at hc
        · injection hc with hc; subst hc; exact ⟨by simp [IOp.opnds, Op.operands], by simp⟩
        · cases hc
      · cases hc
    · cases hc
  | slice t x lo hi mx =>
    simp only [] at hc
    have hm : ∀ y, y ∈ x :: (lo.toList ++ hi.toList ++ mx.toList) → y ∈ (Op.slice t x lo hi mx).operands.toList := by
      intro y hy
      simp only [Op.operands]
      simpa [or_assoc] using hy
    split at hc
    · rename_i e hu
      cases hsz : sizeT P e with
      | none => simp [hsz] at hc
      | some s => simp only [hsz, Option.bind_some] at hc; split at hc <;> simp at hc; subst hc; exact ⟨fun y hy => .inl (hm y hy), by simp⟩
    · rename_i k e hu
      cases hsz : sizeT P e with
      | none => simp [hsz] at hc
      | some s => simp only [hsz, Option.bind_some] at hc; split at hc <;> simp at hc; subst hc; exact ⟨fun y hy => .inl (hm y hy), by simp⟩
    · simp at hc; subst hc; exact Fine.raw hsel
    · cases hc
  | fieldAddr t x i =>
    simp only [] at hc
    split at hc
    · split at hc
      · rename_i f hf
        cases hsz : sizeT P f.type with
        | none => simp [hsz] at hc
        | some s => simp only [hsz, Option.bind_some] at hc; split at hc <;> simp at hc; subst hc; exact ⟨by simp [IOp.opnds, Op.operands], by simp⟩
      · cases hc
    · cases hc
  | field t x i =>
    simp only [] at hc
    split at hc
    · split at hc
      · split at hc <;> simp at hc <;> subst hc <;> exact ⟨by simp [IOp.opnds, Op.operands], by simp⟩
      · cases hc
    · cases hc
  | indexAddr t x i =>
    simp only [] at hc
    split at hc
    · rename_i e hu; cases hsz : sizeT P e <;> simp [hsz] at hc; subst hc; exact ⟨by simp [IOp.opnds, Op.operands], by simp⟩
    · rename_i k e hu
      split at hc
      · cases hsz : sizeT P e <;> simp [hsz] at hc; subst hc; exact ⟨by simp [IOp.opnds, Op.operands], by simp⟩
      · cases hc
    · cases hc
  | index t x i =>
    simp only [] at hc
    split at hc
    · simp at hc; subst hc; exact Fine.raw hsel
    · split at hc <;> simp at hc <;> subst hc <;> exact ⟨by simp [IOp.opnds, Op.operands], by simp⟩
    · cases hc
  | lookup t m k ok =>
    simp only [] at hc
    split at hc
    · rename_i kt e hu; cases hz : zeroT P e <;> simp [hz] at hc; subst hc; exact ⟨by simp [IOp.opnds, Op.operands], by simp⟩
    · cases hc
  | typeAssert x xt t ok =>
    simp only [] at hc
    split at hc
    · cases hc
    · cases hz : zeroT P t <;> simp [hz] at hc; subst hc; exact ⟨by simp [IOp.opnds, Op.operands], by simp⟩
    · cases hc
  | extract x i => simp at hc; subst hc; exact ⟨by simp [IOp.opnds, Op.operands], by simp⟩
  | call c =>
    obtain ⟨callee, args, tys⟩ := c
    simp only [] at hc
    split at hc
    · injection hc with hc; subst hc; exact ⟨fun x hx => .inl (by simp only [IOp.opnds] at hx; simp [Op.operands, Call.operands]; exact .inr (by simpa using hx)), by simp⟩
    · injection hc with hc; subst hc; exact ⟨fun x hx => .inl (by simpa [Op.operands, Call.operands, IOp.opnds] using hx), by simp⟩
    · rename_i b
      have hmem : ∀ x, x ∈ args.toList → x ∈ (Op.call ⟨.builtin b, args, tys⟩).operands.toList := by intro x hx; simp [Op.operands, Call.operands]; simpa using hx
      have fin : ∀ {i : IOp}, (i = io) → (∀ x ∈ i.opnds, x ∈ args.toList ∨ ∃ v, x = .const v) → (∀ cs b ty, i ≠ .raw (.select cs b) ty) → Fine (.call ⟨.builtin b, args, tys⟩) io :=
        fun e h1 h2 => e ▸ ⟨fun x hx => (h1 x hx).imp (hmem x) id, h2⟩
      unfold compBuiltin at hc
      split at hc
      · rename_i t x hty hxs; rw [hxs] at fin
        split at hc
        · injection hc with hc; exact fin hc (by simp [IOp.opnds]) (by simp)
        · injection hc with hc; exact fin hc (by simp [IOp.opnds]) (by simp)
        · injection hc with hc; exact fin hc (by simp [IOp.opnds]) (by simp)
        · split at hc
          · injection hc with hc; exact fin hc (by simp [IOp.opnds]) (by simp)
          · cases hc
        · injection hc with hc; subst hc; exact Fine.raw hsel
      · rename_i t x hty hxs; rw [hxs] at fin
        split at hc
        · injection hc with hc; exact fin hc (by simp [IOp.opnds]) (by simp)
        · cases hc
      · rename_i t u s x hty hxs; rw [hxs] at fin
        split at hc
        · split at hc <;> first | (split at hc <;> first | (injection hc with hc; exact fin hc (by simp [IOp.opnds]) (by simp)) | cases hc) | cases hc
        · cases hc
      · rename_i t u s x hty hxs; rw [hxs] at fin
        split at hc
        · rename_i e _ _ _; cases hq : sizeT P e <;> simp [hq] at hc; exact fin hc (by simp [IOp.opnds]) (by simp)
        · cases hc
      · rename_i t x hty hxs; rw [hxs] at fin
        split at hc
        · rename_i e _
          cases hq : zeroT P e with
          | none => simp [hq] at hc
          | some z => simp only [hq, Option.bind_some] at hc; split at hc <;> simp at hc; exact fin hc (by simp [IOp.opnds]) (by simp)
        · cases hc
      · rename_i t u s x hty hxs; rw [hxs] at fin
        split at hc <;> first | (injection hc with hc; exact fin hc (by simp [IOp.opnds]) (by simp)) | cases hc
      all_goals first | (injection hc with hc; subst hc; exact Fine.raw hsel) | cases hc
    · cases hc
  | _ => simp at hc; subst hc; exact Fine.raw hsel

end Go.Proofs.YtpklgklmjhblpaaI
