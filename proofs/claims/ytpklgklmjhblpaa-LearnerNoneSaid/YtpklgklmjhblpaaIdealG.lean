/- All operations that turn nothing, in one. -/
import Derived.Test.YtpklgklmjhblpaaIdealF
namespace Go.Proofs.YtpklgklmjhblpaaI
set_option linter.unusedSimpArgs false
set_option linter.unusedVariables false
open Go

section
variable {P : Program} {n : Nat} {R : Ren} {H : IHeap} {w : World} {T : Env} {a : Act}

theorem place_run {s f : Field} {m : Nat} (hs : sizeT P f.type = some m) (hm : m ≠ 0) (b o : Nat) (w : World) : (fieldPlace ⟨b, o, none⟩ f).run P w = .ok ⟨b, o + f.offset, none⟩ w := by
  have _ := s
  simp only [fieldPlace, Sem.run_bind, run_sizeT hs, Result.andThen_ok]
  rw [if_neg hm]
  simp [add_lit]

theorem part1_rel {t : TypeId} {off : Nat} {cs cs' : Array Value} {v : Value} (ha : aggT P t = some false) (hr : VRs R cs.toList cs'.toList) (h : cs.toList[off]? = some v) (w : World) :
    ∃ v', (part t cs' off).run P w = .ok v' w ∧ VR R v v' := by
  obtain ⟨v', h1, h2⟩ := hr.get off v h
  refine ⟨v', ?_, h2⟩
  have h1' : cs'[off]? = some v' := by simpa using h1
  simp [part, run_aggT ha, h1']

theorem partN_rel {t : TypeId} {off m : Nat} {cs cs' : Array Value} (ha : aggT P t = some true) (hs : sizeT P t = some m) (hr : VRs R cs.toList cs'.toList) (w : World) :
    ∃ v', (part t cs' off).run P w = .ok v' w ∧ VR R (.agg ((cs.toList.drop off).take m).toArray) v' := by
  refine ⟨.agg (cs'.extract off (off + m)), ?_, ?_⟩
  · simp [part, run_aggT ha, run_sizeT hs]
  · refine .agg _ _ ?_
    have := (hr.drop off).take m
    rw [Array.toList_extract]
    simpa [List.extract_eq_take_drop, Nat.add_sub_cancel_left] using this

theorem arr1 {α : Type} {xs : Array α} {x : α} (h : xs.toList = [x]) : xs = #[x] := by cases xs; simp_all
theorem arr2 {α : Type} {xs : Array α} {x y : α} (h : xs.toList = [x, y]) : xs = #[x, y] := by cases xs; simp_all

theorem sim_builtin_rd {dst : Option Tmp} {b : Builtin} {args : Array Operand} {tys : Array TypeId} {ty : TypeId} {pos : String} {after : Array Edge} {g : Option (Nat × Bool)} {io : IOp} {v : Value}
    (hS : Sim R H w) (hT : TRel n R T a.tmps) (hok : okOs (Op.call ⟨.builtin b, args, tys⟩).operands.toList = true)
    (hc : compBuiltin P (.call ⟨.builtin b, args, tys⟩) ty b tys.toList args.toList = some io) (hk : io.kind = .rd) (h : ird P T H io = some v) :
    ∃ v', (execOp a.eval ⟨dst, .call ⟨.builtin b, args, tys⟩, ty, pos, after, g⟩).run P w = .ok (.value v') w ∧ VR R v v' := by
  have raw : io = .raw (.call ⟨.builtin b, args, tys⟩) ty → ∃ v', (execOp a.eval ⟨dst, .call ⟨.builtin b, args, tys⟩, ty, pos, after, g⟩).run P w = .ok (.value v') w ∧ VR R v v' := by
    intro he
    subst he
    exact sim_raw (o := ⟨dst, .call ⟨.builtin b, args, tys⟩, ty, pos, after, g⟩) hT (by intro _ _; simp) hok h w
  have run (x : Sem Value) (v' : Value) (hb : ∀ cs, builtin b tys ty cs (args.map a.eval) = (do pure (.value (← x)))) (hx : x.run P w = .ok v' w) :
      (execOp a.eval ⟨dst, .call ⟨.builtin b, args, tys⟩, ty, pos, after, g⟩).run P w = .ok (.value v') w := by
    show (builtin b tys ty _ (args.map a.eval)).run P w = _
    rw [hb]
    simp [hx]
  unfold compBuiltin at hc
  split at hc
  · rename_i t x hty hxs
    have hty' := arr1 hty
    have hxs' := arr1 hxs
    subst hty'; subst hxs'
    have hrx := ev_rel hT (okOs_mem hok (x := x) (by simp [Op.operands, Call.operands]))
    split at hc
    · rename_i e hu
      injection hc with hc; subst hc
      simp only [ird] at h
      split at h
      · rename_i ad ln cp he
        rw [he] at hrx
        injection h with h; subst h
        obtain ⟨x', c', hv⟩ := hrx.slice_len
        refine ⟨_, run _ _ (fun cs => rfl) ?_, .int _ _⟩
        simp [Builtin.len_, run_under hu, hv, goInt]
      · cases h
    · rename_i kt e hu
      injection hc with hc; subst hc
      simp only [ird] at h
      split at h
      · rename_i he
        rw [he] at hrx
        injection h with h; subst h
        have hv : a.eval x = .map none := by cases hq : a.eval x <;> rw [hq] at hrx <;> cases hrx; rfl
        refine ⟨_, run _ _ (fun cs => rfl) ?_, .int _ _⟩
        simp [Builtin.len_, run_under hu, hv, goInt]
      · rename_i r he
        rw [he] at hrx
        split at h
        · rename_i es cl hg
          injection h with h; subst h
          have hv : a.eval x = .map (some (R.blk r)) ∧ R.dom r := by
            cases hq : a.eval x <;> rw [hq] at hrx <;> cases hrx
            exact ⟨rfl, by assumption⟩
          have ho := hS.obj r hv.2
          rw [hg] at ho
          obtain ⟨es', hw, hrel⟩ := ho
          have hln := hrel.length
          refine ⟨.int .i64 es.length, run _ _ (fun cs => rfl) ?_, .int _ _⟩
          simp [Builtin.len_, run_under hu, hv.1, goInt, run_getMap P hw, hln]
        · cases h
      · cases h
    · rename_i k e hu
      injection hc with hc; subst hc
      simp only [ird, ev, Option.some.injEq] at h; subst h
      refine ⟨_, run _ _ (fun cs => rfl) ?_, .int _ _⟩
      simp [Builtin.len_, run_under hu, goInt]
    · rename_i ar hu
      split at hc
      · rename_i k e hu'
        injection hc with hc; subst hc
        simp only [ird, ev, Option.some.injEq] at h; subst h
        refine ⟨_, run _ _ (fun cs => rfl) ?_, .int _ _⟩
        simp [Builtin.len_, run_under hu, run_under hu', goInt]
      · cases hc
    · injection hc with hc; exact raw hc.symm
  · rename_i t x hty hxs
    have hty' := arr1 hty
    have hxs' := arr1 hxs
    subst hty'; subst hxs'
    have hrx := ev_rel hT (okOs_mem hok (x := x) (by simp [Op.operands, Call.operands]))
    split at hc
    · rename_i e hu
      injection hc with hc; subst hc
      simp only [ird] at h
      split at h
      · rename_i ad ln cp he
        rw [he] at hrx
        split at h
        · rename_i hcu
          injection h with h; subst h
          have hv : ∃ x', a.eval x = .slice x' ln cp := by
            cases hq : a.eval x <;> rw [hq] at hrx <;> cases hrx <;> first | exact ⟨_, rfl⟩ | (exfalso; unfold UNK at hcu; omega)
          obtain ⟨x', hv⟩ := hv
          refine ⟨_, run _ _ (fun cs => rfl) ?_, .int _ _⟩
          simp [Builtin.cap_, run_under hu, hv, goInt]
        · cases h
      · cases h
    · cases hc
  · split at hc
    · split at hc
      · split at hc
        · injection hc with hc; subst hc; cases hk
        · cases hc
      · split at hc
        · injection hc with hc; subst hc; cases hk
        · cases hc
      · split at hc
        · injection hc with hc; subst hc; cases hk
        · cases hc
      · cases hc
    · cases hc
  · split at hc
    · rename_i e _ _ _
      cases hq : sizeT P e with
      | none => simp [hq] at hc
      | some s => simp [hq] at hc; subst hc; cases hk
    · cases hc
  · split at hc
    · rename_i e _
      cases hq : zeroT P e with
      | none => simp [hq] at hc
      | some s =>
        simp only [hq, Option.bind_some] at hc
        split at hc
        · injection hc with hc; subst hc; cases hk
        · cases hc
    · cases hc
  · split at hc
    · injection hc with hc; subst hc; cases hk
    · cases hc
  all_goals first | (injection hc with hc; exact raw hc.symm) | cases hc

theorem sim_rd {o : Oper} {io : IOp} {v : Value} (hS : Sim R H w) (hT : TRel n R T a.tmps) (hc : compOp P o = some io) (hk : io.kind = .rd) (h : ird P T H io = some v) :
    ∃ v', (execOp a.eval o).run P w = .ok (.value v') w ∧ VR R v v' := by
  unfold compOp at hc
  split at hc
  · cases hc
  rename_i hok
  have hok : okOs o.op.operands.toList = true := by cases hq : okOs o.op.operands.toList with | true => rfl | false => exact absurd hq hok
  obtain ⟨dst, op, ty, pos, after, g⟩ := o
  simp only at hc hok
  have raw : (∀ cs b, op ≠ .select cs b) → io = .raw op ty → ∃ v', (execOp a.eval ⟨dst, op, ty, pos, after, g⟩).run P w = .ok (.value v') w ∧ VR R v v' := by
    intro hs he
    subst he
    exact sim_raw (o := ⟨dst, op, ty, pos, after, g⟩) hT hs hok h w
  cases op with
  | select cs b => simp at hc
  | move x =>
    simp at hc; subst hc
    simp only [ird, Option.some.injEq] at h; subst h
    exact ⟨_, rfl, ev_rel hT (okOs_mem hok (by simp [Op.operands]))⟩
  | assign x =>
    simp at hc; subst hc
    simp only [ird, Option.some.injEq] at h; subst h
    exact ⟨_, rfl, ev_rel hT (okOs_mem hok (by simp [Op.operands]))⟩
  | pick c x y =>
    simp at hc; subst hc
    have hrc := ev_rel hT (okOs_mem hok (x := c) (by simp [Op.operands]))
    have hrx := ev_rel hT (okOs_mem hok (x := x) (by simp [Op.operands]))
    have hry := ev_rel hT (okOs_mem hok (x := y) (by simp [Op.operands]))
    simp only [ird] at h
    cases he : ev T c <;> rw [he] at h hrc <;> simp at h
    rename_i b
    have hb := hrc.bool_inv
    subst h
    refine ⟨if b then a.eval x else a.eval y, ?_, ?_⟩
    · simp only [execOp, hb, asBool]; rfl
    · cases b <;> assumption
  | alloc t => cases hz : zeroT P t <;> simp [hz] at hc; subst hc; cases hk
  | box t x => simp at hc; subst hc; cases hk
  | build t parts =>
    simp only [] at hc
    split at hc
    · rename_i z fs hz hu
      cases hp : placesT P fs.toList with
      | none => simp [hp] at hc
      | some pl =>
        cases hq : partsT (pl[·]?) parts.toList with
        | none => simp [hp, hq] at hc
        | some ps =>
          simp [hp, hq] at hc
          subst hc
          simp only [ird] at h
          cases hf : fillL z.cells.toList (ps.map fun p => (p.1, ev T p.2)) with
          | none => rw [hf] at h; simp at h
          | some l =>
            rw [hf] at h
            simp only [Option.map_some, Option.some.injEq] at h
            subst h
            have hzr := run_zeroT hz w
            have hpl : ∀ (fl : List Field) (pl : List (Nat × Nat)), placesT P fl = some pl → (fl.mapM fun f => do pure (f.offset, ← sizeOf f.type) : Sem (List (Nat × Nat))).run P w = .ok pl w := by
              intro fl
              induction fl with
              | nil => intro pl hpl; simp only [placesT, Option.some.injEq] at hpl; subst hpl; rfl
              | cons f fl ih =>
                intro pl hpl
                simp only [placesT, bind, Option.bind, pure] at hpl
                cases hsf : sizeT P f.type with
                | none => simp [hsf] at hpl
                | some s =>
                  cases hrr : placesT P fl with
                  | none => simp [hsf, hrr] at hpl
                  | some r =>
                    simp [hsf, hrr] at hpl
                    subst hpl
                    simp only [List.mapM_cons, Sem.run_bind, run_sizeT hsf, Result.andThen_ok, Sem.run_pure, ih r hrr]
            obtain ⟨l', h1, h2⟩ := fill_rel hT parts.toList ps z.cells.toList l z.cells (place := fun i => pl.toArray[i]?) (by simpa using hq)
              (fun x hx => okOs_mem hok (by simp only [Op.operands]; exact List.mem_map.2 ⟨x, hx, rfl⟩)) (VR.of_ground R hzr.2).cells hf
            refine ⟨.agg l', ?_, .agg _ _ (by simpa using h2)⟩
            simp only [execOp, Instr.build, Sem.run_bind, hzr.1, Result.andThen_ok, run_under hu]
            have hm := hpl fs.toList pl hp
            have hm' : (fs.mapM fun f => do pure (f.offset, ← sizeOf f.type) : Sem (Array (Nat × Nat))).run P w = .ok pl.toArray w := by
              rw [Array.mapM_eq_mapM_toList]
              simp only [Sem.run_map, hm, Result.andThen_ok]
            rw [hm']
            simp only [Result.andThen_ok]
            have h1' : Instr.fill (fun x => pl.toArray[x]?) z.cells (parts.map fun (p : Nat × Operand) => (p.1, a.eval p.2)).toList = some l' := by
              rw [Array.toList_map]; exact h1
            rw [h1']
            rfl
    · rename_i z k e hz hu
      cases hsz : sizeT P e with
      | none => simp [hsz] at hc
      | some s =>
        cases hq : partsT (fun i => some (i * s, s)) parts.toList with
        | none => simp [hsz, hq] at hc
        | some ps =>
          simp [hsz, hq] at hc
          subst hc
          simp only [ird] at h
          cases hf : fillL z.cells.toList (ps.map fun p => (p.1, ev T p.2)) with
          | none => rw [hf] at h; simp at h
          | some l =>
            rw [hf] at h
            simp only [Option.map_some, Option.some.injEq] at h
            subst h
            have hzr := run_zeroT hz w
            obtain ⟨l', h1, h2⟩ := fill_rel hT parts.toList ps z.cells.toList l z.cells (place := fun i => some (i * s, s)) hq
              (fun x hx => okOs_mem hok (by simp only [Op.operands]; exact List.mem_map.2 ⟨x, hx, rfl⟩)) (VR.of_ground R hzr.2).cells hf
            refine ⟨.agg l', ?_, .agg _ _ (by simpa using h2)⟩
            simp only [execOp, Instr.build, Sem.run_bind, hzr.1, Result.andThen_ok, run_under hu, run_sizeT hsz]
            have h1' : Instr.fill (fun i => some (i * s, s)) z.cells (parts.map fun (p : Nat × Operand) => (p.1, a.eval p.2)).toList = some l' := by
              rw [Array.toList_map]; exact h1
            rw [h1']
            rfl
    · cases hc
  | buildSlice t len parts =>
    simp only [] at hc
    split at hc
    · split at hc
      · split at hc
        · rename_i e hu _ _ s z hs hz hcond
          cases hq : partsT (fun i => some (i * s, s)) parts.toList with
          | none => simp [hq] at hc
          | some ps => simp [hq] at hc; subst hc; cases hk
        · cases hc
      · cases hc
    · cases hc
  | insert t m k x => simp only [] at hc; split at hc <;> simp at hc; subst hc; cases hk
  | load t x =>
    simp only [] at hc
    have hrx := ev_rel hT (okOs_mem hok (x := x) (by simp [Op.operands]))
    split at hc
    · rename_i m hag hsz
      simp at hc; subst hc
      simp only [ird] at h
      split at h
      · rename_i b o he
        rw [he] at hrx
        obtain ⟨hx, hb⟩ := hrx.ptr_inv
        cases hl : H.loadL b o m with
        | none => rw [hl] at h; simp at h
        | some l =>
          rw [hl] at h
          simp only [Option.map_some, Option.some.injEq] at h
          subst h
          obtain ⟨arr, e, fr, hw, hle, hv⟩ := hS.loadL hb hl
          refine ⟨_, ?_, .agg _ _ (by simpa using hv)⟩
          simp only [execOp, Instr.loadAt, hx, Instr.sureAddr, pure_bind, Sem.run_bind]
          rw [run_loadVarN hag hsz hw hle]
          rfl
      · cases h
    · rename_i m hag hsz
      simp at hc; subst hc
      simp only [ird] at h
      split at h
      · rename_i b o he
        rw [he] at hrx
        obtain ⟨hx, hb⟩ := hrx.ptr_inv
        obtain ⟨arr, e, fr, v', hw, hv, hr⟩ := hS.load1 hb h
        refine ⟨v', ?_, hr⟩
        simp only [execOp, Instr.loadAt, hx, Instr.sureAddr, pure_bind, Sem.run_bind]
        rw [run_loadVar1 hag hw hv]
        rfl
      · cases h
    · cases hc
  | store t x y => simp only [] at hc; cases hsz : sizeT P t <;> simp [hsz] at hc; subst hc; cases hk
  | nilCheck x =>
    simp at hc; subst hc
    have hrx := ev_rel hT (okOs_mem hok (x := x) (by simp [Op.operands]))
    simp only [ird] at h
    split at h
    · rename_i ad he
      rw [he] at hrx
      injection h with h; subst h
      obtain ⟨y, hy⟩ := hrx.ptr_inv'
      refine ⟨.pointer (some y), ?_, hy ▸ hrx⟩
      simp only [execOp, hy]; rfl
    · rename_i t u he
      rw [he] at hrx
      injection h with h; subst h
      obtain ⟨u', hu, hr⟩ := hrx.iface_inv
      refine ⟨.iface t u', ?_, .iface _ _ _ hr⟩
      simp only [execOp, hu]; rfl
    · rename_i f b c he
      rw [he] at hrx
      injection h with h; subst h
      obtain ⟨b', c', hu, h1, h2⟩ := hrx.func_inv
      refine ⟨.func (.func f) b' c', ?_, .func _ _ _ _ _ h1 h2⟩
      simp only [execOp, hu]; rfl
    · cases h
  | binOp bop t x y yt =>
    simp only [] at hc
    cases bop <;> simp only [Option.some.injEq] at hc <;> subst hc <;> first
      | exact raw (by intro _ _; simp) rfl
      | exact sim_eq (.inl ⟨rfl, rfl⟩) hT hok h w
      | exact sim_eq (.inr ⟨rfl, rfl⟩) hT hok h w
  | convert s d x =>
    simp only [] at hc
    have hrx := ev_rel hT (okOs_mem hok (x := x) (by simp [Op.operands]))
    split at hc
    · split at hc
      · simp at hc; subst hc; cases hk
      · cases hc
    · rename_i e hus hud
      split at hc
      · rename_i hue
        simp at hc; subst hc
        simp only [ird] at h
        split at h
        · rename_i ln cp he
          rw [he] at hrx
          injection h with h; subst h
          obtain ⟨hv, _, _⟩ := hrx.slice_nil
          refine ⟨.string .empty, ?_, .string _⟩
          simp only [execOp, convert, Sem.run_bind, run_under hus, run_under hud, Result.andThen_ok, hv, run_under hue]
          rfl
        · rename_i b o ln cp he
          rw [he] at hrx
          cases hl : H.loadL b o ln with
          | none => rw [hl] at h; simp at h
          | some l =>
            cases hb : bytesL l with
            | none => rw [hl] at h; simp [hb] at h
            | some l8 =>
              rw [hl] at h
              simp only [Option.bind_some, hb, Option.map_some, Option.some.injEq] at h
              subst h
              obtain ⟨hd, _, hcase⟩ := hrx.slice_some
              obtain ⟨arr, e', fr, hw, hle, hv⟩ := hS.loadL hd hl
              refine ⟨.string ⟨l8.toArray⟩, ?_, .string _⟩
              have hall : ∃ (ad : Addr) (cs : Array Value) (c' : Nat), a.eval x = .slice (some ad) ln c' ∧ (loadCells ad ln).run P w = .ok cs w ∧ bytesL cs.toList = some l8 := by
                rcases hcase with ⟨c', hv'⟩ | ⟨hl0, a', hv'⟩
                · exact ⟨_, _, c', hv', run_loadCells P hw hle, by simpa using bytesL_rel hv hb⟩
                · subst hl0
                  refine ⟨a', #[], 0, hv', rfl, ?_⟩
                  have : l = [] := by have := hv.length; simpa using this
                  subst this
                  exact hb
              obtain ⟨ad, cs, c', h1, h2, h3⟩ := hall
              simp only [execOp, convert, Sem.run_bind, run_under hus, run_under hud, Result.andThen_ok, h1, run_under hue, Conv.bytesToString]
              rw [h2]
              simp only [Result.andThen_ok]
              have h4 := bytes_run P w cs.toList l8 .empty h3
              rw [← Array.forIn_toList]
              have h5 : (⟨ByteArray.empty.data ++ l8.toArray⟩ : ByteArray) = ⟨l8.toArray⟩ := by simp
              rw [h5] at h4
              exact (congrArg (fun r : Result ByteArray => (r.andThen fun s w' => (pure (Value.string s) : Sem Value).run P w').andThen fun a w' => (pure (Next.value a) : Sem Next).run P w') h4).trans rfl
        · cases h
      · cases hc
    · injection hc with hc; exact raw (by intro _ _; simp) hc.symm
  | makeInterface t x =>
    simp only [] at hc
    have hrx := ev_rel hT (okOs_mem hok (x := x) (by simp [Op.operands]))
    split at hc
    · cases hc
    · rename_i d hni hu
      simp at hc; subst hc
      simp only [ird, Option.some.injEq] at h; subst h
      refine ⟨.iface t (a.eval x), ?_, .iface _ _ _ hrx⟩
      simp only [execOp, Instr.makeInterface, Sem.run_bind, run_under hu, Result.andThen_ok]
      rfl
    · cases hc
  | makeFunc fn first captured =>
    cases fn with
    | func f =>
      simp at hc; subst hc
      simp only [ird, Option.some.injEq] at h; subst h
      refine ⟨.func (.func f) (first.map a.eval) (captured.map a.eval), rfl, .func _ _ _ _ _ ?_ ?_⟩
      · rw [Array.toList_map]
        simpa using VRs.map first.toList fun x hx => ev_rel hT (okOs_mem hok (x := x) (by simp only [Op.operands]; simpa using .inl (by simpa using hx)))
      · rw [Array.toList_map]
        simpa using VRs.map captured.toList fun x hx => ev_rel hT (okOs_mem hok (x := x) (by simp only [Op.operands]; simpa using .inr (by simpa using hx)))
    | _ => simp only [Option.some.injEq] at hc; exact raw (by intro _ _; simp) hc.symm
  | makeMap t r =>
    cases r with
    | none => simp at hc; subst hc; cases hk
    | some r => simp only [Option.some.injEq] at hc; exact raw (by intro _ _; simp) hc.symm
  | makeSlice t l c =>
    simp only [] at hc
    split at hc
    · split at hc
      · split at hc
        · injection hc with hc; subst hc; cases hk
        · cases hc
      · cases hc
    · cases hc
  | slice t x lo hi mx =>
    simp only [] at hc
    have hox : okO x = true := okOs_mem hok (x := x) (by simp [Op.operands])
    have hrx := ev_rel hT hox
    have hlo : ∀ y, lo = some y → okO y = true := fun y hy => okOs_mem hok (by subst hy; simp [Op.operands])
    have hhi : ∀ y, hi = some y → okO y = true := fun y hy => okOs_mem hok (by subst hy; simp [Op.operands])
    have hmx : ∀ y, mx = some y → okO y = true := fun y hy => okOs_mem hok (by subst hy; simp [Op.operands])
    split at hc
    · rename_i e hu
      cases hsz : sizeT P e with
      | none => simp [hsz] at hc
      | some s =>
        simp only [hsz, Option.bind_some] at hc
        split at hc
        · rename_i hs0
          injection hc with hc; subst hc
          simp only [ird] at h
          split at h
          · rename_i ad len cap he
            rw [he] at hrx
            split at h
            · rename_i l hh m hb
              have hlh : l ≤ hh ∧ hh ≤ m.getD hh := by
                unfold boundsI at hb
                split at hb
                · split at hb
                  · rename_i hq
                    simp only [Option.some.injEq, Prod.mk.injEq] at hb
                    obtain ⟨rfl, rfl, rfl⟩ := hb
                    exact hq
                  · cases hb
                · cases hb
              obtain ⟨x', c', hv, h1, h2, h3⟩ := sliceI_rel hS hrx hlh.1 (fun q hq => by have := hlh.2; rw [hq] at this; simpa using this) h
              obtain ⟨h4, _, _⟩ := run_bounds (P := P) (w := w) (isS := true) hT hlo hhi hmx hb h1 h2
              refine ⟨_, ?_, h3⟩
              simp only [execOp, Instr.sliceAt, Sem.run_bind, run_under hu, Result.andThen_ok, Instr.slice, hv]
              rw [h4]
              simp only [Result.andThen_ok, run_sizeT hsz]
              rfl
            · cases h
          · cases h
        · cases hc
    · rename_i k e hu
      cases hsz : sizeT P e with
      | none => simp [hsz] at hc
      | some s =>
        simp only [hsz, Option.bind_some] at hc
        split at hc
        · rename_i hs0
          injection hc with hc; subst hc
          simp only [ird] at h
          split at h
          · rename_i b o he
            rw [he] at hrx
            obtain ⟨hx, hd⟩ := hrx.ptr_inv
            split at h
            · rename_i l hh m hb
              split at h
              · rename_i hku
                have hlh : l ≤ hh ∧ hh ≤ m.getD hh := by
                  unfold boundsI at hb
                  split at hb
                  · split at hb
                    · rename_i hq
                      simp only [Option.some.injEq, Prod.mk.injEq] at hb
                      obtain ⟨rfl, rfl, rfl⟩ := hb
                      exact hq
                    · cases hb
                  · cases hb
                obtain ⟨x', c', hv, h1, h2, h3⟩ := sliceI_rel hS (VR.sliceEx b o k k hd hku) hlh.1 (fun q hq => by have := hlh.2; rw [hq] at this; simpa using this) h
                injection hv with hv1 hv2 hv3
                subst hv1; subst hv3
                obtain ⟨h4, _, _⟩ := run_bounds (P := P) (w := w) (isS := false) hT hlo hhi hmx hb h1 h2
                refine ⟨_, ?_, h3⟩
                simp only [execOp, Instr.sliceAt, Sem.run_bind, run_under hu, Result.andThen_ok, hx, Instr.sureAddr, pure_bind]
                rw [h4]
                simp only [Result.andThen_ok, run_sizeT hsz]
                by_cases hz : m.getD k = l
                · simp only [hz, if_true]; rfl
                · simp only [if_neg hz]; rfl
              · cases h
            · cases h
          · cases h
        · cases hc
    · injection hc with hc; exact raw (by intro _ _; simp) hc.symm
    · cases hc
  | fieldAddr t x i =>
    simp only [] at hc
    have hrx := ev_rel hT (okOs_mem hok (x := x) (by simp [Op.operands]))
    split at hc
    · rename_i fs hu
      split at hc
      · rename_i f hf
        cases hsz : sizeT P f.type with
        | none => simp [hsz] at hc
        | some s =>
          simp only [hsz, Option.bind_some] at hc
          split at hc
          · cases hc
          · rename_i hs0
            injection hc with hc; subst hc
            simp only [ird] at h
            split at h
            · rename_i b o he
              rw [he] at hrx
              injection h with h; subst h
              obtain ⟨hx, hd⟩ := hrx.ptr_inv
              refine ⟨_, ?_, by have := VR.ptr (R := R) b (o + f.offset) hd; exact this⟩
              have hf' : fs[i]? = some f := by simpa using hf
              simp only [execOp, Instr.fieldAt, Sem.run_bind, run_under hu, Result.andThen_ok, hf', hx, Instr.sureAddr, pure_bind]
              rw [place_run (s := f) hsz hs0]
              simp [Nat.add_assoc]
            · cases h
      · cases hc
    · cases hc
  | field t x i =>
    simp only [] at hc
    have hrx := ev_rel hT (okOs_mem hok (x := x) (by simp [Op.operands]))
    split at hc
    · rename_i fs hu
      split at hc
      · rename_i f hf
        have hf' : fs[i]? = some f := by simpa using hf
        split at hc
        · rename_i m hag hsz
          simp at hc; subst hc
          simp only [ird] at h
          split at h
          · rename_i cs he
            rw [he] at hrx
            obtain ⟨cs', hx, hrs⟩ := hrx.agg_inv
            split at h
            · rename_i hle
              injection h with h; subst h
              obtain ⟨v', h1, h2⟩ := partN_rel (P := P) (off := f.offset) hag hsz hrs w
              refine ⟨v', ?_, h2⟩
              simp only [execOp, Instr.field, Sem.run_bind, run_under hu, Result.andThen_ok, hf', hx, asAgg, pure_bind, h1]
              rfl
            · cases h
          · cases h
        · rename_i m hag hsz
          simp at hc; subst hc
          simp only [ird] at h
          split at h
          · rename_i cs he
            rw [he] at hrx
            obtain ⟨cs', hx, hrs⟩ := hrx.agg_inv
            obtain ⟨v', h1, h2⟩ := part1_rel hag hrs h w
            refine ⟨v', ?_, h2⟩
            simp only [execOp, Instr.field, Sem.run_bind, run_under hu, Result.andThen_ok, hf', hx, asAgg, pure_bind, h1]
            rfl
          · cases h
        · cases hc
      · cases hc
    · cases hc
  | indexAddr t x i =>
    simp only [] at hc
    have hrx := ev_rel hT (okOs_mem hok (x := x) (by simp [Op.operands]))
    have hri := ev_rel hT (okOs_mem hok (x := i) (by simp [Op.operands]))
    split at hc
    · rename_i e hu
      cases hsz : sizeT P e with
      | none => simp [hsz] at hc
      | some s =>
        simp only [hsz, Option.map_some, Option.some.injEq] at hc
        subst hc
        simp only [ird] at h
        split at h
        · rename_i b o len cap k j he hj
          rw [he] at hrx
          rw [hj] at hri
          have hi := hri.int_inv
          split at h
          · rename_i hcond
            injection h with h; subst h
            obtain ⟨hd, _, hcase⟩ := hrx.slice_some
            rcases hcase with ⟨c', hv⟩ | ⟨hl0, a', hv⟩
            · refine ⟨_, ?_, by have := VR.ptr (R := R) b (o + j.toNat * s) hd; exact this⟩
              simp only [execOp, Instr.indexAt, hi, asIntOf, pure_bind, Sem.run_bind, run_under hu, Result.andThen_ok, hv]
              rw [if_pos hcond]
              simp only [Sem.run_bind, run_sizeT hsz, Result.andThen_ok, add_lit, Sem.run_pure]
              rw [Nat.add_assoc]
            · exfalso; omega
          · cases h
        · cases h
    · rename_i k e hu
      split at hc
      · rename_i hk1
        cases hsz : sizeT P e with
        | none => simp [hsz] at hc
        | some s =>
          simp only [hsz, Option.map_some, Option.some.injEq] at hc
          subst hc
          simp only [ird] at h
          split at h
          · rename_i b o k' j he hj
            rw [he] at hrx
            rw [hj] at hri
            have hi := hri.int_inv
            split at h
            · rename_i hcond
              injection h with h; subst h
              obtain ⟨hx, hd⟩ := hrx.ptr_inv
              refine ⟨_, ?_, by have := VR.ptr (R := R) b (o + j.toNat * s) hd; exact this⟩
              simp only [execOp, Instr.indexAt, hi, asIntOf, pure_bind, Sem.run_bind, run_under hu, Result.andThen_ok, hx, Instr.sureAddr]
              rw [if_pos hcond]
              simp only [Sem.run_bind, run_sizeT hsz, Result.andThen_ok, add_lit, Sem.run_pure]
              rw [Nat.add_assoc]
            · cases h
          · cases h
      · cases hc
    · cases hc
  | index t x i =>
    simp only [] at hc
    have hrx := ev_rel hT (okOs_mem hok (x := x) (by simp [Op.operands]))
    have hri := ev_rel hT (okOs_mem hok (x := i) (by simp [Op.operands]))
    split at hc
    · injection hc with hc; exact raw (by intro _ _; simp) hc.symm
    · rename_i k e hu
      split at hc
      · rename_i s hag hsz
        simp at hc; subst hc
        simp only [ird] at h
        split at h
        · rename_i cs k' j he hj
          rw [he] at hrx
          rw [hj] at hri
          have hi := hri.int_inv
          split at h
          · rename_i hcond
            injection h with h; subst h
            obtain ⟨cs', hx, hrs⟩ := hrx.agg_inv
            obtain ⟨v', h1, h2⟩ := partN_rel (P := P) (off := j.toNat * s) hag hsz hrs w
            refine ⟨v', ?_, h2⟩
            simp only [execOp, Instr.index, hi, asIntOf, pure_bind, Sem.run_bind, run_under hu, Result.andThen_ok, hx]
            rw [if_pos ⟨hcond.1, hcond.2.1⟩]
            simp only [Sem.run_bind, run_sizeT hsz, Result.andThen_ok, h1]
            rfl
          · cases h
        · cases h
      · rename_i hag hsz
        simp at hc; subst hc
        simp only [ird] at h
        split at h
        · rename_i cs k' j he hj
          rw [he] at hrx
          rw [hj] at hri
          have hi := hri.int_inv
          split at h
          · rename_i hcond
            obtain ⟨cs', hx, hrs⟩ := hrx.agg_inv
            obtain ⟨v', h1, h2⟩ := part1_rel (P := P) (off := j.toNat) hag hrs h w
            refine ⟨v', ?_, h2⟩
            simp only [execOp, Instr.index, hi, asIntOf, pure_bind, Sem.run_bind, run_under hu, Result.andThen_ok, hx]
            rw [if_pos hcond]
            simp only [Sem.run_bind, run_sizeT hsz, Result.andThen_ok, Nat.mul_one, h1]
            rfl
          · cases h
        · cases h
      · cases hc
    · cases hc
  | lookup t m k ok =>
    simp only [] at hc
    split at hc
    · rename_i kt e hu
      cases hz : zeroT P e with
      | none => simp [hz] at hc
      | some z =>
        simp only [hz, Option.map_some, Option.some.injEq] at hc
        subst hc
        exact sim_lookup hS hT hu hz (okOs_mem hok (by simp [Op.operands])) (okOs_mem hok (by simp [Op.operands])) h
    · cases hc
  | mapUpdate t m k x => simp only [] at hc; split at hc <;> simp at hc; subst hc; cases hk
  | typeAssert x xt t ok =>
    simp only [] at hc
    have hrx := ev_rel hT (okOs_mem hok (x := x) (by simp [Op.operands]))
    split at hc
    · cases hc
    · rename_i d hni hu
      cases hz : zeroT P t with
      | none => simp [hz] at hc
      | some z =>
        simp only [hz, Option.map_some, Option.some.injEq] at hc
        subst hc
        have hzr := run_zeroT hz w
        have hzg := VR.of_ground R hzr.2
        simp only [ird] at h
        split at h
        · rename_i t' u he
          rw [he] at hrx
          obtain ⟨u', hx, hru⟩ := hrx.iface_inv
          split at h
          · rename_i ht
            subst ht
            injection h with h; subst h
            refine ⟨if ok then .tuple #[u', .bool true] else u', ?_, ?_⟩
            · simp only [execOp, Instr.typeAssert, Sem.run_bind, run_under hu, Result.andThen_ok, hx]
              cases d <;> first | exact absurd rfl (hni _) | simp
            · cases ok
              · exact hru
              · exact .tuple _ _ (.cons hru (.cons (.bool _) .nil))
          · rename_i ht
            split at h
            · rename_i hk1
              injection h with h; subst h
              refine ⟨.tuple #[z, .bool false], ?_, .tuple _ _ (.cons hzg (.cons (.bool _) .nil))⟩
              simp only [execOp, Instr.typeAssert, Sem.run_bind, run_under hu, Result.andThen_ok, hx]
              cases d <;> first | exact absurd rfl (hni _) | simp [hk1, hzr.1, ht]
            · cases h
        · rename_i he
          rw [he] at hrx
          have hx : a.eval x = .nilIface := by cases hq : a.eval x <;> rw [hq] at hrx <;> cases hrx
          split at h
          · rename_i hk1
            injection h with h; subst h
            refine ⟨.tuple #[z, .bool false], ?_, .tuple _ _ (.cons hzg (.cons (.bool _) .nil))⟩
            simp only [execOp, Instr.typeAssert, Sem.run_bind, run_under hu, Result.andThen_ok, hx]
            cases d <;> first | exact absurd rfl (hni _) | simp [hk1, hzr.1]
          · cases h
        · cases h
    · cases hc
  | extract x i =>
    simp at hc; subst hc
    have hrx := ev_rel hT (okOs_mem hok (x := x) (by simp [Op.operands]))
    simp only [ird] at h
    split at h
    · rename_i vs he
      rw [he] at hrx
      obtain ⟨vs', hx, hrs⟩ := hrx.tuple_inv
      obtain ⟨v', h1, h2⟩ := hrs.get i v h
      have h1' : vs'[i]? = some v' := by simpa using h1
      refine ⟨v', ?_, h2⟩
      simp only [execOp, Instr.extract, hx, h1']
      rfl
    · cases h
  | call c =>
    simp only [] at hc
    split at hc
    · injection hc with hc; subst hc; cases hk
    · injection hc with hc; subst hc; cases hk
    · rename_i b hcb
      obtain ⟨callee, args, tys⟩ := c
      simp only at hcb
      subst hcb
      exact sim_builtin_rd hS hT hok hc hk h
    · cases hc
  | _ => simp only [Option.some.injEq] at hc; exact raw (by intro _ _; simp) hc.symm

end
end Go.Proofs.YtpklgklmjhblpaaI
