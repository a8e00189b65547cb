/- All operations that turn the heap, in one. -/
import Derived.Test.YtpklgklmjhblpaaIdealJ
namespace Go.Proofs.YtpklgklmjhblpaaI
set_option linter.unusedSimpArgs false
set_option linter.unusedVariables false
open Go

section
variable {P : Program} {n : Nat} {R : Ren} {H : IHeap} {w : World} {T : Env} {a : Act}

/-- What an acting operation has done. -/
def Acted (P : Program) (R : Ren) (H : IHeap) (w : World) (s : Sem Next) (v : Value) (H' : IHeap) : Prop :=
  ∃ v' w' R', (s.run P w = .ok (.value v') w' ∨ (s.run P w = .ok .skip w' ∧ v' = undef)) ∧ VR R' v v' ∧ Sim R' H' w' ∧ Ext R H w R' H' w'

theorem append_eq {tys : Array TypeId} {ty t u e : TypeId} {s' x' : Value} {size : Nat} {base : Option Addr} {sLen sCap m : Nat} {d : TypeDesc}
    (hty : tys = #[t, u]) (hu : P.underlying t = some (.slice e)) (hs : sizeT P e = some size) (hd : P.underlying u = some d) (hnz : ∀ k, d ≠ .int k) (hs' : s' = .slice base sLen sCap)
    (hlen : ∀ w, (Builtin.lenOf x').run P w = .ok m w) (w : World) :
    (Builtin.append_ tys ty #[s', x']).run P w = (contA e size false s' base sLen sCap m x' (Builtin.firstCells size m x')).run P w := by
  subst hty; subst hs'
  unfold Builtin.append_ contA
  simp only [List.getElem?_toArray, List.getElem?_cons_zero, List.getElem?_cons_succ, Sem.run_bind, run_under hu, Result.andThen_ok, run_sizeT hs, run_under hd]
  cases d <;> first | exact absurd rfl (hnz _) | skip
  all_goals
    simp only [Sem.run_pure, Result.andThen_ok]
    rw [if_neg (by decide)]
    simp only [Sem.run_bind, hlen, Result.andThen_ok]
    rfl

/-- The zeros that are appended. -/
def zerosApp (e : TypeId) (size m : Nat) (x : Value) : Sem (Array Value) :=
  if (!true) = true then Builtin.firstCells size m x
  else if m * size = 0 then pure #[]
  else do pure (Builtin.zeroCells (← zeroValue e).cells m)

theorem append_eqZ {tys : Array TypeId} {ty t u e : TypeId} {s' : Value} {size bytes : Nat} {base : Option Addr} {sLen sCap : Nat} {k kx : IntKind} {q : Int}
    (hty : tys = #[t, u]) (hu : P.underlying t = some (.slice e)) (hs : sizeT P e = some size) (hb : bytesT P e = some bytes) (hd : P.underlying u = some (.int k)) (hs' : s' = .slice base sLen sCap)
    (h0 : 0 ≤ q) (h1 : q ≤ 17592186044416) (h2 : q * bytes ≤ 17592186044416) (w : World) :
    (Builtin.append_ tys ty #[s', .int kx q]).run P w = (contA e size true s' base sLen sCap q.toNat (.int kx q) (zerosApp e size q.toNat (.int kx q))).run P w := by
  subst hty; subst hs'
  obtain ⟨i, hi, hib⟩ : ∃ i, P.info? e = some i ∧ i.bytes = bytes := by
    unfold bytesT at hb
    cases hi : P.info? e with
    | none => simp [hi] at hb
    | some i => simp [hi] at hb; exact ⟨i, rfl, hb⟩
  have hwl : IntKind.i64.wrap q = q := by simp [IntKind.wrap, IntKind.bits, IntKind.signed]; omega
  unfold Builtin.append_ contA
  simp only [List.getElem?_toArray, List.getElem?_cons_zero, List.getElem?_cons_succ, Sem.run_bind, run_under hu, Result.andThen_ok, run_sizeT hs, run_under hd]
  simp only [asInt, asIntOf, pure_bind, hwl, Sem.run_pure, Result.andThen_ok, if_true]
  rw [if_neg (by omega)]
  simp only [Sem.run_bind, run_typeInfo hi, Result.andThen_ok, hib]
  rw [if_neg (by omega)]
  rfl

theorem run_builtin {dst : Option Tmp} {b : Builtin} {args : Array Operand} {tys : Array TypeId} {ty : TypeId} {pos : String} {after : Array Edge} {g : Option (Nat × Bool)} {x : Sem Value} {v' : Value} {w' : World}
    (hb : ∀ cs, builtin b tys ty cs (args.map a.eval) = (do pure (.value (← x)))) (hx : x.run P w = .ok v' w') :
    (execOp a.eval ⟨dst, .call ⟨.builtin b, args, tys⟩, ty, pos, after, g⟩).run P w = .ok (.value v') w' := by
  show (builtin b tys ty _ (args.map a.eval)).run P w = _
  rw [hb]
  simp [hx]

theorem lenOf_rel {s s' : Value} {m : Nat} (hv : VR R s s') (h : lenOfI s = some m) (w : World) : (Builtin.lenOf s').run P w = .ok m w := by
  unfold lenOfI at h
  split at h
  · injection h with h; subst h
    obtain ⟨x', c', rfl⟩ := hv.slice_len
    rfl
  · cases h

theorem sim_setMap {r cl cl2 : Nat} {es es2 : List MapEntry} {es' es2' : Array MapEntry} (hS : Sim R H w) (hd : R.dom r) (hg : H.get r = some (.map es cl)) (hw : w.heap[R.blk r]? = some (.map es' cl))
    (h2 : ERels R es2 es2'.toList) (P : Program) : ∃ w', (setObj (R.blk r) (.map es2' cl2)).run P w = .ok () w' ∧ Sim R (H.set r (.map es2 cl2)) w' ∧ Ext R H w R (H.set r (.map es2 cl2)) w' := by
  have hlt : R.blk r < w.heap.size := (Array.getElem?_eq_some_iff.1 hw).1
  refine ⟨{ w with heap := w.heap.setIfInBounds (R.blk r) (.map es2' cl2) }, by simp [setObj, Sem.run, hw], ?_⟩
  refine sim_set hS hd hg (by unfold live; rw [hg]; trivial) (by unfold liveRW; rw [hg]; trivial) ⟨by simp, fun j hj => ?_, rfl, rfl, rfl⟩ ⟨es2', by simp [hlt], h2⟩ (by simp)
  have : R.blk r ≠ j := fun e => hj e.symm
  simp [Array.getElem?_setIfInBounds_ne this]

theorem sim_builtin_ac {dst : Option Tmp} {b : Builtin} {args : Array Operand} {tys : Array TypeId} {ty : TypeId} {pos : String} {after : Array Edge} {g : Option (Nat × Bool)} {io : IOp} {v : Value} {H' : IHeap}
    (hS : Sim R H w) (hT : TRel n R T a.tmps) (hok : okOs (Op.call ⟨.builtin b, args, tys⟩).operands.toList = true)
    (hc : compBuiltin P (.call ⟨.builtin b, args, tys⟩) ty b tys.toList args.toList = some io) (h : iact P T H io = some (v, H')) :
    Acted P R H w (execOp a.eval ⟨dst, .call ⟨.builtin b, args, tys⟩, ty, pos, after, g⟩) v H' := by
  unfold compBuiltin at hc
  split at hc
  · exfalso
    split at hc <;> first | (injection hc with hc; subst hc; cases h) | (split at hc <;> first | (injection hc with hc; subst hc; cases h) | cases hc)
  · exfalso
    split at hc <;> first | (injection hc with hc; subst hc; cases h) | cases hc
  · -- append
    rename_i t u s x hty hxs
    have hty' := arr2 hty
    have hxs' := arr2 hxs
    subst hty'; subst hxs'
    have hrs := ev_rel hT (okOs_mem hok (x := s) (by simp [Op.operands, Call.operands]))
    have hrx := ev_rel hT (okOs_mem hok (x := x) (by simp [Op.operands, Call.operands]))
    split at hc
    case h_2 => cases hc
    rename_i e hu
    split at hc
    · rename_i e2 size bytes z hu2 hs hb hz
      split at hc
      case isFalse => cases hc
      rename_i hzs
      injection hc with hc; subst hc
      simp only [iact] at h
      split at h
      case h_2 => cases h
      rename_i m hm
      cases hf : firstI H size m (ev T x) with
      | none => rw [hf] at h; simp at h
      | some news =>
        rw [hf] at h
        simp only [Option.bind_some] at h
        obtain ⟨new, hnew, hrel⟩ := first_rel (P := P) hS hrx (fun q hq => by rw [hm] at hq; injection hq with hq; omega) hf
        obtain ⟨base, sLen, sCap, v', w', R', h1, h2, h3, h4, h5⟩ := sim_append (zeros := false) (x := a.eval x) hS hrs hb hz hzs h hnew hrel
        refine ⟨v', w', R', .inl (run_builtin (fun cs => rfl) ?_), h3, h4, h5⟩
        have := append_eq (ty := ty) (x' := a.eval x) rfl hu hs hu2 (by simp) h1 (fun w => lenOf_rel hrx hm w) w
        simp only [List.map_toArray, List.map_cons, List.map_nil]
        rw [this]
        exact h2
    · rename_i z hu2 hs hb hz
      split at hc
      case isFalse => cases hc
      rename_i hzs
      injection hc with hc; subst hc
      simp only [iact] at h
      split at h
      case h_2 => cases h
      rename_i tx hx
      rw [hx] at hrx
      have hxv := hrx.string_inv
      have hnew : ∀ d, (Builtin.firstCells 1 tx.size (a.eval x)).run P { w with drawn := d } = .ok (tx.data.map fun b => Value.int .u8 b.toNat) { w with drawn := d } := by
        intro d
        rw [hxv]
        simp only [Builtin.firstCells]
        have : tx.extract 0 tx.size = tx := by simp
        rw [this]
        rfl
      obtain ⟨base, sLen, sCap, v', w', R', h1, h2, h3, h4, h5⟩ := sim_append (zeros := false) (x := a.eval x) (new := tx.data.map fun b => Value.int .u8 b.toNat) hS hrs hb hz hzs h hnew
        (by rw [Array.toList_map]; exact VRs.refl_of _ fun y hy => by obtain ⟨q, _, rfl⟩ := List.mem_map.1 hy; exact .int _ _)
      refine ⟨v', w', R', .inl (run_builtin (fun cs => rfl) ?_), h3, h4, h5⟩
      have := append_eq (ty := ty) (x' := a.eval x) (m := tx.size) rfl hu hs hu2 (by simp) h1 (fun w => by rw [hxv]; rfl) w
      simp only [List.map_toArray, List.map_cons, List.map_nil]
      rw [this]
      exact h2
    · rename_i k size bytes z hu2 hs hb hz
      split at hc
      case isFalse => cases hc
      rename_i hzs
      injection hc with hc; subst hc
      simp only [iact] at h
      split at h
      case h_2 => cases h
      rename_i kx q hx
      rw [hx] at hrx
      have hxv := hrx.int_inv
      split at h
      case isFalse => cases h
      rename_i hq
      have hzl : z.cells.toList.length = size := by simpa using hzs
      rw [hzl] at h
      have hzr := fun w => (run_zeroT (P := P) hz w)
      have hnew : ∀ d, (zerosApp e size q.toNat (.int kx q)).run P { w with drawn := d } = .ok (Builtin.zeroCells z.cells q.toNat) { w with drawn := d } := by
        intro d
        unfold zerosApp
        rw [if_neg (by decide)]
        by_cases h0 : q.toNat * size = 0
        · rw [if_pos h0]
          have : Builtin.zeroCells z.cells q.toNat = #[] := by apply Array.eq_empty_of_size_eq_zero; rw [zeroCells_size, hzs]; exact h0
          rw [this]
          rfl
        · rw [if_neg h0]
          simp only [Sem.run_bind, (hzr _).1, Result.andThen_ok, Sem.run_pure]
      obtain ⟨base, sLen, sCap, v', w', R', h1, h2, h3, h4, h5⟩ := sim_append (zeros := true) (x := .int kx q) (app := zerosApp e size q.toNat (.int kx q)) hS hrs hb hz hzs h hnew (by simpa using zeroCells_rel R (hzr w).2 q.toNat)
      refine ⟨v', w', R', .inl (run_builtin (fun cs => rfl) ?_), h3, h4, h5⟩
      have := append_eqZ (ty := ty) (kx := kx) (q := q) rfl hu hs hb hu2 h1 hq.1 hq.2.2 hq.2.1 w
      simp only [List.map_toArray, List.map_cons, List.map_nil, hxv]
      rw [this]
      exact h2
    · cases hc
  · -- copy
    rename_i t u d s hty hxs
    have hty' := arr2 hty
    have hxs' := arr2 hxs
    subst hty'; subst hxs'
    have hrd := ev_rel hT (okOs_mem hok (x := d) (by simp [Op.operands, Call.operands]))
    have hrs := ev_rel hT (okOs_mem hok (x := s) (by simp [Op.operands, Call.operands]))
    split at hc
    case h_2 => cases hc
    rename_i e e2 hu hu2
    cases hsz : sizeT P e with
    | none => simp [hsz] at hc
    | some size =>
      simp only [hsz, Option.map_some, Option.some.injEq] at hc
      subst hc
      simp only [iact] at h
      split at h
      case h_2 => cases h
      rename_i ad dl cp sl hd hl
      rw [hd] at hrd
      cases hf : firstI H size (Nat.min sl dl) (ev T s) with
      | none => rw [hf] at h; simp at h
      | some cs =>
        rw [hf] at h
        simp only [Option.bind_some] at h
        obtain ⟨new, hnew0, hrel⟩ := first_rel (P := P) hS hrs (fun q hq => by rw [hl] at hq; injection hq with hq; subst hq; exact Nat.min_le_left _ _) hf
        have hnew := hnew0 w.drawn
        have hrun : ∀ (base : Option Addr) (c' : Nat), a.eval d = .slice base dl c' → ∀ w', ((match base with | some a => storeCells a new.toList | none => pure () : Sem Unit).run P w = .ok () w') →
            (execOp a.eval ⟨dst, .call ⟨.builtin .copy, #[d, s], #[t, u]⟩, ty, pos, after, g⟩).run P w = .ok (.value (.int .i64 (Nat.min sl dl : Nat))) w' := by
          intro base c' hb w' hst
          refine run_builtin (fun cs => rfl) ?_
          simp only [List.map_toArray, List.map_cons, List.map_nil, Builtin.copy_, List.getElem?_toArray, List.getElem?_cons_zero, List.getElem?_cons_succ, Sem.run_bind, run_under hu, Result.andThen_ok, hb, lenOf_rel hrs hl, run_sizeT hsz]
          have hnw : (Builtin.firstCells size (Nat.min sl dl) (a.eval s)).run P w = .ok new w := hnew
          rw [hnw]
          simp only [Result.andThen_ok]
          cases base with
          | none => simp at hst; subst hst; rfl
          | some x =>
            simp only [Sem.run_bind]
            rw [hst]
            rfl
        split at h
        · rename_i h0
          simp only [Option.some.injEq, Prod.mk.injEq] at h
          obtain ⟨rfl, rfl⟩ := h
          have hne : new = #[] := by
            apply Array.eq_empty_of_size_eq_zero
            have := hrel.length
            rw [h0] at this; simpa using this.symm
          obtain ⟨base, c', hb⟩ := hrd.slice_len
          refine ⟨_, w, R, .inl (hrun base c' hb w ?_), .int _ _, hS, Ext.refl _ _ _⟩
          subst hne
          cases base <;> rfl
        · rename_i h0
          split at h
          case h_2 => cases h
          rename_i b o
          cases hst : H.storeL b o cs with
          | none => rw [hst] at h; simp at h
          | some H1 =>
            rw [hst] at h
            simp only [Option.map_some, Option.some.injEq, Prod.mk.injEq] at h
            obtain ⟨rfl, rfl⟩ := h
            obtain ⟨hdd, _, hcase⟩ := hrd.slice_some
            obtain ⟨w', k1, k2, k3⟩ := hS.storeL hdd hst hrel P
            rcases hcase with ⟨c', hb⟩ | ⟨hl0, a', hb⟩
            · exact ⟨_, w', R, .inl (hrun _ c' hb w' k1), .int _ _, k2, k3⟩
            · exfalso
              subst hl0
              apply h0
              have : cs.length = Nat.min sl 0 * size := by
                unfold firstI at hf
                split at hf
                · injection hf with hf; subst hf; simp
                · split at hf
                  · injection hf with hf; subst hf; simp
                  · rename_i hn; exact absurd (by simp) hn
                · cases hf
              rw [this]; simp
  · -- clear
    rename_i t x hty hxs
    have hty' := arr1 hty
    have hxs' := arr1 hxs
    subst hty'; subst hxs'
    have hrx := ev_rel hT (okOs_mem hok (x := x) (by simp [Op.operands, Call.operands]))
    split at hc
    case h_2 => cases hc
    rename_i e hu
    cases hz : zeroT P e with
    | none => simp [hz] at hc
    | some z =>
      simp only [hz, Option.bind_some] at hc
      split at hc
      case isFalse => cases hc
      rename_i hzn
      injection hc with hc; subst hc
      simp only [iact] at h
      have hzr := run_zeroT hz w
      split at h
      · rename_i ln cp hx
        rw [hx] at hrx
        simp only [Option.some.injEq, Prod.mk.injEq] at h
        obtain ⟨rfl, rfl⟩ := h
        obtain ⟨hv, _, _⟩ := hrx.slice_nil
        refine ⟨.tuple #[], w, R, .inl (run_builtin (fun cs => rfl) ?_), .tuple _ _ .nil, hS, Ext.refl _ _ _⟩
        simp [Builtin.clear_, run_under hu, hv]
      · rename_i b o ln cp hx
        rw [hx] at hrx
        obtain ⟨hdd, _, hcase⟩ := hrx.slice_some
        split at h
        · rename_i h0
          subst h0
          simp only [Option.some.injEq, Prod.mk.injEq] at h
          obtain ⟨rfl, rfl⟩ := h
          obtain ⟨base, c', hv⟩ := hrx.slice_len
          refine ⟨.tuple #[], w, R, .inl (run_builtin (fun cs => rfl) ?_), .tuple _ _ .nil, hS, Ext.refl _ _ _⟩
          cases base <;> simp [Builtin.clear_, run_under hu, hv]
        · rename_i h0
          cases hst : H.storeL b o (Builtin.zeroCells z.cells.toList.toArray ln).toList with
          | none => rw [hst] at h; simp at h
          | some H1 =>
            rw [hst] at h
            simp only [Option.map_some, Option.some.injEq, Prod.mk.injEq] at h
            obtain ⟨rfl, rfl⟩ := h
            obtain ⟨w', k1, k2, k3⟩ := hS.storeL hdd hst (zeroCells_rel R hzr.2 ln) P
            rcases hcase with ⟨c', hv⟩ | ⟨hl0, _⟩
            · refine ⟨.tuple #[], w', R, .inl (run_builtin (fun cs => rfl) ?_), .tuple _ _ .nil, k2, k3⟩
              simp only [List.map_toArray, List.map_cons, List.map_nil, Builtin.clear_, List.getElem?_toArray, List.getElem?_cons_zero, Sem.run_bind, run_under hu, Result.andThen_ok, hv]
              cases ln with
              | zero => exact absurd rfl h0
              | succ m =>
                simp only [Sem.run_bind, hzr.1, Result.andThen_ok]
                have k1' : (storeCells ⟨R.blk b, R.base b + o, none⟩ (Builtin.zeroCells z.cells (m + 1)).toList).run P w = .ok () w' := by simpa using k1
                rw [k1']
                rfl
            · exact absurd hl0 h0
      · cases h
  · -- delete
    rename_i t t2 m k hty hxs
    have hty' := arr2 hty
    have hxs' := arr2 hxs
    subst hty'; subst hxs'
    have hrm := ev_rel hT (okOs_mem hok (x := m) (by simp [Op.operands, Call.operands]))
    have hrk := ev_rel hT (okOs_mem hok (x := k) (by simp [Op.operands, Call.operands]))
    split at hc
    case h_2 => cases hc
    rename_i kt e hu
    injection hc with hc; subst hc
    simp only [iact] at h
    split at h
    case h_2 => cases h
    rename_i r hm
    rw [hm] at hrm
    split at h
    case h_2 => cases h
    rename_i es cl hg
    split at h
    case isFalse => cases h
    rename_i hko
    obtain ⟨hk1, hk2, hk3, hk4, d, hd⟩ := keyOk_spec hko
    have hkk : a.eval k = ev T k := hrk.scal_eq hk1
    obtain ⟨hmv, hdr⟩ : a.eval m = .map (some (R.blk r)) ∧ R.dom r := by
      cases hq : a.eval m <;> rw [hq] at hrm <;> cases hrm
      exact ⟨rfl, by assumption⟩
    have ho := hS.obj r hdr
    rw [hg] at ho
    obtain ⟨es', hw, hrel⟩ := ho
    have hset : ∀ es2 (es2' : Array MapEntry), ERels R es2 es2'.toList → ∃ w', (setObj (R.blk r) (.map es2' cl)).run P w = .ok () w' ∧ Sim R (H.set r (.map es2 cl)) w' ∧ Ext R H w R (H.set r (.map es2 cl)) w' :=
      fun es2 es2' h2 => sim_setMap hS hdr hg hw h2 P
    split at h
    · rename_i i hfi
      simp only [Option.some.injEq, Prod.mk.injEq] at h
      obtain ⟨rfl, rfl⟩ := h
      obtain ⟨h1, h2⟩ := find_rel (P := P) (w := w) hd hrel hk2 hfi
      have hi := h2 i rfl
      have hi' : i < es'.size := by simpa using hi
      obtain ⟨w', k1, k2, k3⟩ := hset (es.eraseIdx i) (es'.eraseIdxIfInBounds i) (by
        have := ERels.erase hrel i
        rw [Array.eraseIdxIfInBounds, dif_pos hi', Array.toList_eraseIdx]
        exact this)
      refine ⟨.tuple #[], w', R, .inl (run_builtin (fun cs => rfl) ?_), .tuple _ _ .nil, k2, k3⟩
      simp only [List.map_toArray, List.map_cons, List.map_nil, Builtin.delete_, List.getElem?_toArray, List.getElem?_cons_zero, List.getElem?_cons_succ, Sem.run_bind, run_under hu, Result.andThen_ok, hmv, hkk, run_getMap P hw]
      rw [hrel.isEmpty, hk3]
      simp only [Result.andThen_ok]
      rw [h1]
      have hge : es'.toList[i]? = some es'[i] := by simp [hi']
      simp only [Option.bind_some, hge, Option.map_some, Result.andThen_ok, Sem.run_bind, k1, Sem.run_pure]
    · rename_i hfi
      simp only [Option.some.injEq, Prod.mk.injEq] at h
      obtain ⟨rfl, rfl⟩ := h
      obtain ⟨h1, h2⟩ := find_rel (P := P) (w := w) hd hrel hk2 hfi
      obtain ⟨w', k1, k2, k3⟩ := hset es es' hrel
      refine ⟨.tuple #[], w', R, .inl (run_builtin (fun cs => rfl) ?_), .tuple _ _ .nil, k2, k3⟩
      simp only [List.map_toArray, List.map_cons, List.map_nil, Builtin.delete_, List.getElem?_toArray, List.getElem?_cons_zero, List.getElem?_cons_succ, Sem.run_bind, run_under hu, Result.andThen_ok, hmv, hkk, run_getMap P hw]
      rw [hrel.isEmpty, hk3]
      simp only [Result.andThen_ok]
      rw [h1]
      simp only [Option.bind_none, Result.andThen_ok, Sem.run_bind, k1, Sem.run_pure]
    · cases h
  all_goals first | (injection hc with hc; subst hc; cases h) | cases hc

theorem sim_mapUpdate {t kt e : TypeId} {m k x : Operand} {v : Value} {H' : IHeap} (hS : Sim R H w) (hT : TRel n R T a.tmps) (hu : P.underlying t = some (.map kt e))
    (hom : okO m = true) (hok : okO k = true) (hox : okO x = true) (h : iact P T H (.mapUpdate kt m k x) = some (v, H')) :
    ∃ w', (Instr.mapUpdate t (a.eval m) (a.eval k) (a.eval x)).run P w = .ok () w' ∧ v = undef ∧ Sim R H' w' ∧ Ext R H w R H' w' := by
  have hrm := ev_rel hT hom
  have hrk := ev_rel hT hok
  have hrx := ev_rel hT hox
  simp only [iact] at h
  split at h
  case h_2 => cases h
  rename_i r hm
  rw [hm] at hrm
  split at h
  case h_2 => cases h
  rename_i es cl hg
  split at h
  case isFalse => cases h
  rename_i hko
  obtain ⟨hk1, hk2, hk3, hk4, d, hd⟩ := keyOk_spec hko
  have hkk : a.eval k = ev T k := hrk.scal_eq hk1
  obtain ⟨hmv, hdr⟩ : a.eval m = .map (some (R.blk r)) ∧ R.dom r := by
    cases hq : a.eval m <;> rw [hq] at hrm <;> cases hrm
    exact ⟨rfl, by assumption⟩
  have ho := hS.obj r hdr
  rw [hg] at ho
  obtain ⟨es', hw, hrel⟩ := ho
  split at h
  · rename_i i hfi
    split at h
    case isFalse => cases h
    rename_i hsb
    simp only [Option.some.injEq, Prod.mk.injEq] at h
    obtain ⟨rfl, rfl⟩ := h
    obtain ⟨h1, h2⟩ := find_rel (P := P) (w := w) hd hrel hk2 hfi
    have hi := h2 i rfl
    have hi' : i < es'.size := by simpa using hi
    have hie : i < es.length := by rw [hrel.length]; exact hi
    obtain ⟨w', k1, k2, k3⟩ := sim_setMap (es2 := es.modify i fun e => { e with key := ev T k, val := ev T x }) (es2' := es'.modify i fun e => { e with key := ev T k, val := a.eval x }) (cl2 := cl) hS hdr hg hw (by
      rw [Array.toList_modify]
      exact ERels.modify (f := fun e => { e with key := ev T k, val := ev T x }) (f' := fun e => { e with key := ev T k, val := a.eval x }) (fun e e' he => ⟨VR.of_scal R hk1, hrx, he.born⟩) hrel i) P
    refine ⟨w', ?_, rfl, k2, k3⟩
    have hge : es'.toList[i]? = some es'[i] := by simp [hi']
    have hke : (((es'[i]?).map (·.key)).getD (ev T k)) = (((es[i]?).map (·.key)).getD (ev T k)) := by
      obtain ⟨e2, he2, her⟩ := hrel.get i es[i] (by simp [hie])
      have h3 : es'[i]? = some e2 := by simpa using he2
      rw [h3]
      simp only [Option.map_some, Option.getD_some]
      rw [show es[i]? = some es[i] by simp [hie]]
      simp only [Option.map_some, Option.getD_some]
      exact her.key.scal_eq (hk2 _ (List.getElem_mem hie))
    simp only [Instr.mapUpdate, Sem.run_bind, run_under hu, Result.andThen_ok, hmv, hkk, run_getMap P hw]
    rw [hk4]
    simp only [Result.andThen_ok]
    rw [h1]
    simp only [Option.bind_some, hge, Option.map_some, Result.andThen_ok, Sem.run_bind, Instr.keyThatStays, hke, hsb, if_true, Sem.run_pure]
    exact k1
  · rename_i hfi
    simp only [Option.some.injEq, Prod.mk.injEq] at h
    obtain ⟨rfl, rfl⟩ := h
    obtain ⟨h1, h2⟩ := find_rel (P := P) (w := w) hd hrel hk2 hfi
    obtain ⟨w', k1, k2, k3⟩ := sim_setMap (es2 := es ++ [{ key := ev T k, val := ev T x, born := cl }]) (es2' := es'.push { key := ev T k, val := a.eval x, born := cl }) (cl2 := cl + 1) hS hdr hg hw (by
      rw [Array.toList_push]
      exact ERels.append (.cons (e := { key := ev T k, val := ev T x, born := cl }) (e' := { key := ev T k, val := a.eval x, born := cl }) ⟨VR.of_scal R hk1, hrx, rfl⟩ .nil) hrel) P
    refine ⟨w', ?_, rfl, k2, k3⟩
    simp only [Instr.mapUpdate, Sem.run_bind, run_under hu, Result.andThen_ok, hmv, hkk, run_getMap P hw]
    rw [hk4]
    simp only [Result.andThen_ok]
    rw [h1]
    simp only [Option.bind_none, Result.andThen_ok]
    exact k1
  · cases h

theorem sim_ac {o : Oper} {io : IOp} {v : Value} {H' : IHeap} (hS : Sim R H w) (hT : TRel n R T a.tmps) (hc : compOp P o = some io) (h : iact P T H io = some (v, H')) : Acted P R H w (execOp a.eval o) v H' := by
  unfold compOp at hc
  split at hc
  · cases hc
  rename_i hok
  have hok : okOs o.op.operands.toList = true := by cases hq : okOs o.op.operands.toList with | true => rfl | false => exact absurd hq hok
  obtain ⟨dst, op, ty, pos, after, g⟩ := o
  simp only at hc hok
  cases op with
  | store t x y =>
    simp only [] at hc
    cases hsz : sizeT P t with
    | none => simp [hsz] at hc
    | some m =>
      simp only [hsz, Option.map_some, Option.some.injEq] at hc
      subst hc
      have hrx := ev_rel hT (okOs_mem hok (x := x) (by simp [Op.operands]))
      have hry := ev_rel hT (okOs_mem hok (x := y) (by simp [Op.operands]))
      simp only [iact] at h
      split at h
      · rename_i b o he
        rw [he] at hrx
        obtain ⟨hx, hd⟩ := hrx.ptr_inv
        split at h
        · rename_i hln
          cases hst : H.storeL b o (ev T y).cells.toList with
          | none => rw [hst] at h; simp at h
          | some H1 =>
            rw [hst] at h
            simp only [Option.map_some, Option.some.injEq, Prod.mk.injEq] at h
            obtain ⟨rfl, rfl⟩ := h
            obtain ⟨w', k1, k2, k3⟩ := hS.storeL hd hst hry.cells P
            refine ⟨undef, w', R, .inr ⟨?_, rfl⟩, VR.undef R, k2, k3⟩
            have hsz' : (a.eval y).cells.size = m := by have := hry.cells.length; simp only [Array.length_toList] at this hln; omega
            simp only [execOp, Instr.storeAt, hx, Instr.sureAddr, pure_bind, storeVar, Sem.run_bind, run_sizeT hsz, Result.andThen_ok, hsz']
            rw [if_neg (by simp)]
            rw [k1]
            rfl
        · cases h
      · cases h
  | mapUpdate t m k x =>
    simp only [] at hc
    split at hc
    · rename_i kt e hu
      injection hc with hc; subst hc
      obtain ⟨w', k1, rfl, k2, k3⟩ := sim_mapUpdate hS hT hu (okOs_mem hok (by simp [Op.operands])) (okOs_mem hok (by simp [Op.operands])) (okOs_mem hok (by simp [Op.operands])) h
      refine ⟨undef, w', R, .inr ⟨?_, rfl⟩, VR.undef R, k2, k3⟩
      simp only [execOp, Sem.run_bind, k1, Result.andThen_ok, Sem.run_pure]
    · cases hc
  | insert t m k x =>
    simp only [] at hc
    split at hc
    · rename_i kt e hu
      injection hc with hc; subst hc
      obtain ⟨w', k1, rfl, k2, k3⟩ := sim_mapUpdate hS hT hu (okOs_mem hok (by simp [Op.operands])) (okOs_mem hok (by simp [Op.operands])) (okOs_mem hok (by simp [Op.operands])) h
      refine ⟨undef, w', R, .inr ⟨?_, rfl⟩, VR.undef R, k2, k3⟩
      simp only [execOp, Sem.run_bind, k1, Result.andThen_ok, Sem.run_pure]
    · cases hc
  | call c =>
    simp only [] at hc
    split at hc
    · injection hc with hc; subst hc; cases h
    · injection hc with hc; subst hc; cases h
    · rename_i b hcb
      obtain ⟨callee, args, tys⟩ := c
      simp only at hcb
      subst hcb
      exact sim_builtin_ac hS hT hok hc h
    · cases hc
  | select cs b => simp at hc
  | move x => simp at hc; subst hc; cases h
  | assign x => simp at hc; subst hc; cases h
  | pick c x y => simp at hc; subst hc; cases h
  | alloc t => cases hz : zeroT P t <;> simp [hz] at hc; subst hc; cases h
  | box t x => simp at hc; subst hc; cases h
  | build t parts =>
    simp only [] at hc
    split at hc
    · rename_i z fs hz hu
      cases hp : placesT P fs.toList with
      | none => simp [hp] at hc
      | some pl =>
        cases hq : partsT (pl[·]?) parts.toList with
        | none => simp [hp, hq] at hc
        | some ps => simp [hp, hq] at hc; subst hc; cases h
    · rename_i z k e hz hu
      cases hsz : sizeT P e with
      | none => simp [hsz] at hc
      | some s =>
        cases hq : partsT (fun i => some (i * s, s)) parts.toList with
        | none => simp [hsz, hq] at hc
        | some ps => simp [hsz, hq] at hc; subst hc; cases h
    · cases hc
  | buildSlice t len parts =>
    simp only [] at hc
    split at hc
    · split at hc
      · split at hc
        · rename_i e hu _ _ s z hs hz hcond
          cases hq : partsT (fun i => some (i * s, s)) parts.toList with
          | none => simp [hq] at hc
          | some ps => simp [hq] at hc; subst hc; cases h
        · cases hc
      · cases hc
    · cases hc
  | load t x => simp only [] at hc; split at hc <;> simp at hc <;> subst hc <;> cases h
  | nilCheck x => simp at hc; subst hc; cases h
  | binOp bop t x y yt =>
    simp only [] at hc
    cases bop <;> simp only [Option.some.injEq] at hc <;> subst hc <;> first
      | cases h
      | (unfold compEq at h; split at h <;> (try split at h) <;> cases h)
  | convert s d x =>
    simp only [] at hc
    split at hc
    · split at hc <;> simp at hc; subst hc; cases h
    · split at hc <;> simp at hc; subst hc; cases h
    · simp at hc; subst hc; cases h
  | makeInterface t x => simp only [] at hc; split at hc <;> simp at hc; subst hc; cases h
  | makeFunc fn first captured => cases fn <;> simp at hc <;> subst hc <;> cases h
  | makeMap t r => cases r <;> simp at hc <;> subst hc <;> cases h
  | makeSlice t l c =>
    simp only [] at hc
    split at hc
    · split at hc
      · split at hc
        · injection hc with hc; subst hc; cases h
        · cases hc
      · cases hc
    · cases hc
  | slice t x lo hi mx =>
    simp only [] at hc
    split at hc
    · rename_i e hu
      cases hsz : sizeT P e with
      | none => simp [hsz] at hc
      | some s => simp only [hsz, Option.bind_some] at hc; split at hc <;> simp at hc; subst hc; cases h
    · rename_i k e hu
      cases hsz : sizeT P e with
      | none => simp [hsz] at hc
      | some s => simp only [hsz, Option.bind_some] at hc; split at hc <;> simp at hc; subst hc; cases h
    · simp at hc; subst hc; cases h
    · cases hc
  | fieldAddr t x i =>
    simp only [] at hc
    split at hc
    · split at hc
      · rename_i f hf
        cases hsz : sizeT P f.type with
        | none => simp [hsz] at hc
        | some s => simp only [hsz, Option.bind_some] at hc; split at hc <;> simp at hc; subst hc; cases h
      · cases hc
    · cases hc
  | field t x i =>
    simp only [] at hc
    split at hc
    · split at hc
      · split at hc <;> simp at hc <;> subst hc <;> cases h
      · cases hc
    · cases hc
  | indexAddr t x i =>
    simp only [] at hc
    split at hc
    · rename_i e hu; cases hsz : sizeT P e <;> simp [hsz] at hc; subst hc; cases h
    · rename_i k e hu
      split at hc
      · cases hsz : sizeT P e <;> simp [hsz] at hc; subst hc; cases h
      · cases hc
    · cases hc
  | index t x i =>
    simp only [] at hc
    split at hc
    · simp at hc; subst hc; cases h
    · split at hc <;> simp at hc <;> subst hc <;> cases h
    · cases hc
  | lookup t m k ok =>
    simp only [] at hc
    split at hc
    · rename_i kt e hu; cases hz : zeroT P e <;> simp [hz] at hc; subst hc; cases h
    · cases hc
  | typeAssert x xt t ok =>
    simp only [] at hc
    split at hc
    · cases hc
    · cases hz : zeroT P t <;> simp [hz] at hc; subst hc; cases h
    · cases hc
  | extract x i => simp at hc; subst hc; cases h
  | _ => simp at hc; subst hc; cases h

end
end Go.Proofs.YtpklgklmjhblpaaI
