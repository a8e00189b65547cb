/- One operation, and rows of them. -/
import Derived.Test.YtpklgklmjhblpaaIdealK
namespace Go.Proofs.YtpklgklmjhblpaaI
set_option linter.unusedSimpArgs false
set_option linter.unusedVariables false
open Go

/-- What holds when a call has ended. -/
def callPost (K : Value → IHeap → Prop) (R : Ren) (H : IHeap) (w : World) : Ending → World → Prop :=
  fun e w' => ∃ r r' R' H', e = .returned r' ∧ K r H' ∧ VR R' r r' ∧ Sim R' H' w' ∧ Ext R H w R' H' w'

/-- What is known of calls is so in the model. -/
def CSim (P : Program) (C : CallT) : Prop :=
  ∀ f args H K, C f args H K → (∀ (as : Array Value) w, (callFunc f as).run P w = .ok (.enter f as) w) ∧
    ∀ R w (args' : Array Value), Sim R H w → VRs R args args'.toList → Calls P f args' w (callPost K R H w)

theorem kind_not_ca {P : Program} {o : Oper} {io : IOp} (hop : ∀ c, o.op ≠ .call c) (hc : compOp P o = some io) (hk : io.kind = .ca) : False := by
  unfold compOp at hc
  split at hc
  · cases hc
  obtain ⟨dst, op, ty, pos, after, g⟩ := o
  simp only at hc hop
  cases op with
  | call c => exact absurd rfl (hop c)
  | mapUpdate t m k x => simp only [] at hc; split at hc <;> simp at hc; subst hc; cases hk
  | insert t m k x => simp only [] at hc; split at hc <;> simp at hc; subst hc; cases hk
  | store t x y => simp only [] at hc; cases hsz : sizeT P t <;> simp [hsz] at hc; subst hc; cases hk
  | select cs b => simp at hc
  | move x => simp at hc; subst hc; cases hk
  | assign x => simp at hc; subst hc; cases hk
  | pick c x y => simp at hc; subst hc; cases hk
  | alloc t => cases hz : zeroT P t <;> simp [hz] at hc; subst hc; cases hk
  | box t x => simp at hc; subst hc; cases hk
  | build t parts =>
    simp only [] at hc
    split at hc
    · rename_i z fs hz hu
      cases hp : placesT P fs.toList with
      | none => simp [hp] at hc
      | some pl =>
        cases hq : partsT (pl[·]?) parts.toList with
        | none => simp [hp, hq] at hc
        | some ps => simp [hp, hq] at hc; subst hc; cases hk
    · rename_i z k e hz hu
      cases hsz : sizeT P e with
      | none => simp [hsz] at hc
      | some s =>
        cases hq : partsT (fun i => some (i * s, s)) parts.toList with
        | none => simp [hsz, hq] at hc
        | some ps => simp [hsz, hq] at hc; subst hc; cases hk
    · cases hc
  | buildSlice t len parts =>
    simp only [] at hc
    split at hc
    · split at hc
      · split at hc
        · rename_i e hu _ _ s z hs hz hcond
          cases hq : partsT (fun i => some (i * s, s)) parts.toList with
          | none => simp [hq] at hc
          | some ps => simp [hq] at hc; subst hc; cases hk
        · cases hc
      · cases hc
    · cases hc
  | load t x => simp only [] at hc; split at hc <;> simp at hc <;> subst hc <;> cases hk
  | nilCheck x => simp at hc; subst hc; cases hk
  | binOp bop t x y yt =>
    simp only [] at hc
    cases bop <;> simp only [Option.some.injEq] at hc <;> subst hc <;> first
      | cases hk
      | (unfold compEq at hk; split at hk <;> (try split at hk) <;> cases hk)
  | convert s d x =>
    simp only [] at hc
    split at hc
    · split at hc <;> simp at hc; subst hc; cases hk
    · split at hc <;> simp at hc; subst hc; cases hk
    · simp at hc; subst hc; cases hk
  | makeInterface t x => simp only [] at hc; split at hc <;> simp at hc; subst hc; cases hk
  | makeFunc fn first captured => cases fn <;> simp at hc <;> subst hc <;> cases hk
  | makeMap t r => cases r <;> simp at hc <;> subst hc <;> cases hk
  | makeSlice t l c =>
    simp only [] at hc
    split at hc
    · split at hc
      · split at hc
        · injection hc with hc; subst hc; cases hk
        · cases hc
      · cases hc
    · cases hc
  | slice t x lo hi mx =>
    simp only [] at hc
    split at hc
    · rename_i e hu
      cases hsz : sizeT P e with
      | none => simp [hsz] at hc
      | some s => simp only [hsz, Option.bind_some] at hc; split at hc <;> simp at hc; subst hc; cases hk
    · rename_i k e hu
      cases hsz : sizeT P e with
      | none => simp [hsz] at hc
      | some s => simp only [hsz, Option.bind_some] at hc; split at hc <;> simp at hc; subst hc; cases hk
    · simp at hc; subst hc; cases hk
    · cases hc
  | fieldAddr t x i =>
    simp only [] at hc
    split at hc
    · split at hc
      · rename_i f hf
        cases hsz : sizeT P f.type with
        | none => simp [hsz] at hc
        | some s => simp only [hsz, Option.bind_some] at hc; split at hc <;> simp at hc; subst hc; cases hk
      · cases hc
    · cases hc
  | field t x i =>
    simp only [] at hc
    split at hc
    · split at hc
      · split at hc <;> simp at hc <;> subst hc <;> cases hk
      · cases hc
    · cases hc
  | indexAddr t x i =>
    simp only [] at hc
    split at hc
    · rename_i e hu; cases hsz : sizeT P e <;> simp [hsz] at hc; subst hc; cases hk
    · rename_i k e hu
      split at hc
      · cases hsz : sizeT P e <;> simp [hsz] at hc; subst hc; cases hk
      · cases hc
    · cases hc
  | index t x i =>
    simp only [] at hc
    split at hc
    · simp at hc; subst hc; cases hk
    · split at hc <;> simp at hc <;> subst hc <;> cases hk
    · cases hc
  | lookup t m k ok =>
    simp only [] at hc
    split at hc
    · rename_i kt e hu; cases hz : zeroT P e <;> simp [hz] at hc; subst hc; cases hk
    · cases hc
  | typeAssert x xt t ok =>
    simp only [] at hc
    split at hc
    · cases hc
    · cases hz : zeroT P t <;> simp [hz] at hc; subst hc; cases hk
    · cases hc
  | extract x i => simp at hc; subst hc; cases hk
  | _ => simp at hc; subst hc; cases hk


section
variable {P : Program} {C : CallT} {n : Nat} {R : Ren} {H : IHeap} {w : World} {T : Env} {a : Act}

theorem sim_op {o : Oper} {io : IOp} {K : Value → IHeap → Prop} {next : Act → World → Prop} {Q : Exit → Act → World → Prop} (hC : CSim P C) (hS : Sim R H w) (hT : TRel n R T a.tmps)
    (hc : compOp P o = some io) (h : iop P C T H io K) (hn : ∀ v v' R' H' w', K v H' → VR R' v v' → Sim R' H' w' → Ext R H w R' H' w' → next (a.put o.dst v') w') : o.wp P a w next Q := by
  unfold Oper.wp
  unfold iop at h
  split at h
  · rename_i hk
    obtain ⟨v, h1, h2⟩ := h
    obtain ⟨v', h3, h4⟩ := sim_rd hS hT hc hk h1
    rw [h3]
    exact hn v v' R H w h2 h4 hS (Ext.refl _ _ _)
  · obtain ⟨⟨obj, mk⟩, h1, h2⟩ := h
    have hnd : ¬ R.dom H.next := fun hd => Nat.lt_irrefl _ (hS.lt _ hd)
    obtain ⟨v', w', R', hm⟩ := sim_al (hS.alloc_far obj) hT hc h1 (Nat.lt_succ_self _) hnd (alloc_get H obj)
    rw [hm.run]
    exact hn _ v' R' _ w' h2 hm.val hm.sim (ext_new hS hm.le hm.dom hm.blk hm.one)
  · obtain ⟨⟨v, H'⟩, h1, h2⟩ := h
    obtain ⟨v', w', R', h3, h4, h5, h6⟩ := sim_ac hS hT hc h1
    rcases h3 with h3 | ⟨h3, rfl⟩
    · rw [h3]; exact hn v v' R' H' w' h2 h4 h5 h6
    · rw [h3]; exact hn v undef R' H' w' h2 h4 h5 h6
  · rename_i hk
    -- a call
    have hc0 := hc
    unfold compOp at hc
    split at hc
    · cases hc
    rename_i hok
    have hok : okOs o.op.operands.toList = true := by cases hq : okOs o.op.operands.toList with | true => rfl | false => exact absurd hq hok
    obtain ⟨dst, op, ty, pos, after, g⟩ := o
    simp only at hc hok hn
    have fin : ∀ f (as : List Value) (as' : Array Value), C f as H K → VRs R as as'.toList → (execOp a.eval ⟨dst, op, ty, pos, after, g⟩).run P w = (callFunc f as').run P w →
        (⟨dst, op, ty, pos, after, g⟩ : Oper).upon P a next Q ((execOp a.eval ⟨dst, op, ty, pos, after, g⟩).run P w) := by
      intro f as as' hcf hvs hrun
      obtain ⟨h1, h2⟩ := hC f as H K hcf
      rw [hrun, h1]
      refine (h2 R w as' hS hvs).mono fun e w'' he => ?_
      obtain ⟨r, r', R', H', rfl, k1, k2, k3, k4⟩ := he
      exact hn r r' R' H' w'' k1 k2 k3 k4
    cases op with
    | call c =>
      obtain ⟨callee, args, tys⟩ := c
      simp only [] at hc
      split at hc
      · rename_i f _
        injection hc with hc; subst hc
        simp only [icall] at h
        refine fin f _ (args.map a.eval) h ?_ ?_
        · rw [Array.toList_map]
          exact evs_rel hT (by unfold okOs; exact List.all_eq_true.2 fun x hx => okOs_mem hok (by simp [Op.operands, Call.operands]; exact .inr (by simpa using hx)))
        · simp [execOp, resolve, Act.eval, Deferred.ofValue, invoke]
      · rename_i x hnf _
        injection hc with hc; subst hc
        simp only [icall] at h
        split at h
        · rename_i f first captured he
          have hrx := ev_rel hT (okOs_mem hok (x := x) (by simp [Op.operands, Call.operands]))
          rw [he] at hrx
          obtain ⟨b', c', hx, h1, h2⟩ := hrx.func_inv
          refine fin f _ (b' ++ args.map a.eval ++ c') h ?_ ?_
          · rw [Array.toList_append, Array.toList_append, Array.toList_map]
            exact VRs.append h2 (VRs.append (evs_rel hT (by unfold okOs; exact List.all_eq_true.2 fun y hy => okOs_mem hok (by simp [Op.operands, Call.operands]; exact .inr (by simpa using hy)))) h1)
          · simp [execOp, resolve, hx, Deferred.ofValue, invoke]
        · exact h.elim
      · exfalso
        unfold compBuiltin at hc
        have bad : ∀ {x : IOp}, (x = io) → x.kind ≠ .ca → False := fun e hne => hne (e ▸ hk)
        split at hc
        · split at hc <;> first | (injection hc with hc; exact bad hc (by simp [IOp.kind])) | (split at hc <;> first | (injection hc with hc; exact bad hc (by simp [IOp.kind])) | cases hc)
        · split at hc <;> first | (injection hc with hc; exact bad hc (by simp [IOp.kind])) | cases hc
        · split at hc
          · split at hc <;> first | cases hc | (split at hc <;> first | (injection hc with hc; exact bad hc (by simp [IOp.kind])) | cases hc)
          · cases hc
        · split at hc
          · rename_i e _ _ _; cases hq : sizeT P e <;> simp [hq] at hc; exact bad hc (by simp [IOp.kind])
          · cases hc
        · split at hc
          · rename_i e _
            cases hq : zeroT P e with
            | none => simp [hq] at hc
            | some z => simp only [hq, Option.bind_some] at hc; split at hc <;> simp at hc; exact bad hc (by simp [IOp.kind])
          · cases hc
        · split at hc <;> first | (injection hc with hc; exact bad hc (by simp [IOp.kind])) | cases hc
        all_goals first | (injection hc with hc; exact bad hc (by simp [IOp.kind])) | cases hc
      · cases hc
    | _ => exact (kind_not_ca (by simp) hc0 hk).elim

theorem wanted_rel {ops : Array Oper} {o : Oper} {g : Option (Nat × Bool)} (hT : TRel n R T a.tmps) (hg : compGuard ops o.guard = some g) (hd : ∀ d b, g = some (d, b) → d < n) :
    Region.wanted o (yielded ops a.tmps) = wantedI T g := by
  unfold Region.wanted
  cases hog : o.guard with
  | none =>
    rw [hog] at hg
    simp only [compGuard, Option.some.injEq] at hg
    subst hg
    rfl
  | some jw =>
    obtain ⟨j, want⟩ := jw
    rw [hog] at hg
    simp only [compGuard] at hg
    cases hj : (ops[j]?).bind (·.dst) with
    | none => rw [hj] at hg; simp at hg
    | some d =>
      rw [hj] at hg
      simp only [Option.some.injEq] at hg
      subst hg
      have hdn := hd d want rfl
      have hr := hT.get d
      have hlt : d < a.tmps.size := by rw [hT.size]; exact hdn
      have ht : a.tmps[d]? = some a.tmps[d] := by simp [hlt]
      have hr' : VR R (T d) a.tmps[d] := by simpa [hlt] using hr
      unfold yielded wantedI
      simp only [hj, Option.bind_some, ht]
      cases he : T d <;> rw [he] at hr' <;> (generalize a.tmps[d] = v' at hr' ⊢) <;> cases hr' <;> rfl

theorem sim_ops (hC : CSim P C) {ops : Array Oper} {Q : Exit → Act → World → Prop} {K : Env → IHeap → Prop} : ∀ (os : List Oper) (xs : List IOper) (R : Ren) (H : IHeap) (T : Env) (a : Act) (w : World),
    compOpers P n ops os = some xs → iwpOps P C xs K T H → Sim R H w → TRel n R T a.tmps → a.defers = [] →
    (∀ T' H' R' a' w', K T' H' → Sim R' H' w' → TRel n R' T' a'.tmps → a'.defers = [] → Ext R H w R' H' w' → Q .normal a' w') → wpList P ops Q os a w
  | [], xs, R, H, T, a, w, hx, h, hS, hT, hd, hK => by
    simp only [compOpers, Option.some.injEq] at hx
    subst hx
    exact hK T H R a w h hS hT hd (Ext.refl _ _ _)
  | o :: os, xs, R, H, T, a, w, hx, h, hS, hT, hd, hK => by
    simp only [compOpers] at hx
    cases hxo : compOper P n ops o with
    | none => rw [hxo] at hx; simp at hx
    | some x =>
      cases hxs : compOpers P n ops os with
      | none => rw [hxo, hxs] at hx; simp at hx
      | some xs' =>
        rw [hxo, hxs] at hx
        simp only [Option.some.injEq] at hx
        subst hx
        unfold compOper at hxo
        split at hxo
        case h_2 => cases hxo
        rename_i io g hio hg
        split at hxo
        case isFalse => cases hxo
        rename_i hcond
        injection hxo with hxo
        subst hxo
        simp only [Bool.and_eq_true] at hcond
        have hdst : ∀ x, o.dst = some x → x < n := fun x hx => by have := hcond.1; rw [hx] at this; simpa [ltO] using this
        have hgd : ∀ d b, g = some (d, b) → d < n := fun d b hgb => by have := hcond.2; rw [hgb] at this; simpa [ltG] using this
        unfold wpList
        rw [wanted_rel hT hg hgd]
        simp only [iwpOps] at h
        cases hw : wantedI T g with
        | true =>
          rw [hw] at h
          simp only [if_true]
          refine .inl (sim_op hC hS hT hio h fun v v' R' H' w' k1 k2 k3 k4 => ?_)
          exact sim_ops hC os xs' R' H' _ _ w' hxs k1 k3 ((hT.mono k4.le).put hdst k2) (by rw [put_defers]; exact hd) fun T'' H'' R'' a'' w'' q1 q2 q3 q4 q5 => hK T'' H'' R'' a'' w'' q1 q2 q3 q4 (k4.trans q5)
        | false =>
          rw [hw] at h
          simp only [Bool.false_eq_true, if_false]
          exact sim_ops hC os xs' R H _ _ w hxs h hS (hT.put hdst (VR.undef R)) (by rw [put_defers]; exact hd) hK

end
end Go.Proofs.YtpklgklmjhblpaaI
