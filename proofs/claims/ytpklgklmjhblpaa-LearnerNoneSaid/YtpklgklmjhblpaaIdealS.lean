/- Code, results, calls. -/
import Derived.Test.YtpklgklmjhblpaaIdealR
namespace Go.Proofs.YtpklgklmjhblpaaI
set_option linter.unusedSimpArgs false
set_option linter.unusedVariables false
open Go

section
variable {P : Program} {C : CallT}

theorem sim_code (hm : P.follows .mixedOrders = true) (hC : CSim P C) {n : Nat} : ∀ (c : Code) (ic : ICode) (Qi : Exit → Env → IHeap → Prop) (Q : Exit → Act → World → Prop) (R : Ren) (H : IHeap) (T : Env) (a : Act) (w : World),
    comp P n c = some ic → iwp P C ic Qi T H → Sim R H w → TRel n R T a.tmps → a.defers = [] →
    (∀ e T' H' R' a' w', Qi e T' H' → Sim R' H' w' → TRel n R' T' a'.tmps → a'.defers = [] → Ext R H w R' H' w' → Q e a' w') → c.wp P Q a w := by
  intro c
  induction c with
  | skip =>
    intro ic Qi Q R H T a w hc h hS hT hd hQ
    simp only [comp, Option.some.injEq] at hc; subst hc
    exact wp_skip (hQ .normal T H R a w h hS hT hd (Ext.refl _ _ _))
  | region id ops draw =>
    intro ic Qi Q R H T a w hc h hS hT hd hQ
    cases draw with
    | false =>
      simp only [comp, Option.map_eq_some_iff] at hc
      obtain ⟨xs, hxs, rfl⟩ := hc
      exact wp_region_list (sim_ops hC ops.toList xs R H T a w hxs h hS hT hd fun T' H' R' a' w' k1 k2 k3 k4 k5 => hQ .normal T' H' R' a' w' k1 k2 k3 k4 k5)
    | true =>
      simp only [comp, Option.map_eq_some_iff] at hc
      obtain ⟨l, hl, rfl⟩ := hc
      exact sim_draw hm hC hl h hS hT hd fun T' H' R' a' w' k1 k2 k3 k4 k5 => hQ .normal T' H' R' a' w' k1 k2 k3 k4 k5
  | seq x y ihx ihy =>
    intro ic Qi Q R H T a w hc h hS hT hd hQ
    simp only [comp] at hc
    split at hc
    case h_2 => cases hc
    rename_i ix iy hx hy
    injection hc with hc; subst hc
    refine wp_seq (ihx ix _ _ R H T a w hx h hS hT hd fun e T' H' R' a' w' k1 k2 k3 k4 k5 => ?_)
    cases e with
    | normal => exact ihy iy _ _ R' H' T' a' w' hy k1 k2 k3 k4 fun e T2 H2 R2 a2 w2 q1 q2 q3 q4 q5 => hQ e T2 H2 R2 a2 w2 q1 q2 q3 q4 (k5.trans q5)
    | _ => exact hQ _ T' H' R' a' w' k1 k2 k3 k4 k5
  | cond co x y ihx ihy =>
    intro ic Qi Q R H T a w hc h hS hT hd hQ
    simp only [comp] at hc
    split at hc
    case isFalse => cases hc
    rename_i hok
    split at hc
    case h_2 => cases hc
    rename_i ix iy hx hy
    injection hc with hc; subst hc
    simp only [iwp] at h
    have hr := ev_rel hT hok
    split at h
    · rename_i he
      rw [he] at hr
      exact wp_cond_true hr.bool_inv (ihx ix _ _ R H T a w hx h hS hT hd hQ)
    · rename_i he
      rw [he] at hr
      exact wp_cond_false hr.bool_inv (ihy iy _ _ R H T a w hy h hS hT hd hQ)
    · exact h.elim
  | block id x ih =>
    intro ic Qi Q R H T a w hc h hS hT hd hQ
    simp only [comp, Option.map_eq_some_iff] at hc
    obtain ⟨ix, hx, rfl⟩ := hc
    refine wp_block (ih ix _ _ R H T a w hx h hS hT hd fun e T' H' R' a' w' k1 k2 k3 k4 k5 => ?_)
    cases e with
    | exit id' =>
      simp only [blockI] at k1
      simp only [Exit.inBlock]
      split
      · rename_i he; rw [if_pos he] at k1; exact hQ _ T' H' R' a' w' k1 k2 k3 k4 k5
      · rename_i he; rw [if_neg he] at k1; exact hQ _ T' H' R' a' w' k1 k2 k3 k4 k5
    | _ => exact hQ _ T' H' R' a' w' k1 k2 k3 k4 k5
  | loop x ih =>
    intro ic Qi Q R H T a w hc h hS hT hd hQ
    simp only [comp, Option.map_eq_some_iff] at hc
    obtain ⟨ix, hx, rfl⟩ := hc
    have key := h (fun T' H' => ∀ R' a' w', Sim R' H' w' → TRel n R' T' a'.tmps → a'.defers = [] → Ext R H w R' H' w' → ∀ b k cs, ∃ e a2 w2, Q e a2 w2 ∧ Arrives P (lone (b.at a' (.code x :: .inLoop x :: k)) cs w') b k cs e a2 w2) ?_
    · intro b k cs
      obtain ⟨e, a2, w2, hq, harr⟩ := key R a w hS hT hd (Ext.refl _ _ _) b k cs
      exact ⟨e, a2, w2, hq, .of_steps (.one step_loop) harr⟩
    · intro T' H' hb R' a' w' hS' hT' hd' hE b k cs
      have hw := ih ix _ (Exit.then (fun a2 w2 => ∀ b k cs, ∃ e a3 w3, Q e a3 w3 ∧ Arrives P (lone (b.at a2 (.code x :: .inLoop x :: k)) cs w2) b k cs e a3 w3) Q) R' H' T' a' w' hx hb hS' hT' hd'
        (fun e T2 H2 R2 a2 w2 q1 q2 q3 q4 q5 => by
          cases e with
          | normal => exact q1 R2 a2 w2 q2 q3 q4 (hE.trans q5)
          | _ => exact hQ _ T2 H2 R2 a2 w2 q1 q2 q3 q4 (hE.trans q5))
      obtain ⟨e, a₁, w₁, hq, harr⟩ := hw b (.inLoop x :: k) cs
      cases e with
      | normal =>
        obtain ⟨e₂, a₂, w₂, hq₂, harr₂⟩ := hq b k cs
        exact ⟨e₂, a₂, w₂, hq₂, .of_steps (Steps.trans harr (.one step_inLoop)) harr₂⟩
      | exit id => exact ⟨_, a₁, w₁, hq, .pass (x := .inLoop x) rfl (fun _ _ => .inl (by simp)) harr⟩
      | goto l => exact ⟨_, a₁, w₁, hq, .pass (x := .inLoop x) rfl (fun _ _ => .inl (by simp)) harr⟩
      | ret => exact ⟨_, a₁, w₁, hq, .pass (x := .inLoop x) rfl (fun _ _ => .inl (by simp)) harr⟩
      | panic ch => exact ⟨_, a₁, w₁, hq, .pass (x := .inLoop x) rfl (fun _ _ => .inl (by simp)) harr⟩
      | outgrown => exact ⟨_, a₁, w₁, hq, .pass (x := .inLoop x) rfl (fun _ _ => .inl (by simp)) harr⟩
  | exit id =>
    intro ic Qi Q R H T a w hc h hS hT hd hQ
    simp only [comp, Option.some.injEq] at hc; subst hc
    exact wp_exit (hQ _ T H R a w h hS hT hd (Ext.refl _ _ _))
  | ret =>
    intro ic Qi Q R H T a w hc h hS hT hd hQ
    simp only [comp, Option.some.injEq] at hc; subst hc
    exact wp_ret (hQ _ T H R a w h hS hT hd (Ext.refl _ _ _))
  | _ =>
    intro ic Qi Q R H T a w hc h hS hT hd hQ
    simp [comp] at hc

/-! ### Results -/

def resSem (tmps : Array Value) : ResultVar → Sem Value
  | .tmp t => pure (tmps.getD t undef)
  | .cell a t => do loadVar t (← asAddr (tmps.getD a undef))

theorem sim_res1 {R : Ren} {H : IHeap} {w : World} {n : Nat} {T : Env} {tmps : Array Value} (hS : Sim R H w) (hT : TRel n R T tmps) : ∀ (rs : List ResultVar) (is : List IRes) (l : List Value), compRes P rs = some is → iresL T H is = some l →
    ∃ l', (rs.mapM (resSem tmps)).run P w = .ok l' w ∧ VRs R l l'
  | [], is, l, hc, h => by
    simp only [compRes, Option.some.injEq] at hc; subst hc
    simp only [iresL, Option.some.injEq] at h; subst h
    exact ⟨[], by simp, .nil⟩
  | r :: rs, is, l, hc, h => by
    have fin : ∀ (i : IRes) (is' : List IRes), compRes P rs = some is' → iresL T H (i :: is') = some l → (∀ v, ires1 T H i = some v → ∃ v', (resSem tmps r).run P w = .ok v' w ∧ VR R v v') →
        ∃ l', ((r :: rs).mapM (resSem tmps)).run P w = .ok l' w ∧ VRs R l l' := by
      intro i is' hc' h' h1
      simp only [iresL] at h'
      split at h'
      case h_2 => cases h'
      rename_i v hv
      cases hl : iresL T H is' with
      | none => rw [hl] at h'; simp at h'
      | some l2 =>
        rw [hl] at h'
        simp only [Option.map_some, Option.some.injEq] at h'
        subst h'
        obtain ⟨v', h2, h3⟩ := h1 v hv
        obtain ⟨l2', h4, h5⟩ := sim_res1 hS hT rs is' l2 hc' hl
        refine ⟨v' :: l2', ?_, .cons h3 h5⟩
        rw [List.mapM_cons]
        simp [h2, h4]
    cases r with
    | tmp t =>
      simp only [compRes, Option.map_eq_some_iff] at hc
      obtain ⟨is', hc', rfl⟩ := hc
      refine fin _ is' hc' h fun v hv => ?_
      simp only [ires1, Option.some.injEq] at hv
      subst hv
      exact ⟨tmps.getD t undef, by simp [resSem], hT.get t⟩
    | cell ad t =>
      simp only [compRes] at hc
      split at hc
      · rename_i m hag hsz
        simp only [Option.map_eq_some_iff] at hc
        obtain ⟨is', hc', rfl⟩ := hc
        refine fin _ is' hc' h fun v hv => ?_
        simp only [ires1] at hv
        split at hv
        case h_2 => cases hv
        rename_i b o he
        have hr := hT.get ad
        rw [he] at hr
        obtain ⟨hx, hb⟩ := hr.ptr_inv
        simp only [Option.map_eq_some_iff] at hv
        obtain ⟨l3, hl, rfl⟩ := hv
        obtain ⟨arr, e, fr, hw, hle, hv⟩ := hS.loadL hb hl
        refine ⟨_, ?_, .agg _ _ (by simpa using hv)⟩
        simp only [resSem, hx, asAddr, pure_bind]
        exact run_loadVarN hag hsz hw hle
      · rename_i m hag hsz
        simp only [Option.map_eq_some_iff] at hc
        obtain ⟨is', hc', rfl⟩ := hc
        refine fin _ is' hc' h fun v hv => ?_
        simp only [ires1] at hv
        split at hv
        case h_2 => cases hv
        rename_i b o he
        have hr := hT.get ad
        rw [he] at hr
        obtain ⟨hx, hb⟩ := hr.ptr_inv
        obtain ⟨arr, e, fr, v', hw, hv', hr'⟩ := hS.load1 hb hv
        refine ⟨v', ?_, hr'⟩
        simp only [resSem, hx, asAddr, pure_bind]
        exact run_loadVar1 hag hw hv'
      · cases hc

theorem results_eq (fn : Func) (tmps : Array Value) : results fn tmps = (fn.results.mapM (resSem tmps)) >>= fun vs => pure (if h : vs.size = 1 then vs[0] else .tuple vs) := by
  unfold results
  congr 1

theorem sim_res {R : Ren} {H : IHeap} {w : World} {n : Nat} {T : Env} {tmps : Array Value} (hS : Sim R H w) (hT : TRel n R T tmps) {fn : Func} {is : List IRes} {v : Value} (hc : compRes P fn.results.toList = some is) (h : ires T H is = some v) :
    ∃ v', (results fn tmps).run P w = .ok v' w ∧ VR R v v' := by
  unfold ires at h
  have hr : ∀ l, iresL T H is = some l → ∃ l', (results fn tmps).run P w = .ok (if h : l'.toArray.size = 1 then l'.toArray[0] else .tuple l'.toArray) w ∧ VRs R l l' := by
    intro l hl
    obtain ⟨l', h1, h2⟩ := sim_res1 hS hT fn.results.toList is l hc hl
    refine ⟨l', ?_, h2⟩
    rw [results_eq, Array.mapM_eq_mapM_toList]
    simp [h1]
  split at h
  · rename_i u hl
    injection h with h; subst h
    obtain ⟨l', h1, h2⟩ := hr _ hl
    cases h2 with
    | cons h3 h4 => cases h4; exact ⟨_, h1, by simpa using h3⟩
  · rename_i l hne hl
    injection h with h; subst h
    obtain ⟨l', h1, h2⟩ := hr _ hl
    refine ⟨_, h1, ?_⟩
    have hln := h2.length
    have : l'.toArray.size ≠ 1 := by
      intro h5
      have h6 : l.length = 1 := by simpa [← hln] using h5
      match l, h6 with
      | [x], _ => exact hne x rfl
    rw [dif_neg this]
    exact .tuple _ _ (by simpa using h2)
  · cases h

/-! ### Calls -/

theorem sim_call (hm : P.follows .mixedOrders = true) {IP : FuncId → Option IFunc} {X : CallT} (hIP : ∀ f g, IP f = some g → compFunc P f = some g) (hX : CSim P X) : CSim P (ICall P IP X) := by
  intro f args H K h
  refine h (fun f args H K => (∀ (as : Array Value) w, (callFunc f as).run P w = .ok (.enter f as) w) ∧
    ∀ R w (args' : Array Value), Sim R H w → VRs R args args'.toList → Calls P f args' w (callPost K R H w)) ?_
  intro f args H K hh
  rcases hh with hh | ⟨g, hg, hbody⟩
  · exact hX f args H K hh
  · have hcf := hIP f g hg
    unfold compFunc at hcf
    split at hcf
    case h_2 => cases hcf
    rename_i fn hfn
    split at hcf
    case h_2 => cases hcf
    rename_i c hc hname
    split at hcf
    case h_2 => cases hcf
    rename_i b r hb hr
    injection hcf with hcf
    subst hcf
    constructor
    · intro as w
      have hname : ¬ fn.name = "runtime.NumGoroutine" := by simpa using hname
      simp [callFunc, hfn, hname, hc]
    · intro R w args' hS hA
      obtain ⟨hle, hwp⟩ := hbody
      have hlen := hA.length
      refine calls_of_wp hfn hc ?_
      refine sim_code (n := fn.ntmps) hm (C := fun f args H K => (∀ (as : Array Value) w, (callFunc f as).run P w = .ok (.enter f as) w) ∧
        ∀ R w (args' : Array Value), Sim R H w → VRs R args args'.toList → Calls P f args' w (callPost K R H w)) (fun _ _ _ _ h => h) c b _ _ R H _ _ w hb hwp hS ?_ rfl ?_
      · simp only at hle
        refine ⟨by simp at hlen ⊢; omega, fun t => ?_⟩
        unfold envOf
        have : ∀ (l : List Value) (l' : List Value), VRs R l l' → ∀ t, VR R (l.getD t undef) (l'.getD t undef) := by
          intro l l' hl t
          cases hg : l[t]? with
          | none =>
            have : l'[t]? = none := by rw [List.getElem?_eq_none_iff] at hg ⊢; rw [← hl.length]; exact hg
            simp [List.getD, hg, this]; exact VR.undef R
          | some v =>
            obtain ⟨v', hv', hr⟩ := hl.get t v hg
            simp [List.getD, hg, hv']; exact hr
        have h3 := this _ _ hA t
        by_cases ht : t < args'.size
        · have : (args' ++ Array.replicate (fn.ntmps - args'.size) undef).getD t undef = args'.toList.getD t undef := by
            simp [Array.getD, List.getD, ht, Array.getElem?_append, show t < args'.size + (fn.ntmps - args'.size) by omega]
          rw [this]; exact h3
        · have e1 : args'.toList.getD t undef = undef := by simp [List.getD, ht]
          rw [e1] at h3
          have : (args' ++ Array.replicate (fn.ntmps - args'.size) undef).getD t undef = undef := by
            simp [Array.getElem?_append, ht]
            by_cases h5 : t - args'.size < fn.ntmps - args'.size <;> simp [h5]
          rw [this]; exact h3
      · intro e T' H' R' a' w' k1 k2 k3 k4 k5
        have fin : (∃ v, ires T' H' r = some v ∧ K v H') → a'.defers = [] ∧ ∃ v, (results fn a'.tmps).run P w' = .ok v w' ∧ callPost K R H w (.returned v) w' := by
          rintro ⟨v, h1, h2⟩
          obtain ⟨v', h3, h4⟩ := sim_res k2 k3 hr h1
          exact ⟨k4, v', h3, v, v', R', H', rfl, h2, h4, k2, k5⟩
        cases e with
        | normal => exact fin k1
        | ret => exact fin k1
        | _ => exact k1.elim

end
end Go.Proofs.YtpklgklmjhblpaaI
