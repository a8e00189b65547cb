/- Calls that are done once: Take, Put. / What managers agree on: what each part does, as to its blocks; from state to state. -/
import Derived.Test.YtndndcdblfejnaaGreatRMgF
import Derived.Test.YtndndcdblfejnaaGreatRMgH
import Derived.Test.YtndndcdblfejnaaGreatRSmGM
import Derived.Test.YtndndcdblfejnaaGreatRUseFM
namespace Go.Proofs.YtndndcdblfejnaaGreatRI
attribute [local simp] J0 J1 J2 J3 J4 J5 J6 J7 J8 J9 Ja Jb Jc Jd Je Jf Jg Jh Ji Jj Jk Jl Jm Jn Jo Jp Jq Jr Js Jt Ju Jv Jw Jx Jy Jz JA JB JC JD JE JF JG JH JI JJ JK JL JM JN JO JP JQ JR JS stillI IOp.kind JT JU JV JW JX JY JZ Y0 Y1 Y2 Y3 Y4 Y5 Y6 Y7 Y8 Y9 Ya Yb Yc Yd Ye Yf Yg Yh Yi Yj Yk Yl Ym Yn Yo Yp Yq ial Yr Ys Yt Yu Yv Yw Yx Yy ires iresL ires1 Yz YA YB YC YD YE bin2 YF YG YH YI YJ YK YL YM YN YO YP YQ YR YS YT YU un1 shOk eqL eq1 fillL putAt IHeap.load1 IHeap.loadL IHeap.storeL YV YW YX YY YZ B0 B1 B2 B3 B4 B5 B6 B7 B8 B9 Ba Bb Bc Bd Be Bf Bg Bh Bi Bj Bk Bl Bm Bn Bo Bp
set_option linter.unusedSimpArgs false
set_option linter.unusedVariables false
open Go

theorem upE_self (R : Rps) (cl : Int) (l : List Ent) : upE R cl l cl = l := if_pos rfl
theorem upE_ne {R : Rps} {cl k : Int} {l : List Ent} (h : k ≠ cl) : upE R cl l k = R k := if_neg h
section
variable (c : Ctx) (hc : HasRepl28 c) (hT : KeyOf c.P (c.Ty 2) kI) (hI : InsOkE c) {H : IHeap} {K : Value → IHeap → Prop}

include hc hT hI in
theorem ReTake_ok {B : Nat → Prop} {p : Nat} {R : Rps} {cl id : Int} (h : ReB B H p R)
    (hK : ∀ H', Fr B H H' → ReB (Gw B H H') H' p (taE R cl id).1 → K (.tuple #[.int .i64 (taE R cl id).2.1, strV (taE R cl id).2.2]) H') :
    c.C (c.F n_replies_Replies_Take) [.pointer (some ⟨p, 0, none⟩), .int .i64 cl, .int .i64 id] H K := by
  refine c.enter hc.replies_Replies_Take rfl ?_
  have hok : OkR R := ⟨h.ok⟩
  have hokt := hok.ta cl id
  unfold taE at hK hokt
  have same : ∀ H', H.le H' → Fr B H H' ∧ ReB (Gw B H H') H' p R := fun H' hl => ⟨hl.fr B, (h.fr (hl.fr fun _ => False) fun _ _ h => h).weak (fun _ h => .inl h) (Gw.lt h.lt hl.next)⟩
  simp -implicitDefEqProofs [c_replies_Replies_Take, nilOf]
  refine call_of (Emay_ok c hc ?_)
  cases hm : mayE cl id with
  | false =>
    rw [if_pos hm] at hK
    simp -implicitDefEqProofs []
    exact hK _ (same _ (IHeap.le_refl _)).1 (same _ (IHeap.le_refl _)).2
  | true =>
    rw [if_neg (by rw [hm]; simp)] at hK hokt
    have hmi := mayE_iff.1 hm
    simp -implicitDefEqProofs []
    refine call_of (Efind_ok c hc hT h ⟨hmi.2.2.1, hmi.2.2.2⟩ fun H1 k1 => ?_)
    have h1 := h.fr (k1.fr fun _ => False) fun _ _ h => h
    obtain ⟨r, m, q, u, b1, b2, g1, g2, g3, g4, g5, g6, g7⟩ := h1.look cl
    have hlk := look_of c g2 hT cl
    rw [← g6] at hlk
    obtain ⟨o1, o2, o3⟩ := h.ok cl
    cases ht : thereE (R cl) id with
    | true =>
      obtain ⟨x, e1, e2, e3⟩ := thereE_true ht
      simp only [e1] at hK
      obtain ⟨v, hv⟩ : ∃ v, m cl = some v := by
        cases hq : m cl with
        | none => rw [g3 cl hq] at e3; simp at e3
        | some v => exact ⟨v, rfl⟩
      rw [hv] at g6
      simp only [Option.getD_some] at g6
      subst g6
      obtain ⟨w1, w2, w3⟩ := g4 cl u hv
      obtain ⟨cs, o, rfl, c1, c2, c3, c4, c5, c6⟩ := w1.at e2
      have e3I : ((posE id (R cl) : Nat) : Int) < ((R cl).length : Int) := by omega
      obtain ⟨i, hi⟩ : ∃ i, i = posE id (R cl) := ⟨_, rfl⟩
      rw [← hi] at c2 c3 c4 c5 e2 e3 e3I ⊢
      by_cases hb : x.busy = true
      · rw [if_pos hb] at hK
        simp -implicitDefEqProofs [g1, hlk, e3, e3I, c1, c3, hb, strV]
        exact hK _ (same _ k1).1 (same _ k1).2
      · rw [if_neg hb] at hK
        have hb' : x.busy = false := by simpa using hb
        simp -implicitDefEqProofs [g1, hlk, e3, e3I, c1, c3, hb', c4]
        exact hK _ (same _ k1).1 (same _ k1).2
    | false =>
      have e1 := thereE_false ht
      simp only [e1] at hK hokt
      have hul : ∃ a cap, u = .slice a (R cl).length cap := by obtain ⟨a, cap, e, _⟩ := g7; exact ⟨a, cap, by rw [e, List.length_map]⟩
      obtain ⟨a, cap, hu⟩ := hul
      by_cases h4 : (R cl).length = 4 ∧ posE id (R cl) = 0
      · rw [if_pos h4] at hK
        simp -implicitDefEqProofs [g1, hlk, hu, h4.1, h4.2]
        exact hK _ (same _ k1).1 (same _ k1).2
      · rw [if_neg h4] at hK hokt
        obtain ⟨q0, hq0, hve⟩ : ∃ q0, (q0 = H1.next + 1 ∨ (m cl ≠ none ∧ q0 = q cl)) ∧ (VE H1 q0 u (R cl) ∨ (R cl = [] ∧ u = .slice none 0 0)) := by
          cases hq : m cl with
          | none => exact ⟨_, .inl rfl, .inr ⟨g3 cl hq, by rw [g6, hq]; rfl⟩⟩
          | some v => exact ⟨q cl, .inr ⟨by simp, rfl⟩, .inl (by rw [g6, hq]; exact (g4 cl v hq).1)⟩
        have h4' : (decide (((R cl).length : Int) = 4) && decide (((posE id (R cl) : Nat) : Int) = 0)) = false := by
          by_cases z1 : (R cl).length = 4
          · have : posE id (R cl) ≠ 0 := fun z => h4 ⟨z1, z⟩
            have : ¬ ((posE id (R cl) : Nat) : Int) = 0 := by omega
            rw [decide_eq_false this, Bool.and_false]
          · have : ¬ ((R cl).length : Int) = 4 := by omega
            rw [decide_eq_false this, Bool.false_and]
        have hpl := posE_le id (R cl)
        by_cases z1 : (R cl).length = 4
        · have z2n : posE id (R cl) ≠ 0 := fun z => h4 ⟨z1, z⟩
          have z2 : ¬ ((posE id (R cl) : Nat) : Int) = 0 := by omega
          obtain ⟨HA, hHA⟩ : ∃ X : IHeap, X = H1.alloc (.cells [.int .i64 id, .bool true, .string ⟨#[]⟩] false) := ⟨_, rfl⟩
          have kA : H1.le HA := by rw [hHA]; exact H1.le_alloc _
          have nA : HA.next = H1.next + 1 := by rw [hHA]; rfl
          have gA : HA.get H1.next = some (.cells (entL ⟨id, true, []⟩) false) := by rw [hHA, YV, if_pos rfl]; rfl
          have hveA : VE HA q0 u (R cl) ∨ (R cl = [] ∧ u = .slice none 0 0) := hve.imp (fun z => z.same kA.next (kA.get _ (by obtain ⟨_, _, z, _⟩ := z; exact z))) fun z => z
          simp -implicitDefEqProofs [g1, hlk, hu, z1, z2, z2n, ← hHA]
          have hu4 : u = .slice a 4 cap := by rw [hu, z1]
          rw [hu4] at hveA
          refine call_of (hI HA _ q0 H1.next (posE id (R cl)) (.slice a 4 cap) (R cl) ⟨id, true, []⟩ hveA gA (by omega) ?_ hpl (by omega) fun q' H3 u3 hq' ve3 => ?_)
          · rcases hq0 with rfl | ⟨z, rfl⟩
            · omega
            · obtain ⟨v, hv⟩ := Option.ne_none_iff_exists'.1 z
              have := (g4 cl v hv).1
              obtain ⟨_, _, z, _⟩ := this
              omega
          have hp1 : p < H1.next := h1.lt p h1.own
          have hp0 : p ≠ q0 := by
            rcases hq0 with rfl | ⟨z, rfl⟩
            · omega
            · obtain ⟨v, hv⟩ := Option.ne_none_iff_exists'.1 z
              exact fun e => (g4 cl v hv).2.2 e.symm
          have hr1 : r < H1.next := h1.lt r b1
          have hr0 : r ≠ q0 := by
            rcases hq0 with rfl | ⟨z, rfl⟩
            · omega
            · obtain ⟨v, hv⟩ := Option.ne_none_iff_exists'.1 z
              obtain ⟨cs, o, _, _, z, _⟩ := (g4 cl v hv).1
              exact fun e => by have := g2.ne_cells (p := q cl) z; exact this e.symm
          have a3 : H3.get p = some (.cells [.int .i64 4, .map (some r)] false) := (u3.get p (by omega) (by simp [hp0])).trans ((kA.get p hp1).trans g1)
          have m3 : IsMap H3 r kI (fun v => v) m := (g2.le kA).same u3.next (u3.get r (by omega) (by simp [hr0]))
          have n3 := u3.next
          have hil := insE_len (R cl) id
          obtain ⟨o, e3, e4⟩ := m3.put hT cl (.slice (some ⟨q', 0 + 1 * 3, none⟩) ((R cl).length + 1 - 1) (UNK + 3))
          simp only [kI] at e3
          have s1 : sliceI H3 3 (some ⟨q', 0, none⟩) ((R cl).length + 1) (UNK + 3) 1 ((R cl).length + 1) none = some (.slice (some ⟨q', 0 + 1 * 3, none⟩) ((R cl).length + 1 - 1) (UNK + 3)) := by
            have : ¬ (UNK + 3 < UNK) := by omega
            simp [sliceI, this]
          have wz : IntKind.i64.wrap 1 = 1 := by decide
          simp only [z1] at s1 e3
          simp at s1 e3
          simp -implicitDefEqProofs [a3, z1, boundsI, natI, lenOfI, s1, e3, wz]
          have nA2 : H1.next ≤ HA.next := by omega
          have fU : Fr B H H3 := (k1.trans kA).trans_fr (u3.fr (B := fun b => B b ∨ HA.next ≤ b) fun b hb => by
            simp only [List.mem_singleton] at hb
            subst hb
            rcases hq0 with rfl | ⟨z, rfl⟩
            · right; omega
            · obtain ⟨v, hv⟩ := Option.ne_none_iff_exists'.1 z
              exact .inl (g4 cl v hv).2.1) |>.trans (IHeap.le_refl _ |>.fr fun _ => False) (fun _ h => h.elim) |> fun z => ⟨z.next, fun b hb hn => z.get b hb fun hx => by rcases hx with hx | hx; exact hn hx; have := k1.next; omega⟩
          have fE := fU.set (.inl b1) o
          have k1n := k1.next
          refine hK _ fE ⟨Gw.lt h.lt fE.next, .inl h.own, ⟨r, _, fun k => if k = cl then q' else q k, .inl b1, ?_, e4, fun k hk => ?_, fun k v hv => ?_, fun k k' v v' hv hv' => ?_⟩, hokt.ok⟩
          · rw [YW, if_neg b2, a3]
          · split at hk
            · cases hk
            · rename_i hne
              show upE R cl _ k = []
              rw [upE_ne (fun e => hne e.symm)]
              exact g3 k hk
          · split at hv
            · rename_i hkc
              subst hkc
              simp only [Option.some.injEq] at hv
              subst hv
              simp only [upE_self, ↓reduceIte]
              have hq'n : q' < H3.next := by obtain ⟨_, _, z, _⟩ := ve3; exact z
              refine ⟨?_, .inr ⟨by omega, by rw [YY]; exact hq'n⟩, by omega⟩
              have := (ve3.drop (k := 1) (by rw [← insE, insE_len]; omega)).same (H' := H3.set r o) (by simp [YY]) (by rw [YW, if_neg (by omega)])
              unfold insE at hil ⊢
              rw [hil] at this
              rw [show (R cl).length + 1 - 4 = 1 by omega]
              exact this
            · rename_i hkc
              have hkc' : ¬ k = cl := fun e => hkc e.symm
              obtain ⟨x1, x2, x3⟩ := g4 k v hv
              have hql : q k < H1.next := by obtain ⟨_, _, z, _⟩ := x1; exact z
              have hqq : q k ≠ q0 := by
                rcases hq0 with rfl | ⟨z, rfl⟩
                · omega
                · obtain ⟨v', hv'⟩ := Option.ne_none_iff_exists'.1 z
                  exact fun e => hkc' (g5 k cl v v' hv hv' e)
              have hqr : q k ≠ r := by
                obtain ⟨cs, o', _, _, z, _⟩ := x1
                exact g2.ne_cells z
              simp only [if_neg hkc', upE_ne hkc']
              refine ⟨x1.same (by rw [YY]; omega) ?_, .inl x2, x3⟩
              rw [YW, if_neg hqr, u3.get _ (by omega) (by simp [hqq]), kA.get _ hql]
          · show (if k = cl then q' else q k) = (if k' = cl then q' else q k') → k = k'
            have hold : ∀ k v, m k = some v → q k ≠ q' := fun k v hv e => by
              obtain ⟨_, _, z, _⟩ := (g4 k v hv).1
              omega
            by_cases x1 : k = cl
            · by_cases x2 : k' = cl
              · rw [x1, x2]; exact fun _ => rfl
              · rw [if_neg (fun e => x2 e.symm)] at hv'
                rw [if_pos x1, if_neg x2]
                exact fun e => absurd e.symm (hold k' v' hv')
            · rw [if_neg (fun e => x1 e.symm)] at hv
              by_cases x2 : k' = cl
              · rw [if_neg x1, if_pos x2]
                exact fun e => absurd e (hold k v hv)
              · rw [if_neg (fun e => x2 e.symm)] at hv'
                rw [if_neg x1, if_neg x2]
                exact g5 k k' v v' hv hv'
        · have z1' : ¬ ((R cl).length : Int) = 4 := by omega
          obtain ⟨HA, hHA⟩ : ∃ X : IHeap, X = H1.alloc (.cells [.int .i64 id, .bool true, .string ⟨#[]⟩] false) := ⟨_, rfl⟩
          have kA : H1.le HA := by rw [hHA]; exact H1.le_alloc _
          have nA : HA.next = H1.next + 1 := by rw [hHA]; rfl
          have gA : HA.get H1.next = some (.cells (entL ⟨id, true, []⟩) false) := by rw [hHA, YV, if_pos rfl]; rfl
          have hveA : VE HA q0 u (R cl) ∨ (R cl = [] ∧ u = .slice none 0 0) := hve.imp (fun z => z.same kA.next (kA.get _ (by obtain ⟨_, _, z, _⟩ := z; exact z))) fun z => z
          simp -implicitDefEqProofs [g1, hlk, hu, z1, z1', ← hHA]
          rw [← hu]
          refine call_of (hI HA _ q0 H1.next (posE id (R cl)) u (R cl) ⟨id, true, []⟩ hveA gA (by omega) ?_ hpl (by omega) fun q' H3 u3 hq' ve3 => ?_)
          · rcases hq0 with rfl | ⟨z, rfl⟩
            · omega
            · obtain ⟨v, hv⟩ := Option.ne_none_iff_exists'.1 z
              have := (g4 cl v hv).1
              obtain ⟨_, _, z, _⟩ := this
              omega
          have hp1 : p < H1.next := h1.lt p h1.own
          have hp0 : p ≠ q0 := by
            rcases hq0 with rfl | ⟨z, rfl⟩
            · omega
            · obtain ⟨v, hv⟩ := Option.ne_none_iff_exists'.1 z
              exact fun e => (g4 cl v hv).2.2 e.symm
          have hr1 : r < H1.next := h1.lt r b1
          have hr0 : r ≠ q0 := by
            rcases hq0 with rfl | ⟨z, rfl⟩
            · omega
            · obtain ⟨v, hv⟩ := Option.ne_none_iff_exists'.1 z
              obtain ⟨cs, o, _, _, z, _⟩ := (g4 cl v hv).1
              exact fun e => by have := g2.ne_cells (p := q cl) z; exact this e.symm
          have a3 : H3.get p = some (.cells [.int .i64 4, .map (some r)] false) := (u3.get p (by omega) (by simp [hp0])).trans ((kA.get p hp1).trans g1)
          have m3 : IsMap H3 r kI (fun v => v) m := (g2.le kA).same u3.next (u3.get r (by omega) (by simp [hr0]))
          have n3 := u3.next
          have hil := insE_len (R cl) id
          obtain ⟨o, e3, e4⟩ := m3.put hT cl (.slice (some ⟨q', 0 + 0 * 3, none⟩) ((R cl).length + 1 - 0) (UNK + 3))
          simp only [kI] at e3
          have s1 : sliceI H3 3 (some ⟨q', 0, none⟩) ((R cl).length + 1) (UNK + 3) 0 ((R cl).length + 1) none = some (.slice (some ⟨q', 0 + 0 * 3, none⟩) ((R cl).length + 1 - 0) (UNK + 3)) := by
            have : ¬ (UNK + 3 < UNK) := by omega
            simp [sliceI, this]
          have wz : IntKind.i64.wrap (((R cl).length : Int) + 1 - 4) = ((R cl).length : Int) - 3 := by rw [wrap64 (by omega) (by omega)]; omega
          have hmx : (if ((R cl).length : Int) - 3 < 0 then 0 else ((R cl).length : Int) - 3) = 0 := by split <;> omega
          simp at s1 e3
          simp -implicitDefEqProofs [a3, boundsI, natI, lenOfI, s1, e3, wz, hmx]
          have nA2 : H1.next ≤ HA.next := by omega
          have fU : Fr B H H3 := (k1.trans kA).trans_fr (u3.fr (B := fun b => B b ∨ HA.next ≤ b) fun b hb => by
            simp only [List.mem_singleton] at hb
            subst hb
            rcases hq0 with rfl | ⟨z, rfl⟩
            · right; omega
            · obtain ⟨v, hv⟩ := Option.ne_none_iff_exists'.1 z
              exact .inl (g4 cl v hv).2.1) |>.trans (IHeap.le_refl _ |>.fr fun _ => False) (fun _ h => h.elim) |> fun z => ⟨z.next, fun b hb hn => z.get b hb fun hx => by rcases hx with hx | hx; exact hn hx; have := k1.next; omega⟩
          have fE := fU.set (.inl b1) o
          have k1n := k1.next
          refine hK _ fE ⟨Gw.lt h.lt fE.next, .inl h.own, ⟨r, _, fun k => if k = cl then q' else q k, .inl b1, ?_, e4, fun k hk => ?_, fun k v hv => ?_, fun k k' v v' hv hv' => ?_⟩, hokt.ok⟩
          · rw [YW, if_neg b2, a3]
          · split at hk
            · cases hk
            · rename_i hne
              show upE R cl _ k = []
              rw [upE_ne (fun e => hne e.symm)]
              exact g3 k hk
          · split at hv
            · rename_i hkc
              subst hkc
              simp only [Option.some.injEq] at hv
              subst hv
              simp only [upE_self, ↓reduceIte]
              have hq'n : q' < H3.next := by obtain ⟨_, _, z, _⟩ := ve3; exact z
              refine ⟨?_, .inr ⟨by omega, by rw [YY]; exact hq'n⟩, by omega⟩
              have := (ve3.drop (k := 0) (by rw [← insE, insE_len]; omega)).same (H' := H3.set r o) (by simp [YY]) (by rw [YW, if_neg (by omega)])
              unfold insE at hil ⊢
              rw [hil] at this
              rw [show (R cl).length + 1 - 4 = 0 by omega]
              exact this
            · rename_i hkc
              have hkc' : ¬ k = cl := fun e => hkc e.symm
              obtain ⟨x1, x2, x3⟩ := g4 k v hv
              have hql : q k < H1.next := by obtain ⟨_, _, z, _⟩ := x1; exact z
              have hqq : q k ≠ q0 := by
                rcases hq0 with rfl | ⟨z, rfl⟩
                · omega
                · obtain ⟨v', hv'⟩ := Option.ne_none_iff_exists'.1 z
                  exact fun e => hkc' (g5 k cl v v' hv hv' e)
              have hqr : q k ≠ r := by
                obtain ⟨cs, o', _, _, z, _⟩ := x1
                exact g2.ne_cells z
              simp only [if_neg hkc', upE_ne hkc']
              refine ⟨x1.same (by rw [YY]; omega) ?_, .inl x2, x3⟩
              rw [YW, if_neg hqr, u3.get _ (by omega) (by simp [hqq]), kA.get _ hql]
          · show (if k = cl then q' else q k) = (if k' = cl then q' else q k') → k = k'
            have hold : ∀ k v, m k = some v → q k ≠ q' := fun k v hv e => by
              obtain ⟨_, _, z, _⟩ := (g4 k v hv).1
              omega
            by_cases x1 : k = cl
            · by_cases x2 : k' = cl
              · rw [x1, x2]; exact fun _ => rfl
              · rw [if_neg (fun e => x2 e.symm)] at hv'
                rw [if_pos x1, if_neg x2]
                exact fun e => absurd e.symm (hold k' v' hv')
            · rw [if_neg (fun e => x1 e.symm)] at hv
              by_cases x2 : k' = cl
              · rw [if_neg x1, if_pos x2]
                exact fun e => absurd e (hold k v hv)
              · rw [if_neg (fun e => x2 e.symm)] at hv'
                rw [if_neg x1, if_neg x2]
                exact g5 k k' v v' hv hv'
include hc hT in
theorem RePut_ok {B : Nat → Prop} {p : Nat} {R : Rps} {cl id : Int} {re : List UInt8} (h : ReB B H p R) (hre : re.length ≤ 1000000000)
    (hK : ∀ H', Fr B H H' → ReB B H' p (puE R cl id re).1 → K (.bool (puE R cl id re).2) H') :
    c.C (c.F n_replies_Replies_Put) [.pointer (some ⟨p, 0, none⟩), .int .i64 cl, .int .i64 id, strV re] H K := by
  refine c.enter hc.replies_Replies_Put rfl ?_
  have hok : OkR R := ⟨h.ok⟩
  have hokt := hok.pu cl id re
  unfold puE at hK hokt
  have same : ∀ H', H.le H' → Fr B H H' ∧ ReB B H' p R := fun H' hl => ⟨hl.fr B, h.fr (hl.fr fun _ => False) fun _ _ h => h⟩
  simp -implicitDefEqProofs [c_replies_Replies_Put, nilOf]
  refine call_of (Emay_ok c hc ?_)
  cases hm : mayE cl id with
  | false =>
    rw [if_pos (.inl hm)] at hK
    simp -implicitDefEqProofs []
    exact hK _ (same _ (IHeap.le_refl _)).1 (same _ (IHeap.le_refl _)).2
  | true =>
    by_cases hl : 4096 < re.length
    · rw [if_pos (.inr hl)] at hK
      have hlI : (4096 : Int) < (re.length : Int) := by omega
      simp -implicitDefEqProofs [strV, hl, hlI]
      exact hK _ (same _ (IHeap.le_refl _)).1 (same _ (IHeap.le_refl _)).2
    rw [if_neg (by rw [hm]; simp [hl])] at hK hokt
    have hlI : ¬ (4096 : Int) < (re.length : Int) := by omega
    have hmi := mayE_iff.1 hm
    simp -implicitDefEqProofs [strV, hl, hlI]
    refine call_of (Efind_ok c hc hT h ⟨hmi.2.2.1, hmi.2.2.2⟩ fun H1 k1 => ?_)
    have h1 := h.fr (k1.fr fun _ => False) fun _ _ h => h
    obtain ⟨r, m, q, u, b1, b2, g1, g2, g3, g4, g5, g6, g7⟩ := h1.look cl
    have hlk := look_of c g2 hT cl
    rw [← g6] at hlk
    cases ht : thereE (R cl) id with
    | false =>
      have e1 := thereE_false ht
      simp only [e1] at hK hokt
      simp -implicitDefEqProofs []
      exact hK _ (same _ k1).1 (same _ k1).2
    | true =>
      obtain ⟨x, e1, e2, e3⟩ := thereE_true ht
      simp only [e1] at hK hokt
      obtain ⟨v, hv⟩ : ∃ v, m cl = some v := by
        cases hq : m cl with
        | none => rw [g3 cl hq] at e3; simp at e3
        | some v => exact ⟨v, rfl⟩
      rw [hv] at g6
      simp only [Option.getD_some] at g6
      subst g6
      obtain ⟨w1, w2, w3⟩ := g4 cl u hv
      obtain ⟨cs, o, rfl, c1, c2, c3, c4, c5, c6⟩ := w1.at e2
      have e3I : ((posE id (R cl) : Nat) : Int) < ((R cl).length : Int) := by omega
      obtain ⟨i, hi⟩ : ∃ i, i = posE id (R cl) := ⟨_, rfl⟩
      rw [← hi] at c2 c3 c4 c5 e2 e3 e3I hK hokt ⊢
      by_cases hb : x.busy = true
      · rw [if_pos hb] at hK hokt
        have hqp : q cl ≠ p := w3
        simp -implicitDefEqProofs [g1, hlk, e3, e3I, c1, c3, hb, c5]
        obtain ⟨H2, hH2⟩ : ∃ X : IHeap, X = H1.set (q cl) (.cells (putAt cs (o + i * 3) (entL ⟨id, false, re⟩)) false) := ⟨_, rfl⟩
        have fE : Fr B H H2 := by rw [hH2]; exact (k1.fr B).set (.inl w2) _
        have n2 : H2.next = H1.next := by rw [hH2]; rfl
        have gq : H2.get (q cl) = some (.cells (putAt cs (o + i * 3) (entL ⟨id, false, re⟩)) false) := by rw [hH2, YW, if_pos rfl]
        have go : ∀ b, b ≠ q cl → H2.get b = H1.get b := fun b hb => by rw [hH2, YW, if_neg hb]
        have hqr : r ≠ q cl := fun e => g2.ne_cells c1 e.symm
        have fin : ReB B H2 p (upE R cl ((R cl).set i ⟨id, false, re⟩)) := by
          refine ⟨fun b hb => by rw [n2]; exact h1.lt b hb, h.own, ⟨r, m, q, b1, (go p fun e => hqp e.symm).trans g1, g2.same (by omega) (go r hqr), fun k hk => ?_, fun k v' hv' => ?_, g5⟩, hokt.ok⟩
          · by_cases hkc : k = cl
            · subst hkc; rw [hv] at hk; cases hk
            · rw [upE_ne hkc]; exact g3 k hk
          · by_cases hkc : k = cl
            · subst hkc
              rw [hv] at hv'
              simp only [Option.some.injEq] at hv'
              subst hv'
              rw [upE_self]
              exact ⟨w1.put c1 (by omega) _ (by omega) gq, w2, w3⟩
            · rw [upE_ne hkc]
              obtain ⟨x1, x2, x3⟩ := g4 k v' hv'
              exact ⟨x1.same (by omega) (go _ fun e => hkc (g5 k cl _ _ hv' hv e)), x2, x3⟩
        have := hK H2 fE fin
        rw [hH2] at this
        simpa [putAt, entL, strV] using this
      · rw [if_neg hb] at hK hokt
        have hb' : x.busy = false := by simpa using hb
        simp -implicitDefEqProofs [g1, hlk, e3, e3I, c1, c3, hb']
        exact hK _ (same _ k1).1 (same _ k1).2
end
end Go.Proofs.YtndndcdblfejnaaGreatRI
namespace Go.Proofs.YtndndcdblfejnaaGreatRI
set_option linter.unusedSimpArgs false
set_option linter.unusedVariables false
open Go
set_option linter.unusedSectionVars false

structure MgC (c : Ctx) : Prop where
  mb : HasMembers c
  sm : HasSmap c
  us : HasUse c
  er : IsErr c
  it : InsOkT c
  re : HasRepl28 c
  ie : InsOkE c
  ki : KeyOf c.P (c.Ty 2) kI
  im : HasImap28 c
  cd : HasCodec c
  mg : HasMgr28 c

theorem Gw.no {H H' : IHeap} : ∀ b, Gw (fun _ => False) H H' b → H.next ≤ b ∧ b < H'.next := fun _ h => h.elim False.elim fun h => h
section
variable (c : Ctx) (hc : MgC c) {H : IHeap} {K : Value → IHeap → Prop} {B : Nat → Prop} {p : Nat}
include hc

theorem gNew {L S : List Int} {u v : Value} (hu : SlW H 1 u (L.map rowI)) (hv : SlW H 1 v (S.map rowI)) (hL : L.length ≤ 1000000000) (hS : S.length ≤ 1000000000)
    (h0 : ∀ H', H.le H' → ¬ (2 ≤ L.length ∧ L.length ≤ 8 ∧ Apart (L ++ S)) → K (.pointer none) H')
    (h1 : 2 ≤ L.length → L.length ≤ 8 → Apart (L ++ S) → ∀ p H', H.le H' → GrB (Gw (fun _ => False) H H') H' p ⟨L, S, 1, -1, false, -1⟩ → K (.pointer (some ⟨p, 0, none⟩)) H') : c.C (c.F n_members_New) [u, v] H K :=
  MNew_ok c hc.mb hu hv hL hS h0 fun a1 a2 a3 p q1 q2 H' b1 b2 b3 k b4 i => h1 a1 a2 a3 p H' k ⟨fun b hb => (Gw.no b hb).2, .inr ⟨b1, i.lt⟩, q1, q2, .inr ⟨b2, i.lt1⟩, .inr ⟨b3, b4⟩, i⟩
theorem gEpoch {m : Mem} (h : GrB B H p m) (hK : K (.int .i64 m.e) H) : c.C (c.F n_members_Members_Epoch) [.pointer (some ⟨p, 0, none⟩)] H K := by
  obtain ⟨_, _, _, _, _, _, i⟩ := h
  exact MEpoch_ok c hc.mb i hK
theorem gServers {m : Mem} (h : GrB B H p m) (hK : ∀ v H', H.le H' → SlW H' 1 v (m.L.map rowI) → K v H') : c.C (c.F n_members_Members_Servers) [.pointer (some ⟨p, 0, none⟩)] H K := by
  obtain ⟨_, _, _, _, _, _, i⟩ := h
  exact MServers_ok c hc.mb i fun v H' a b _ => hK v H' a b
theorem gFail {m : Mem} {s e : Int} (h : GrB B H p m) (hb : m.e < 4611686018427387904) (hK : ∀ H', Fr B H H' → GrB (Gw B H H') H' p (m.fail s e).1 → K (.int .i64 (m.fail s e).2) H') :
    c.C (c.F n_members_Members_Fail) [.pointer (some ⟨p, 0, none⟩), .int .i64 s, .int .i64 e] H K := by
  obtain ⟨h1, h2, q1, q2, b1, b2, i⟩ := h
  refine MFail_ok c hc.mb i hb fun H' u n i' => ?_
  have f : Fr B H H' := u.fr fun b hb => by
    simp only [List.mem_cons, List.not_mem_nil, or_false] at hb
    rcases hb with rfl | rfl | rfl
    · exact h2
    · exact b1
    · exact b2
  exact hK H' f ⟨Gw.lt h1 f.next, .inl h2, q1, q2, .inl b1, .inl b2, i'⟩
theorem gDone {m : Mem} {e : Int} (h : GrB B H p m) (hb : m.e < 4611686018427387904) (hK : ∀ H', Fr B H H' → GrB (Gw B H H') H' p (m.done e).1 → K (.int .i64 (m.done e).2) H') :
    c.C (c.F n_members_Members_Done) [.pointer (some ⟨p, 0, none⟩), .int .i64 e] H K := by
  obtain ⟨h1, h2, q1, q2, b1, b2, i⟩ := h
  refine MDone_ok c hc.mb i hb fun H' u n i' => ?_
  have f : Fr B H H' := u.fr fun b hb => by
    simp only [List.mem_cons, List.not_mem_nil, or_false] at hb
    rcases hb with rfl | rfl | rfl
    · exact h2
    · exact b1
    · exact b2
  exact hK H' f ⟨Gw.lt h1 f.next, .inl h2, q1, q2, .inl b1, .inl b2, i'⟩
theorem gSwap {m : Mem} {e : Int} (h : GrB B H p m) (hb : m.e < 4611686018427387904) (hK : ∀ H', Fr B H H' → GrB (Gw B H H') H' p (m.swap e).1 → K (.tuple #[.int .i64 (m.swap e).2.1, .int .i64 (m.swap e).2.2]) H') :
    c.C (c.F n_members_Members_Swap) [.pointer (some ⟨p, 0, none⟩), .int .i64 e] H K := by
  obtain ⟨h1, h2, q1, q2, b1, b2, i⟩ := h
  refine MSwap_ok c hc.mb i hb fun H' u n i' => ?_
  have f : Fr B H H' := u.fr fun b hb => by
    simp only [List.mem_cons, List.not_mem_nil, or_false] at hb
    rcases hb with rfl | rfl | rfl
    · exact h2
    · exact b1
    · exact b2
  exact hK H' f ⟨Gw.lt h1 f.next, .inl h2, q1, q2, .inl b1, .inl b2, i'⟩

theorem sNew (hK : ∀ p H', H.le H' → StB (Gw (fun _ => False) H H') H' p [] → K (.pointer (some ⟨p, 0, none⟩)) H') : c.C (c.F n_smap_New) [] H K :=
  SNew_ok c hc.sm fun H' k i => hK _ H' k ⟨fun b hb => (Gw.no b hb).2, .inr ⟨Nat.le_refl _, i.lt⟩, _, _, fun b hb => by
    rcases mem_foot.1 hb with rfl | rfl | ⟨i', hi, _⟩
    · exact .inr ⟨Nat.le_refl _, i.lt⟩
    · exact .inr ⟨Nat.le_refl _, i.lt⟩
    · simp at hi, i⟩
theorem sBegin {L : List St} {ow ep le : Int} {sv : List Int} {u : Value} (h : StB B H p L) (hu : SlW H 1 u (sv.map rowI)) (hsv : sv.length ≤ 1000000) (hep : ep < 9223372036854775808)
    (hK : ∀ H', Fr B H H' → StB (Gw B H H') H' p (SBegin L ow ep le sv).1 → K (.tuple #[.int .i64 (SBegin L ow ep le sv).2.1, .int .i64 (SBegin L ow ep le sv).2.2]) H') :
    c.C (c.F n_smap_Map_Begin) [.pointer (some ⟨p, 0, none⟩), .int .i64 ow, .int .i64 ep, .int .i64 le, u] H K := by
  obtain ⟨h1, h2, q, bs, hf, i⟩ := h
  refine SBegin_ok c hc.sm i hu hsv hep fun q' bs' H' u i' hb => ?_
  have f : Fr B H H' := u.fr hf
  refine hK H' f ⟨Gw.lt h1 f.next, .inl h2, q', bs', fun b hm => ?_, i'⟩
  rcases hb b hm with z | z
  · exact .inl (hf b z)
  · refine .inr ⟨z, ?_⟩
    rcases mem_foot.1 hm with rfl | rfl | ⟨j, hj, rfl⟩
    · exact i'.lt
    · exact i'.ltq
    · exact (i'.bl j _ (List.getElem?_eq_getElem hj)).1
theorem sCommit {L : List St} {id ow : Int} (h : StB B H p L) (hK : ∀ H', Fr B H H' → StB (Gw B H H') H' p (SCommit L id ow).1 → K (.int .i64 (SCommit L id ow).2) H') :
    c.C (c.F n_smap_Map_Commit) [.pointer (some ⟨p, 0, none⟩), .int .i64 id, .int .i64 ow] H K := by
  obtain ⟨h1, h2, q, bs, hf, i⟩ := h
  refine SCommit_ok c hc.sm i fun H' u n i' e => ?_
  have f : Fr B H H' := u.fr hf
  exact hK H' f ⟨Gw.lt h1 f.next, .inl h2, q, bs, fun b hm => .inl (hf b (e ▸ hm)), i'⟩
theorem sFree {L : List St} {id : Int} (h : StB B H p L) (hK : ∀ H', Fr B H H' → StB (Gw B H H') H' p (SFree L id).1 → K (.int .i64 (SFree L id).2) H') :
    c.C (c.F n_smap_Map_Free) [.pointer (some ⟨p, 0, none⟩), .int .i64 id] H K := by
  obtain ⟨h1, h2, q, bs, hf, i⟩ := h
  refine SFree_ok c hc.sm i fun H' u n i' e => ?_
  have f : Fr B H H' := u.fr hf
  exact hK H' f ⟨Gw.lt h1 f.next, .inl h2, q, bs, fun b hm => .inl (hf b (e ▸ hm)), i'⟩
theorem sMove {L : List St} {id ix sr : Int} (h : StB B H p L) (hK : ∀ H', Fr B H H' → StB (Gw B H H') H' p (SMove L id ix sr).1 → K (.int .i64 (SMove L id ix sr).2) H') :
    c.C (c.F n_smap_Map_Move) [.pointer (some ⟨p, 0, none⟩), .int .i64 id, .int .i64 ix, .int .i64 sr] H K := by
  obtain ⟨h1, h2, q, bs, hf, i⟩ := h
  refine SMove_ok c hc.sm i fun H' u n i' e => ?_
  have f : Fr B H H' := u.fr hf
  exact hK H' f ⟨Gw.lt h1 f.next, .inl h2, q, bs, fun b hm => .inl (hf b (e ▸ hm)), i'⟩
theorem sGet {L : List St} {id : Int} (h : StB B H p L) (h0 : getS L id = none → ∀ H', H.le H' → K (.tuple #[stV 0 ⟨0, 0, 0, 0, []⟩ (.slice none 0 0), .bool false]) H')
    (h1 : ∀ x v H', getS L id = some x → H.le H' → SlW H' 1 v (x.sv.map rowI) → (∀ S : List Nat, (∀ b ∈ S, b < H.next) → Far H' v S) → K (.tuple #[stV id.toNat x v, .bool true]) H') :
    c.C (c.F n_smap_Map_Get) [.pointer (some ⟨p, 0, none⟩), .int .i64 id] H K := by
  obtain ⟨_, _, q, bs, hf, i⟩ := h
  exact SGet_ok c hc.sm i h0 h1
theorem sList {L : List St} {st : Int} (h : StB B H p L) (hK : ∀ v H', H.le H' → SlW H' 1 v ((wh (fun x => decide (x.st = st)) 0 L).map rowI) → K v H') : c.C (c.F n_smap_Map_List) [.pointer (some ⟨p, 0, none⟩), .int .i64 st] H K := by
  obtain ⟨_, _, q, bs, hf, i⟩ := h
  exact SList_ok c hc.sm i hK
theorem sOn {L : List St} {sr : Int} (h : StB B H p L) (hK : ∀ v H', H.le H' → SlW H' 1 v ((onS L sr).map rowI) → K v H') : c.C (c.F n_smap_Map_On) [.pointer (some ⟨p, 0, none⟩), .int .i64 sr] H K := by
  obtain ⟨_, _, q, bs, hf, i⟩ := h
  exact SOn_ok c hc.sm i hK
theorem StB.len {L : List St} (h : StB B H p L) : L.length ≤ 4096 ∧ ∀ x ∈ L, x.ok := by obtain ⟨_, _, q, bs, hf, i⟩ := h; exact ⟨i.len, i.ok⟩

theorem uNew (hK : ∀ p H', H.le H' → UsB (Gw (fun _ => False) H H') H' p [] → K (.pointer (some ⟨p, 0, none⟩)) H') : c.C (c.F n_usage_New) [] H K :=
  TNew_ok c hc.us fun H' k i => by
    have hn := k.next
    have hl := (i (H'.next + 1) (by omega)).lt
    exact hK _ H' k ⟨fun b hb => (Gw.no b hb).2, .inr ⟨Nat.le_refl _, hl⟩, H'.next, i _ (by omega), .inr (Nat.le_refl _)⟩
theorem uAdd {L : List UseD} {x : UseD} (h : UsB B H p L) (hl : L.length ≤ 1000000) (hK : ∀ H', Fr B H H' → UsB (Gw B H H') H' p (addT L x).1 → K (.int .i64 (addT L x).2) H') :
    c.C (c.F n_usage_Usage_Add) [.pointer (some ⟨p, 0, none⟩), .int .i64 x.seg, .int .i64 x.size, .int .i64 x.live, .int .i64 x.born] H K := by
  obtain ⟨h1, h2, q, i, hq⟩ := h
  have hp := h1 p h2
  refine TAdd_ok c hc.us hc.er hc.it i hl fun q' H' u hq' i' => ?_
  have f : Fr B H H' := ⟨u.next, fun b hb hn => u.get b hb fun hm => by
    simp only [List.mem_cons, List.not_mem_nil, or_false] at hm
    rcases hm with rfl | rfl
    · exact hn h2
    · rcases hq with hq | hq
      · exact hn hq
      · omega⟩
  refine hK H' f ⟨Gw.lt h1 f.next, .inl h2, q', i', ?_⟩
  by_cases hl' : q' < H'.next
  · left
    rcases hq' with rfl | hq'
    · rcases hq with hq | hq
      · exact .inl hq
      · exact .inr ⟨hq, hl'⟩
    · exact .inr ⟨hq', hl'⟩
  · exact .inr (by omega)
theorem uDead {L : List UseD} {s n : Int} (h : UsB B H p L) (hl : L.length ≤ 1000000) (ho : ∀ e ∈ L, okT e) (hK : ∀ H', Fr B H H' → UsB (Gw B H H') H' p (deadT L s n).1 → K (.int .i64 (deadT L s n).2) H') :
    c.C (c.F n_usage_Usage_Dead) [.pointer (some ⟨p, 0, none⟩), .int .i64 s, .int .i64 n] H K := by
  obtain ⟨h1, h2, q, i, hq⟩ := h
  have hp := h1 p h2
  refine TDead_ok c hc.us hc.er i hl ho fun H' u i' => ?_
  have f : Fr B H H' := ⟨u.next, fun b hb hn => u.get b hb fun hm => by
    simp only [List.mem_cons, List.not_mem_nil, or_false] at hm
    rcases hm with rfl | rfl
    · exact hn h2
    · rcases hq with hq | hq
      · exact hn hq
      · omega⟩
  refine hK H' f ⟨Gw.lt h1 f.next, .inl h2, q, i', ?_⟩
  by_cases hl' : q < H'.next
  · left
    rcases hq with hq | hq
    · exact .inl hq
    · exact .inr ⟨hq, hl'⟩
  · exact .inr (by omega)
theorem uDrop {L : List UseD} {s : Int} (h : UsB B H p L) (hl : L.length ≤ 1000000) (hK : ∀ H', Fr B H H' → UsB (Gw B H H') H' p (dropT L s).1 → K (.bool (dropT L s).2) H') :
    c.C (c.F n_usage_Usage_Drop) [.pointer (some ⟨p, 0, none⟩), .int .i64 s] H K := by
  obtain ⟨h1, h2, q, i, hq⟩ := h
  have hp := h1 p h2
  refine TDrop_ok c hc.us i hl fun H' u i' => ?_
  have f : Fr B H H' := ⟨u.next, fun b hb hn => u.get b hb fun hm => by
    simp only [List.mem_cons, List.not_mem_nil, or_false] at hm
    rcases hm with rfl | rfl
    · exact hn h2
    · rcases hq with hq | hq
      · exact hn hq
      · omega⟩
  refine hK H' f ⟨Gw.lt h1 f.next, .inl h2, q, i', ?_⟩
  by_cases hl' : q < H'.next
  · left
    rcases hq with hq | hq
    · exact .inl hq
    · exact .inr ⟨hq, hl'⟩
  · exact .inr (by omega)
end

/-! ### from state to state -/
structure Pts where
  g : Nat
  s : Nat
  i : Nat
  u : Nat
  l : Nat
  r : Nat
def ptV (p : Nat) : Value := .pointer (some ⟨p, 0, none⟩)
def mgL (q : Pts) (gone : Int) : List Value := [ptV q.g, ptV q.s, ptV q.i, ptV q.u, ptV q.l, ptV q.r, .int .i64 gone]
structure MgO (w : Nat → Nat) (H : IHeap) (p : Nat) (q : Pts) (S : Mst) : Prop where
  lt : ∀ b, w b ≠ 0 → b < H.next
  own : w p = 1
  get : H.get p = some (.cells (mgL q S.gone) false)
  g : GrB (fun b => w b = 2) H q.g S.g
  s : StB (fun b => w b = 3) H q.s S.s
  i : ImB (fun b => w b = 4) H q.i S.i
  u : UsB (fun b => w b = 5) H q.u S.u
  l : LeB (fun b => w b = 6) H q.l S.l
  r : ReB (fun b => w b = 7) H q.r S.r
/-- A step: only its own blocks, or new ones. -/
structure Sg (w : Nat → Nat) (H : IHeap) (w' : Nat → Nat) (H' : IHeap) : Prop where
  fr : Fr (fun b => w b ≠ 0) H H'
  gw : ∀ b, w' b ≠ 0 → w b ≠ 0 ∨ H.next ≤ b
theorem Sg.le {w : Nat → Nat} {H H' : IHeap} (h : H.le H') : Sg w H w H' := ⟨h.fr _, fun _ h => .inl h⟩
theorem Sg.trans {w w1 w2 : Nat → Nat} {H H1 H2 : IHeap} (h : Sg w H w1 H1) (k : Sg w1 H1 w2 H2) : Sg w H w2 H2 :=
  ⟨h.fr.trans k.fr h.gw, fun b hb => by
    have := h.fr.next
    rcases k.gw b hb with z | z
    · exact h.gw b z
    · right; omega⟩
theorem Sg.nw {w : Nat → Nat} {k : Nat} {H H' : IHeap} (hk : k ≠ 0) (f : Fr (fun b => w b = k) H H') : Sg w H (nw w k H H') H' :=
  ⟨f.weak fun b hb => by rw [hb]; exact hk, fun b hb => by
    unfold Go.Proofs.YtndndcdblfejnaaGreatRI.nw at hb
    split at hb
    · right; omega
    · exact .inl hb⟩
theorem MgO.le {w : Nat → Nat} {H H' : IHeap} {p : Nat} {q : Pts} {S : Mst} (h : MgO w H p q S) (k : H.le H') : MgO w H' p q S :=
  ⟨fun b hb => Nat.lt_of_lt_of_le (h.lt b hb) k.next, h.own, (k.get p (h.lt p (by rw [h.own]; decide))).trans h.get, h.g.fr (k.fr fun _ => False) fun _ _ h => h, h.s.fr (k.fr fun _ => False) fun _ _ h => h, h.i.fr (k.fr fun _ => False) fun _ _ h => h, h.u.fr (k.fr fun _ => False) fun _ _ h => h, h.l.fr (k.fr fun _ => False) fun _ _ h => h, h.r.fr (k.fr fun _ => False) fun _ _ h => h⟩
theorem MgO.lp {w : Nat → Nat} {H : IHeap} {p : Nat} {q : Pts} {S : Mst} (h : MgO w H p q S) : p < H.next := h.lt p (by rw [h.own]; decide)
theorem MgO.to_g {w : Nat → Nat} {H H1 : IHeap} {p : Nat} {q : Pts} {S : Mst} (h : MgO w H p q S) {m : Mem} (f : Fr (fun b => w b = 2) H H1) (n : GrB (Gw (fun b => w b = 2) H H1) H1 q.g m) : MgO (nw w 2 H H1) H1 p q { S with g := m } := by
  have hl := nw_lt (k := 2) f.next h.lt
  exact ⟨hl, nw_oth h.lt (by decide) h.own, (f.get p h.lp (by show ¬ w p = 2; rw [h.own]; decide)).trans h.get,
    n.weak (fun b hb => nw_gw h.lt (by decide) hb) (fun b hb => hl b (by rw [hb]; decide)),
    (h.s.fr f fun b hb hx => by have hb : w b = 3 := hb; have hx : w b = 2 := hx; omega).weak (fun b hb => nw_oth h.lt (by decide) hb) (fun b hb => hl b (by rw [hb]; decide)),
    (h.i.fr f fun b hb hx => by have hb : w b = 4 := hb; have hx : w b = 2 := hx; omega).weak (fun b hb => nw_oth h.lt (by decide) hb) (fun b hb => hl b (by rw [hb]; decide)),
    (h.u.fr f fun b hb hx => by have hb : w b = 5 := hb; have hx : w b = 2 := hx; omega).weak (fun b hb => nw_oth h.lt (by decide) hb) (fun b hb => hl b (by rw [hb]; decide)),
    (h.l.fr f fun b hb hx => by have hb : w b = 6 := hb; have hx : w b = 2 := hx; omega).weak (fun b hb => nw_oth h.lt (by decide) hb) (fun b hb => hl b (by rw [hb]; decide)),
    (h.r.fr f fun b hb hx => by have hb : w b = 7 := hb; have hx : w b = 2 := hx; omega).weak (fun b hb => nw_oth h.lt (by decide) hb) (fun b hb => hl b (by rw [hb]; decide))⟩
theorem MgO.to_s {w : Nat → Nat} {H H1 : IHeap} {p : Nat} {q : Pts} {S : Mst} (h : MgO w H p q S) {m : List St} (f : Fr (fun b => w b = 3) H H1) (n : StB (Gw (fun b => w b = 3) H H1) H1 q.s m) : MgO (nw w 3 H H1) H1 p q { S with s := m } := by
  have hl := nw_lt (k := 3) f.next h.lt
  exact ⟨hl, nw_oth h.lt (by decide) h.own, (f.get p h.lp (by show ¬ w p = 3; rw [h.own]; decide)).trans h.get,
    (h.g.fr f fun b hb hx => by have hb : w b = 2 := hb; have hx : w b = 3 := hx; omega).weak (fun b hb => nw_oth h.lt (by decide) hb) (fun b hb => hl b (by rw [hb]; decide)),
    n.weak (fun b hb => nw_gw h.lt (by decide) hb) (fun b hb => hl b (by rw [hb]; decide)),
    (h.i.fr f fun b hb hx => by have hb : w b = 4 := hb; have hx : w b = 3 := hx; omega).weak (fun b hb => nw_oth h.lt (by decide) hb) (fun b hb => hl b (by rw [hb]; decide)),
    (h.u.fr f fun b hb hx => by have hb : w b = 5 := hb; have hx : w b = 3 := hx; omega).weak (fun b hb => nw_oth h.lt (by decide) hb) (fun b hb => hl b (by rw [hb]; decide)),
    (h.l.fr f fun b hb hx => by have hb : w b = 6 := hb; have hx : w b = 3 := hx; omega).weak (fun b hb => nw_oth h.lt (by decide) hb) (fun b hb => hl b (by rw [hb]; decide)),
    (h.r.fr f fun b hb hx => by have hb : w b = 7 := hb; have hx : w b = 3 := hx; omega).weak (fun b hb => nw_oth h.lt (by decide) hb) (fun b hb => hl b (by rw [hb]; decide))⟩
theorem MgO.to_i {w : Nat → Nat} {H H1 : IHeap} {p : Nat} {q : Pts} {S : Mst} (h : MgO w H p q S) {m : Im} (f : Fr (fun b => w b = 4) H H1) (n : ImB (Gw (fun b => w b = 4) H H1) H1 q.i m) : MgO (nw w 4 H H1) H1 p q { S with i := m } := by
  have hl := nw_lt (k := 4) f.next h.lt
  exact ⟨hl, nw_oth h.lt (by decide) h.own, (f.get p h.lp (by show ¬ w p = 4; rw [h.own]; decide)).trans h.get,
    (h.g.fr f fun b hb hx => by have hb : w b = 2 := hb; have hx : w b = 4 := hx; omega).weak (fun b hb => nw_oth h.lt (by decide) hb) (fun b hb => hl b (by rw [hb]; decide)),
    (h.s.fr f fun b hb hx => by have hb : w b = 3 := hb; have hx : w b = 4 := hx; omega).weak (fun b hb => nw_oth h.lt (by decide) hb) (fun b hb => hl b (by rw [hb]; decide)),
    n.weak (fun b hb => nw_gw h.lt (by decide) hb) (fun b hb => hl b (by rw [hb]; decide)),
    (h.u.fr f fun b hb hx => by have hb : w b = 5 := hb; have hx : w b = 4 := hx; omega).weak (fun b hb => nw_oth h.lt (by decide) hb) (fun b hb => hl b (by rw [hb]; decide)),
    (h.l.fr f fun b hb hx => by have hb : w b = 6 := hb; have hx : w b = 4 := hx; omega).weak (fun b hb => nw_oth h.lt (by decide) hb) (fun b hb => hl b (by rw [hb]; decide)),
    (h.r.fr f fun b hb hx => by have hb : w b = 7 := hb; have hx : w b = 4 := hx; omega).weak (fun b hb => nw_oth h.lt (by decide) hb) (fun b hb => hl b (by rw [hb]; decide))⟩
theorem MgO.to_u {w : Nat → Nat} {H H1 : IHeap} {p : Nat} {q : Pts} {S : Mst} (h : MgO w H p q S) {m : List UseD} (f : Fr (fun b => w b = 5) H H1) (n : UsB (Gw (fun b => w b = 5) H H1) H1 q.u m) : MgO (nw w 5 H H1) H1 p q { S with u := m } := by
  have hl := nw_lt (k := 5) f.next h.lt
  exact ⟨hl, nw_oth h.lt (by decide) h.own, (f.get p h.lp (by show ¬ w p = 5; rw [h.own]; decide)).trans h.get,
    (h.g.fr f fun b hb hx => by have hb : w b = 2 := hb; have hx : w b = 5 := hx; omega).weak (fun b hb => nw_oth h.lt (by decide) hb) (fun b hb => hl b (by rw [hb]; decide)),
    (h.s.fr f fun b hb hx => by have hb : w b = 3 := hb; have hx : w b = 5 := hx; omega).weak (fun b hb => nw_oth h.lt (by decide) hb) (fun b hb => hl b (by rw [hb]; decide)),
    (h.i.fr f fun b hb hx => by have hb : w b = 4 := hb; have hx : w b = 5 := hx; omega).weak (fun b hb => nw_oth h.lt (by decide) hb) (fun b hb => hl b (by rw [hb]; decide)),
    n.weak (fun b hb => nw_gw h.lt (by decide) hb) (fun b hb => hl b (by rw [hb]; decide)),
    (h.l.fr f fun b hb hx => by have hb : w b = 6 := hb; have hx : w b = 5 := hx; omega).weak (fun b hb => nw_oth h.lt (by decide) hb) (fun b hb => hl b (by rw [hb]; decide)),
    (h.r.fr f fun b hb hx => by have hb : w b = 7 := hb; have hx : w b = 5 := hx; omega).weak (fun b hb => nw_oth h.lt (by decide) hb) (fun b hb => hl b (by rw [hb]; decide))⟩
theorem MgO.to_l {w : Nat → Nat} {H H1 : IHeap} {p : Nat} {q : Pts} {S : Mst} (h : MgO w H p q S) {m : Les} (f : Fr (fun b => w b = 6) H H1) (n : LeB (Gw (fun b => w b = 6) H H1) H1 q.l m) : MgO (nw w 6 H H1) H1 p q { S with l := m } := by
  have hl := nw_lt (k := 6) f.next h.lt
  exact ⟨hl, nw_oth h.lt (by decide) h.own, (f.get p h.lp (by show ¬ w p = 6; rw [h.own]; decide)).trans h.get,
    (h.g.fr f fun b hb hx => by have hb : w b = 2 := hb; have hx : w b = 6 := hx; omega).weak (fun b hb => nw_oth h.lt (by decide) hb) (fun b hb => hl b (by rw [hb]; decide)),
    (h.s.fr f fun b hb hx => by have hb : w b = 3 := hb; have hx : w b = 6 := hx; omega).weak (fun b hb => nw_oth h.lt (by decide) hb) (fun b hb => hl b (by rw [hb]; decide)),
    (h.i.fr f fun b hb hx => by have hb : w b = 4 := hb; have hx : w b = 6 := hx; omega).weak (fun b hb => nw_oth h.lt (by decide) hb) (fun b hb => hl b (by rw [hb]; decide)),
    (h.u.fr f fun b hb hx => by have hb : w b = 5 := hb; have hx : w b = 6 := hx; omega).weak (fun b hb => nw_oth h.lt (by decide) hb) (fun b hb => hl b (by rw [hb]; decide)),
    n.weak (fun b hb => nw_gw h.lt (by decide) hb) (fun b hb => hl b (by rw [hb]; decide)),
    (h.r.fr f fun b hb hx => by have hb : w b = 7 := hb; have hx : w b = 6 := hx; omega).weak (fun b hb => nw_oth h.lt (by decide) hb) (fun b hb => hl b (by rw [hb]; decide))⟩
theorem MgO.to_r {w : Nat → Nat} {H H1 : IHeap} {p : Nat} {q : Pts} {S : Mst} (h : MgO w H p q S) {m : Rps} (f : Fr (fun b => w b = 7) H H1) (n : ReB (Gw (fun b => w b = 7) H H1) H1 q.r m) : MgO (nw w 7 H H1) H1 p q { S with r := m } := by
  have hl := nw_lt (k := 7) f.next h.lt
  exact ⟨hl, nw_oth h.lt (by decide) h.own, (f.get p h.lp (by show ¬ w p = 7; rw [h.own]; decide)).trans h.get,
    (h.g.fr f fun b hb hx => by have hb : w b = 2 := hb; have hx : w b = 7 := hx; omega).weak (fun b hb => nw_oth h.lt (by decide) hb) (fun b hb => hl b (by rw [hb]; decide)),
    (h.s.fr f fun b hb hx => by have hb : w b = 3 := hb; have hx : w b = 7 := hx; omega).weak (fun b hb => nw_oth h.lt (by decide) hb) (fun b hb => hl b (by rw [hb]; decide)),
    (h.i.fr f fun b hb hx => by have hb : w b = 4 := hb; have hx : w b = 7 := hx; omega).weak (fun b hb => nw_oth h.lt (by decide) hb) (fun b hb => hl b (by rw [hb]; decide)),
    (h.u.fr f fun b hb hx => by have hb : w b = 5 := hb; have hx : w b = 7 := hx; omega).weak (fun b hb => nw_oth h.lt (by decide) hb) (fun b hb => hl b (by rw [hb]; decide)),
    (h.l.fr f fun b hb hx => by have hb : w b = 6 := hb; have hx : w b = 7 := hx; omega).weak (fun b hb => nw_oth h.lt (by decide) hb) (fun b hb => hl b (by rw [hb]; decide)),
    n.weak (fun b hb => nw_gw h.lt (by decide) hb) (fun b hb => hl b (by rw [hb]; decide))⟩
theorem MgO.gone {w : Nat → Nat} {H : IHeap} {p : Nat} {q : Pts} {S : Mst} (h : MgO w H p q S) (g : Int) : Sg w H w (H.set p (.cells (mgL q g) false)) ∧ MgO w (H.set p (.cells (mgL q g) false)) p q { S with gone := g } := by
  have f : Fr (fun b => w b = 1) H (H.set p (.cells (mgL q g) false)) := ((IHeap.le_refl H).fr (fun b => w b = 1)).set (i := p) (.inl h.own) _
  refine ⟨⟨f.weak fun b hb => by rw [hb]; decide, fun _ h => .inl h⟩, h.lt, h.own, by rw [YW, if_pos rfl], h.g.fr f fun b hb hx => by have hb : w b = 2 := hb; have hx : w b = 1 := hx; omega, h.s.fr f fun b hb hx => by have hb : w b = 3 := hb; have hx : w b = 1 := hx; omega, h.i.fr f fun b hb hx => by have hb : w b = 4 := hb; have hx : w b = 1 := hx; omega, h.u.fr f fun b hb hx => by have hb : w b = 5 := hb; have hx : w b = 1 := hx; omega, h.l.fr f fun b hb hx => by have hb : w b = 6 := hb; have hx : w b = 1 := hx; omega, h.r.fr f fun b hb hx => by have hb : w b = 7 := hb; have hx : w b = 1 := hx; omega⟩
end Go.Proofs.YtndndcdblfejnaaGreatRI
