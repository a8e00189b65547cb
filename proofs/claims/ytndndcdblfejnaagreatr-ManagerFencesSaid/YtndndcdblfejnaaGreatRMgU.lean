/- Managers: swap; what is told of a state. / Managers: Do. / Managers: the chapter's example. -/
import Derived.Test.YtndndcdblfejnaaGreatRMgO
import Derived.Test.YtndndcdblfejnaaGreatRRef01M
import Derived.KernelRfl
namespace Go.Proofs.YtndndcdblfejnaaGreatRI
attribute [local simp] J0 J1 J2 J3 J4 J5 J6 J7 J8 J9 Ja Jb Jc Jd Je Jf Jg Jh Ji Jj Jk Jl Jm Jn Jo Jp Jq Jr Js Jt Ju Jv Jw Jx Jy Jz JA JB JC JD JE JF JG JH JI JJ JK JL JM JN JO JP JQ JR JS stillI IOp.kind JT JU JV JW JX JY JZ Y0 Y1 Y2 Y3 Y4 Y5 Y6 Y7 Y8 Y9 Ya Yb Yc Yd Ye Yf Yg Yh Yi Yj Yk Yl Ym Yn Yo Yp Yq ial Yr Ys Yt Yu Yv Yw Yx Yy ires iresL ires1 Yz YA YB YC YD YE bin2 YF YG YH YI YJ YK YL YM YN YO YP YQ YR YS YT YU un1 shOk eqL eq1 fillL putAt IHeap.load1 IHeap.loadL IHeap.storeL YV YW YX YY YZ B0 B1 B2 B3 B4 B5 B6 B7 B8 B9 Ba Bb Bc Bd Be Bf Bg Bh Bi Bj Bk Bl Bm Bn Bo Bp
set_option linter.unusedSimpArgs false
set_option linter.unusedVariables false
open Go

section
variable (c : Ctx) (hc : HasSmap c) {H : IHeap} {K : Value → IHeap → Prop}
include hc
theorem SList_okF {p q : Nat} {bs : Nat → Nat} {L : List St} {st : Int} (h : IsS H p q bs L)
    (hK : ∀ v H', H.le H' → SlW H' 1 v ((wh (fun x => decide (x.st = st)) 0 L).map rowI) → (∀ S : List Nat, (∀ b ∈ S, b < H.next) → Far H' v S) → K v H') : c.C (c.F n_smap_Map_List) [.pointer (some ⟨p, 0, none⟩), .int .i64 st] H K := by
  refine c.enter hc.smap_Map_List rfl ?_
  simp -implicitDefEqProofs [c_smap_Map_List]
  have kA := H.le_alloc (.cells [.int .i64 st] false)
  refine call_of (which_ok c hc (fun x => decide (x.st = st)) (h.le kA) (fun i x v H' K' hl hx hv hK' => ?_) fun v H' hl hv far => ?_)
  · refine c.enter hc.smap_Map_List_F1 rfl ?_
    have g := (hl.get H.next (by simp [YX])).trans (by rw [YV, if_pos rfl])
    have nn := hl.next
    simp only [YX] at nn
    have hne : ¬ H.next = H'.next := by omega
    obtain ⟨a, cp, rfl⟩ := hv.len
    simp -implicitDefEqProofs [c_smap_Map_List_F1, stV, g, hne]
    exact hK' _ (H'.le_alloc _)
  · obtain ⟨a, cp, rfl⟩ := hv.len
    simp -implicitDefEqProofs []
    have := hK _ _ (kA.trans hl) hv fun S hS => far S fun b hb => by have := hS b hb; simp only [YX]; omega
    simpa using this

theorem SOn_okF {p q : Nat} {bs : Nat → Nat} {L : List St} {sr : Int} (h : IsS H p q bs L)
    (hK : ∀ v H', H.le H' → SlW H' 1 v ((wh (fun x => decide (x.st ≠ 3) && decide (sr ∈ x.sv)) 0 L).map rowI) → (∀ S : List Nat, (∀ b ∈ S, b < H.next) → Far H' v S) → K v H') : c.C (c.F n_smap_Map_On) [.pointer (some ⟨p, 0, none⟩), .int .i64 sr] H K := by
  refine c.enter hc.smap_Map_On rfl ?_
  simp -implicitDefEqProofs [c_smap_Map_On]
  have kA := H.le_alloc (.cells [.int .i64 sr] false)
  refine call_of (which_ok c hc (fun x => decide (x.st ≠ 3) && decide (sr ∈ x.sv)) (h.le kA) (fun i x v H' K' hl hx hv hK' => ?_) fun v H' hl hv far => ?_)
  · refine c.enter hc.smap_Map_On_F1 rfl ?_
    have g := (hl.get H.next (by simp [YX])).trans (by rw [YV, if_pos rfl])
    have nn := hl.next
    simp only [YX] at nn
    have hne : ¬ H.next = H'.next := by omega
    have hxo := St.may_iff.1 (h.ok x (List.mem_of_getElem? hx)).may
    have hv2 := hv
    obtain ⟨a, cp, rfl⟩ := hv.len
    simp only [List.length_map] at hv2
    have kB : ∀ y, H'.le (H'.alloc y) := fun y => H'.le_alloc y
    by_cases h3 : x.st = 3
    · simp -implicitDefEqProofs [c_smap_Map_On_F1, stV, g, hne, h3]
      simpa [h3] using hK' _ (kB _)
    · simp -implicitDefEqProofs [c_smap_Map_On_F1, stV, g, hne, h3, List.length_map]
      refine call_of (Contains_ok c hc (hv2.le (kB _)) (by omega) ?_)
      simp -implicitDefEqProofs []
      simpa [h3] using hK' _ (kB _)
  · obtain ⟨a, cp, rfl⟩ := hv.len
    simp -implicitDefEqProofs []
    have := hK _ _ (kA.trans hl) hv fun S hS => far S fun b hb => by have := hS b hb; simp only [YX]; omega
    simpa using this

end
/-- A slice of new blocks. -/
theorem slD_far {H H' : IHeap} {v : Value} {l : List Int} (h : SlW H' 1 v (l.map rowI)) (far : ∀ S : List Nat, (∀ b ∈ S, b < H.next) → Far H' v S) : SlD (fun b => H.next ≤ b ∧ b < H'.next) H' 1 v (l.map rowI) := by
  refine ⟨h.1, fun b o n cp e _ => ?_⟩
  by_cases hb : b < H.next
  · exact absurd (by simp) (far [b] (by simpa using hb) b o n cp e).1
  · exact ⟨by omega, (far [] (by simp) b o n cp e).2⟩
theorem SlD.sg {H H1 : IHeap} {w w1 : Nat → Nat} {D : Nat → Prop} {size : Nat} {v : Value} {rows : List (List Value)} (h : SlD D H size v rows) (k : Sg w H w1 H1) (hd : ∀ b, D b → w b = 0) : SlD D H1 size v rows := h.fr k.fr fun b hb hw => hw (hd b hb)
section
variable (c : Ctx) (hc : MgC c)
include hc
theorem sListF {H : IHeap} {K : Value → IHeap → Prop} {B : Nat → Prop} {p : Nat} {L : List St} {st : Int} (h : StB B H p L) (hK : ∀ v H', H.le H' → SlD (fun b => H.next ≤ b ∧ b < H'.next) H' 1 v ((wh (fun x => decide (x.st = st)) 0 L).map rowI) → K v H') : c.C (c.F n_smap_Map_List) [.pointer (some ⟨p, 0, none⟩), .int .i64 st] H K := by
  obtain ⟨_, _, q, bs, hf, i⟩ := h
  exact SList_okF c hc.sm i fun v H' k s far => hK v H' k (slD_far s far)
theorem sOnF {H : IHeap} {K : Value → IHeap → Prop} {B : Nat → Prop} {p : Nat} {L : List St} {sr : Int} (h : StB B H p L) (hK : ∀ v H', H.le H' → SlD (fun b => H.next ≤ b ∧ b < H'.next) H' 1 v ((onS L sr).map rowI) → K v H') : c.C (c.F n_smap_Map_On) [.pointer (some ⟨p, 0, none⟩), .int .i64 sr] H K := by
  obtain ⟨_, _, q, bs, hf, i⟩ := h
  exact SOn_okF c hc.sm i fun v H' k s far => hK v H' k (slD_far s far)
theorem mgStripesF {H : IHeap} {K : Value → IHeap → Prop} {w : Nat → Nat} {p : Nat} {q : Pts} {S : Mst} {st : Int} (h : MgO w H p q S) (hK : ∀ v H', H.le H' → SlD (fun b => H.next ≤ b ∧ b < H'.next) H' 1 v ((wh (fun x => decide (x.st = st)) 0 S.s).map rowI) → K v H') : c.C (c.F n_manager_Manager_Stripes) [.pointer (some ⟨p, 0, none⟩), .int .i64 st] H K := by
  refine c.enter hc.mg.manager_Manager_Stripes rfl ?_
  have g := h.gets
  simp -implicitDefEqProofs [c_manager_Manager_Stripes, nilOf, g]
  refine call_of (sListF c hc h.s fun v H' k s => ?_)
  simp -implicitDefEqProofs []
  exact hK v H' k s

theorem cSwap : CmdOk c (c.F n_manager_Manager_swap) mSwap := by
  intro H K w p n q S x h hb hn hx hK
  refine c.enter hc.mg.manager_Manager_swap rfl ?_
  obtain ⟨HA, hHA, ka, na, ga, hA, hne⟩ := cmd_box h x
  have g := hA.gets
  have he := hb.e
  unfold mSwap at hK
  simp -implicitDefEqProofs [c_manager_Manager_swap, cmdV, ← hHA, g, ga]
  refine dcall_of c.mono (gSwap c hc hA.g (by omega) fun H1 f1 i1 => ?_)
  have h1 := hA.to_g f1 i1
  have g1 := h1.gets
  have s1 := (Sg.le (w := w) ka).trans (Sg.nw (by decide) f1)
  obtain ⟨t, ht⟩ : ∃ t, t = S.g.swap x.a := ⟨_, rfl⟩
  rw [← ht] at hK h1 ⊢
  by_cases t0 : t.2.2 = 0
  · rw [if_neg (by simp [t0])] at hK
    obtain ⟨w1, hw1⟩ : ∃ w1, w1 = nw w 2 HA H1 := ⟨_, rfl⟩
    rw [← hw1] at h1 s1
    simp -implicitDefEqProofs [t0, g1]
    refine dcall_of c.mono (sOnF c hc h1.s fun u H2 k2 d2 => ?_)
    have h2 := h1.le k2
    obtain ⟨ids, hids⟩ : ∃ ids, ids = onS S.s S.gone := ⟨_, rfl⟩
    have d2 : SlD (fun b => H1.next ≤ b ∧ b < H2.next) H2 1 u (ids.map rowI) := by rw [hids]; exact d2
    rw [← hids] at hK
    have s2 := s1.trans (Sg.le k2)
    have hul : ∃ a cap, u = .slice a ids.length cap := by obtain ⟨⟨a, cap, e, _⟩, _⟩ := d2; exact ⟨a, cap, by rw [e, List.length_map]⟩
    obtain ⟨a, cap, rfl⟩ := hul
    have hid : ids.length ≤ 4096 := by rw [hids]; unfold onS; rw [wh_len]; exact Nat.le_trans List.countP_le_length (StB.len c hc h.s).1
    simp -implicitDefEqProofs []
    refine loop_nat c.mono (fun m T H' => ∃ (i : Nat) (w' : Nat → Nat), i ≤ ids.length ∧ m = ids.length - i ∧ T 0 = .pointer (some ⟨p, 0, none⟩) ∧ T 33 = .slice a ids.length cap ∧ T 34 = .int .i64 ids.length ∧ T 35 = .int .i64 i ∧ T 6 = .int .i64 t.2.1 ∧
      Sg w1 H2 w' H' ∧ MgO w' H' p q { S with g := t.1, s := mvAll S.gone t.2.1 S.s (ids.take i) } ∧ SlD (fun b => H1.next ≤ b ∧ b < H2.next) H' 1 (.slice a ids.length cap) (ids.map rowI)) ids.length ?_ ?_
    · exact ⟨0, w1, by omega, by omega, by simp -implicitDefEqProofs [], by simp -implicitDefEqProofs [], by simp -implicitDefEqProofs [], by simp -implicitDefEqProofs [], by simp -implicitDefEqProofs [], Sg.le (IHeap.le_refl _), h2, d2⟩
    · rintro m T H' ⟨i, w', hi, rfl, t0', t33, t34, t35, t6, sg, hm, hd⟩
      have gm := hm.gets
      by_cases hlt : i < ids.length
      · have hltI : (i : Int) < (ids.length : Int) := by omega
        have hx0 : ids[i]? = some ids[i] := List.getElem?_eq_getElem hlt
        obtain ⟨id, hidv⟩ : ∃ id, id = ids[i] := ⟨_, rfl⟩
        rw [← hidv] at hx0
        obtain ⟨b, o, cp, cs, ro, ea, hbl, hget, hrl, hrow, hbd⟩ := hd.1.at (i := i) (r := rowI id) (by simp [hx0])
        rw [List.length_map] at ea
        simp only [Value.slice.injEq] at ea
        obtain ⟨rfl, -, rfl⟩ := ea
        have hc0 := row_at hrow 0 (by omega)
        simp only [rowI, List.getElem?_cons_zero, Nat.add_zero, Nat.mul_one] at hc0
        simp -implicitDefEqProofs [t0', t33, t34, t35, t6, hlt, hltI, gm, hget, hc0]
        have w5 : IntKind.i64.wrap ((i : Int) + 1) = (i : Int) + 1 := wrap64 (by omega) (by omega)
        refine call_of (sGet c hc hm.s (fun hg H3 k3 => ?_) fun y v H3 hg k3 sv far => ?_)
        · have hsv : svOf (mvAll S.gone t.2.1 S.s (ids.take i)) id = [] := by unfold svOf; rw [hg]
          unfold stV
          obtain ⟨H4, hH4⟩ : ∃ X : IHeap, X = (H3.alloc (.cells [.int .i64 0, .int .i64 0, .int .i64 0, .int .i64 0, .int .i64 0, .slice none 0 0] false)).set H3.next (.cells [.int .i64 0, .int .i64 0, .int .i64 0, .int .i64 0, .int .i64 0, .slice none 0 0] false) := ⟨_, rfl⟩
          have kc : H3.le H4 := by rw [hH4]; exact (H3.le_alloc _).set (Nat.le_refl _) _
          have h4 := hm.le (k3.trans kc)
          have g4 := h4.gets
          have g4x : H4.get H3.next = some (.cells [.int .i64 0, .int .i64 0, .int .i64 0, .int .i64 0, .int .i64 0, .slice none 0 0] false) := by rw [hH4, YW, if_pos rfl]
          simp -implicitDefEqProofs [← hH4, g4, g4x, t0', t6]
          refine dcall_of c.mono (Index_okS c hc.sm (l := []) (SlW.nil H4 1) (by simp) ?_)
          simp -implicitDefEqProofs [g4, t0', t6]
          refine dcall_of c.mono (sMove c hc h4.s fun H5 f5 i5 => ?_)
          have h5 := h4.to_s f5 i5
          have sg5 := (Sg.le (w := w') (k3.trans kc)).trans (Sg.nw (k := 3) (by decide) f5)
          simp -implicitDefEqProofs [t35, w5]
          have ht1 : ids.take (i + 1) = ids.take i ++ [id] := by rw [List.take_add_one, hx0]; rfl
          have ef : mvAll S.gone t.2.1 S.s (ids.take (i + 1)) = (SMove (mvAll S.gone t.2.1 S.s (ids.take i)) id (atI [] S.gone) t.2.1).1 := by
            rw [ht1]
            unfold mvAll
            rw [List.foldl_append]
            show (SMove _ id (atI (svOf _ id) S.gone) t.2.1).1 = _
            rw [show svOf (List.foldl (fun L id => (SMove L id (atI (svOf L id) S.gone) t.2.1).1) S.s (ids.take i)) id = [] from hsv]
          refine ⟨ids.length - (i + 1), by omega, i + 1, by omega, rfl, t0', t33, t34, by omega, t6, nw w' 3 H4 H5, sg.trans sg5, ?_, hd.sg sg5 fun b hb => ?_⟩
          · rw [ef]; exact h5
          · refine Classical.byContradiction fun hw => ?_
            rcases sg.gw b hw with z | z
            · have := h1.lt b z; omega
            · omega
        · have hsv : svOf (mvAll S.gone t.2.1 S.s (ids.take i)) id = y.sv := by unfold svOf; rw [hg]
          have hid0 := (getS_some hg).1
          have etn : ((id.toNat : Nat) : Int) = id := by omega
          have hyo := (StB.len c hc hm.s).2 y (List.mem_of_getElem? (getS_some hg).2.2)
          have hym := St.may_iff.1 hyo.may
          have sv' := sv
          obtain ⟨a3, cap3, rfl⟩ := sv.len
          obtain ⟨sl, hsl⟩ : ∃ sl, sl = (y.sv.map rowI).length := ⟨_, rfl⟩
          unfold stV
          rw [etn]
          rw [← hsl] at sv' ⊢
          obtain ⟨H4, hH4⟩ : ∃ X : IHeap, X = (H3.alloc (.cells [.int .i64 0, .int .i64 0, .int .i64 0, .int .i64 0, .int .i64 0, .slice none 0 0] false)).set H3.next (.cells [.int .i64 id, .int .i64 y.st, .int .i64 y.ow, .int .i64 y.ep, .int .i64 y.le, .slice a3 sl cap3] false) := ⟨_, rfl⟩
          have kc : H3.le H4 := by rw [hH4]; exact (H3.le_alloc _).set (Nat.le_refl _) _
          have h4 := hm.le (k3.trans kc)
          have g4 := h4.gets
          have g4x : H4.get H3.next = some (.cells [.int .i64 id, .int .i64 y.st, .int .i64 y.ow, .int .i64 y.ep, .int .i64 y.le, .slice a3 sl cap3] false) := by rw [hH4, YW, if_pos rfl]
          simp -implicitDefEqProofs [← hH4, g4, g4x, t0', t6]
          refine dcall_of c.mono (Index_okS c hc.sm (l := y.sv) (sv'.le kc) (by omega) ?_)
          simp -implicitDefEqProofs [g4, t0', t6]
          refine dcall_of c.mono (sMove c hc h4.s fun H5 f5 i5 => ?_)
          have h5 := h4.to_s f5 i5
          have sg5 := (Sg.le (w := w') (k3.trans kc)).trans (Sg.nw (k := 3) (by decide) f5)
          simp -implicitDefEqProofs [t35, w5]
          have ht1 : ids.take (i + 1) = ids.take i ++ [id] := by rw [List.take_add_one, hx0]; rfl
          have ef : mvAll S.gone t.2.1 S.s (ids.take (i + 1)) = (SMove (mvAll S.gone t.2.1 S.s (ids.take i)) id (atI y.sv S.gone) t.2.1).1 := by
            rw [ht1]
            unfold mvAll
            rw [List.foldl_append]
            show (SMove _ id (atI (svOf _ id) S.gone) t.2.1).1 = _
            rw [show svOf (List.foldl (fun L id => (SMove L id (atI (svOf L id) S.gone) t.2.1).1) S.s (ids.take i)) id = y.sv from hsv]
          refine ⟨ids.length - (i + 1), by omega, i + 1, by omega, rfl, t0', t33, t34, by omega, t6, nw w' 3 H4 H5, sg.trans sg5, ?_, hd.sg sg5 fun b hb => ?_⟩
          · rw [ef]; exact h5
          · refine Classical.byContradiction fun hw => ?_
            rcases sg.gw b hw with z | z
            · have := h1.lt b z; omega
            · omega
      · have : i = ids.length := by omega
        subst this
        have hltI : ¬ (ids.length : Int) < (ids.length : Int) := by omega
        rw [List.take_length] at hm
        simp -implicitDefEqProofs [t0', t33, t34, t35, t6, hltI, gm]
        refine call_of (gEpoch c hc hm.g ?_)
        simp -implicitDefEqProofs []
        have k7 := H'.le_alloc (.cells [.int .i64 t.2.1, .int .i64 t.1.e] false)
        exact hK _ _ _ ((s2.trans sg).trans (Sg.le k7)) (hm.le k7) (two_of (by simp [YX]) (by rw [YV, if_pos rfl]))
  · rw [if_pos t0] at hK
    simp -implicitDefEqProofs [t0]
    exact hK _ _ _ s1 h1 (nil_of H1)
end
end Go.Proofs.YtndndcdblfejnaaGreatRI
namespace Go.Proofs.YtndndcdblfejnaaGreatRI
attribute [local simp] J0 J1 J2 J3 J4 J5 J6 J7 J8 J9 Ja Jb Jc Jd Je Jf Jg Jh Ji Jj Jk Jl Jm Jn Jo Jp Jq Jr Js Jt Ju Jv Jw Jx Jy Jz JA JB JC JD JE JF JG JH JI JJ JK JL JM JN JO JP JQ JR JS stillI IOp.kind JT JU JV JW JX JY JZ Y0 Y1 Y2 Y3 Y4 Y5 Y6 Y7 Y8 Y9 Ya Yb Yc Yd Ye Yf Yg Yh Yi Yj Yk Yl Ym Yn Yo Yp Yq ial Yr Ys Yt Yu Yv Yw Yx Yy ires iresL ires1 Yz YA YB YC YD YE bin2 YF YG YH YI YJ YK YL YM YN YO YP YQ YR YS YT YU un1 shOk eqL eq1 fillL putAt IHeap.load1 IHeap.loadL IHeap.storeL YV YW YX YY YZ B0 B1 B2 B3 B4 B5 B6 B7 B8 B9 Ba Bb Bc Bd Be Bf Bg Bh Bi Bj Bk Bl Bm Bn Bo Bp
set_option linter.unusedSimpArgs false
set_option linter.unusedVariables false
open Go

def cmdF (k : Int) : Nat := if k = 1 then n_manager_Manager_begin else if k = 2 then n_manager_Manager_commit else if k = 3 then n_manager_Manager_free else if k = 4 then n_manager_Manager_move else if k = 5 then n_manager_Manager_fail else
  if k = 6 then n_manager_Manager_swap else if k = 7 then n_manager_Manager_close else if k = 8 then n_manager_Manager_grant else n_manager_Manager_drop
theorem cmdV_get (x : Cmd) : cmdV x = .agg #[.int .i64 x.cl, .int .i64 x.sq, .int .i64 x.kd, .int .i64 x.a, .int .i64 x.b, .int .i64 x.c, .int .i64 x.d, .int .i64 x.e] := rfl

theorem taE_same {R : Rps} {cl id : Int} (h : (taE R cl id).2.1 ≠ 1) : (taE R cl id).1 = R := by
  unfold taE at h ⊢
  by_cases a : mayE cl id = false
  · rw [if_pos a]
  rw [if_neg a] at h ⊢
  cases hq : atE (R cl) id with
  | some x =>
    simp only
    split <;> rfl
  | none =>
    rw [hq] at h
    simp only at h ⊢
    by_cases b : (R cl).length = 4 ∧ posE id (R cl) = 0
    · rw [if_pos b]
    · rw [if_neg b] at h
      exact absurd rfl h
section
variable (c : Ctx) (hc : MgC c)
include hc

theorem does_ok {H : IHeap} {K : Value → IHeap → Prop} {k : Int} (hK : K (.func (.func (c.F (cmdF k))) #[] #[]) H) : c.C (c.F n_manager_does) [.int .i64 k] H K := by
  refine c.enter hc.mg.manager_does rfl ?_
  unfold cmdF at hK
  by_cases h1 : k = 1
  · rw [if_pos h1] at hK; simp -implicitDefEqProofs [c_manager_does, h1]; exact hK
  rw [if_neg h1] at hK
  by_cases h2 : k = 2
  · rw [if_pos h2] at hK; simp -implicitDefEqProofs [c_manager_does, h1, h2]; exact hK
  rw [if_neg h2] at hK
  by_cases h3 : k = 3
  · rw [if_pos h3] at hK; simp -implicitDefEqProofs [c_manager_does, h1, h2, h3]; exact hK
  rw [if_neg h3] at hK
  by_cases h4 : k = 4
  · rw [if_pos h4] at hK; simp -implicitDefEqProofs [c_manager_does, h1, h2, h3, h4]; exact hK
  rw [if_neg h4] at hK
  by_cases h5 : k = 5
  · rw [if_pos h5] at hK; simp -implicitDefEqProofs [c_manager_does, h1, h2, h3, h4, h5]; exact hK
  rw [if_neg h5] at hK
  by_cases h6 : k = 6
  · rw [if_pos h6] at hK; simp -implicitDefEqProofs [c_manager_does, h1, h2, h3, h4, h5, h6]; exact hK
  rw [if_neg h6] at hK
  by_cases h7 : k = 7
  · rw [if_pos h7] at hK; simp -implicitDefEqProofs [c_manager_does, h1, h2, h3, h4, h5, h6, h7]; exact hK
  rw [if_neg h7] at hK
  by_cases h8 : k = 8
  · rw [if_pos h8] at hK; simp -implicitDefEqProofs [c_manager_does, h1, h2, h3, h4, h5, h6, h7, h8]; exact hK
  rw [if_neg h8] at hK
  simp -implicitDefEqProofs [c_manager_does, h1, h2, h3, h4, h5, h6, h7, h8]
  exact hK

theorem cDoes {H : IHeap} {K : Value → IHeap → Prop} {w : Nat → Nat} {p n : Nat} {q : Pts} {S : Mst} {x : Cmd} (h : MgO w H p q S) (hb : Bnd n S) (hn : n ≤ 100000) (hx : okX x)
    (hK : ∀ w' H' v, Sg w H w' H' → MgO w' H' p q (mDoes S x).1 → SlR H' 1 v ((mDoes S x).2.1.map rowI) → K (.tuple #[v, .int .i64 (mDoes S x).2.2]) H') : c.C (c.F (cmdF x.kd)) [.pointer (some ⟨p, 0, none⟩), cmdV x] H K := by
  unfold mDoes at hK
  unfold cmdF
  by_cases h1 : x.kd = 1
  · simp only [h1, if_true] at hK ⊢; exact cBegin c hc H K w p n q S x h hb hn hx hK
  rw [if_neg h1] at hK ⊢
  by_cases h2 : x.kd = 2
  · rw [if_pos h2] at hK ⊢; exact cCommit c hc H K w p n q S x h hb hn hx hK
  rw [if_neg h2] at hK ⊢
  by_cases h3 : x.kd = 3
  · rw [if_pos h3] at hK ⊢; exact cFree c hc H K w p n q S x h hb hn hx hK
  rw [if_neg h3] at hK ⊢
  by_cases h4 : x.kd = 4
  · rw [if_pos h4] at hK ⊢; exact cMove c hc H K w p n q S x h hb hn hx hK
  rw [if_neg h4] at hK ⊢
  by_cases h5 : x.kd = 5
  · rw [if_pos h5] at hK ⊢; exact cFail c hc H K w p n q S x h hb hn hx hK
  rw [if_neg h5] at hK ⊢
  by_cases h6 : x.kd = 6
  · rw [if_pos h6] at hK ⊢; exact cSwap c hc H K w p n q S x h hb hn hx hK
  rw [if_neg h6] at hK ⊢
  by_cases h7 : x.kd = 7
  · rw [if_pos h7] at hK ⊢; exact cClose c hc H K w p n q S x h hb hn hx hK
  rw [if_neg h7] at hK ⊢
  by_cases h8 : x.kd = 8
  · rw [if_pos h8] at hK ⊢; exact cGrant c hc H K w p n q S x h hb hn hx hK
  rw [if_neg h8] at hK ⊢
  exact cDrop c hc H K w p n q S x h hb hn hx hK

theorem mgDo {H : IHeap} {K : Value → IHeap → Prop} {w : Nat → Nat} {p n : Nat} {q : Pts} {S : Mst} {s : List UInt8} (h : MgO w H p q S) (hb : Bnd n S) (hn : n ≤ 100000) (hs : s.length ≤ 1000000)
    (hK : ∀ w' H', Sg w H w' H' → MgO w' H' p q (mDo S s).1 → K (strV (mDo S s).2) H') : c.C (c.F n_manager_Manager_Do) [.pointer (some ⟨p, 0, none⟩), strV s] H K := by
  refine c.enter hc.mg.manager_Manager_Do rfl ?_
  have hlp := h.lp
  simp -implicitDefEqProofs [c_manager_Manager_Do, nilOf]
  refine call_of (Decode_ok c hc.mg hc.cd hs fun H1 k1 => ?_)
  have n1 := k1.next
  have hz : ∀ n ∈ ([] : List Int), okI n := fun _ h => by cases h
  cases hd : decC s with
  | none =>
    have e0 : mDo S s = (S, ansB [] 3) := by unfold mDo; rw [hd]
    rw [e0] at hK
    have k2 := k1.trans ((H1.le_alloc (.cells [.int .i64 0, .int .i64 0, .int .i64 0, .int .i64 0, .int .i64 0, .int .i64 0, .int .i64 0, .int .i64 0] false)).set (Nat.le_refl _) (.cells [.int .i64 0, .int .i64 0, .int .i64 0, .int .i64 0, .int .i64 0, .int .i64 0, .int .i64 0, .int .i64 0] false))
    simp -implicitDefEqProofs [Option.getD_none, cmdV, cmd0, Option.isSome_none]
    refine call_of (answer_ok c hc.mg hc.cd (l := []) (nil_of _) hz (by simp) (by omega) fun H3 k3 => ?_)
    simp -implicitDefEqProofs []
    exact hK w H3 (Sg.le (k2.trans k3)) (h.le (k2.trans k3))
  | some x =>
    obtain ⟨-, hx, hco⟩ := decC_some hd
    have e0 : mDo S s = mDoC S x := by unfold mDo; rw [hd]
    rw [e0] at hK
    unfold mDoC at hK
    obtain ⟨H2, hH2⟩ : ∃ X : IHeap, X = (H1.alloc (.cells [.int .i64 0, .int .i64 0, .int .i64 0, .int .i64 0, .int .i64 0, .int .i64 0, .int .i64 0, .int .i64 0] false)).set H1.next (.cells [.int .i64 x.cl, .int .i64 x.sq, .int .i64 x.kd, .int .i64 x.a, .int .i64 x.b, .int .i64 x.c, .int .i64 x.d, .int .i64 x.e] false) := ⟨_, rfl⟩
    have k2 : H1.le H2 := by rw [hH2]; exact (H1.le_alloc _).set (Nat.le_refl _) _
    have n2 : H2.next = H1.next + 1 := by rw [hH2]; rfl
    have gx : H2.get H1.next = some (.cells [.int .i64 x.cl, .int .i64 x.sq, .int .i64 x.kd, .int .i64 x.a, .int .i64 x.b, .int .i64 x.c, .int .i64 x.d, .int .i64 x.e] false) := by rw [hH2, YW, if_pos rfl]
    have h2 := h.le (k1.trans k2)
    have g2 := h2.gets
    simp -implicitDefEqProofs [Option.getD_some, cmdV, Option.isSome_some, ← hH2, g2, gx]
    refine dcall_of c.mono (ReTake_ok c hc.re hc.ki hc.ie (cl := x.cl) (id := x.sq) h2.r fun H3 f3 i3 => ?_)
    have h3 := h2.to_r f3 i3
    have s3 := (Sg.le (w := w) (k1.trans k2)).trans (Sg.nw (by decide) f3)
    have gx3 := (f3.get H1.next (by omega) (fun e => by have e : w H1.next = 7 := e; rw [h.zero n1] at e; cases e)).trans gx
    obtain ⟨t, ht⟩ : ∃ t, t = taE S.r x.cl x.sq := ⟨_, rfl⟩
    rw [← ht] at hK h3 ⊢
    simp -implicitDefEqProofs [-J5]
    by_cases t2 : t.2.1 = 2
    · rw [if_pos t2] at hK
      have e1 : t.1 = S.r := by rw [ht] at t2 ⊢; exact taE_same (by omega)
      have h3' : MgO (nw w 7 H2 H3) H3 p q S := by rw [e1] at h3; exact h3
      simp -implicitDefEqProofs [t2]
      exact hK _ _ s3 h3'
    rw [if_neg t2] at hK
    by_cases t1 : t.2.1 = 1
    · rw [if_neg (by simp [t1])] at hK
      obtain ⟨S', hS'⟩ : ∃ S' : Mst, S' = { S with r := t.1 } := ⟨_, rfl⟩
      have hb' : Bnd n S' := by rw [hS', ht]; exact ⟨hb.e, hb.ul, hb.uo, hb.i, hb.lt, hb.lu, hb.sl, hb.gg, hb.r.ta _ _, hb.us⟩
      rw [← hS'] at hK h3
      have bd := hb'.does hx hn
      have al := ans_len S' x
      simp -implicitDefEqProofs [t1, gx3]
      refine dcall_of c.mono (does_ok c hc ?_)
      simp -implicitDefEqProofs [gx3]
      obtain ⟨w3, hw3⟩ : ∃ w3, w3 = nw w 7 H2 H3 := ⟨_, rfl⟩
      rw [← hw3] at h3 s3
      refine dcall_of c.mono (cDoes c hc h3 hb' hn hx fun w4 H4 v s4 h4 sl => ?_)
      have hw30 : w3 H1.next = 0 := by rw [hw3, nw_old (by omega)]; exact h.zero n1
      have n3 := f3.next
      have gx4 := (s4.fr.get H1.next (by omega) (fun e => e hw30)).trans gx3
      have n4 := s4.fr.next
      obtain ⟨d, hd'⟩ : ∃ d, d = mDoes S' x := ⟨_, rfl⟩
      rw [← hd'] at hK h4 sl bd al ⊢
      simp -implicitDefEqProofs []
      refine dcall_of c.mono (answer_ok c hc.mg hc.cd sl bd.2.1 (by omega) bd.2.2 fun H5 k5 => ?_)
      have h5 := h4.le k5
      have g5 := h5.gets
      have gx5 := (k5.get _ (by omega)).trans gx4
      have n5 := k5.next
      simp -implicitDefEqProofs [g5, gx5]
      refine dcall_of c.mono (RePut_ok c hc.re hc.ki (cl := x.cl) (id := x.sq) (re := ansB d.2.1 d.2.2) h5.r (by have := ansB_len (e := d.2.2) bd.2.1 al; omega) fun H6 f6 i6 => ?_)
      have h6 := h5.to_r f6 (i6.weak (fun b hb => .inl hb) (Gw.lt (fun b hb => h5.lt b (by rw [hb]; decide)) f6.next))
      simp -implicitDefEqProofs []
      exact hK _ _ (((s3.trans s4).trans (Sg.le k5)).trans (Sg.nw (by decide) f6)) h6
    · rw [if_pos t1] at hK
      have e1 : t.1 = S.r := by rw [ht] at t1 ⊢; exact taE_same t1
      have h3' : MgO (nw w 7 H2 H3) H3 p q S := by rw [e1] at h3; exact h3
      simp -implicitDefEqProofs [t1, t2]
      refine call_of (answer_ok c hc.mg hc.cd (l := []) (nil_of _) hz (by simp) (by omega) fun H4 k4 => ?_)
      simp -implicitDefEqProofs []
      exact hK _ _ (s3.trans (Sg.le k4)) (h3'.le k4)
end
end Go.Proofs.YtndndcdblfejnaaGreatRI
namespace Go.Proofs.YtndndcdblfejnaaGreatRI
attribute [local simp] J0 J1 J2 J3 J4 J5 J6 J7 J8 J9 Ja Jb Jc Jd Je Jf Jg Jh Ji Jj Jk Jl Jm Jn Jo Jp Jq Jr Js Jt Ju Jv Jw Jx Jy Jz JA JB JC JD JE JF JG JH JI JJ JK JL JM JN JO JP JQ JR JS stillI IOp.kind JT JU JV JW JX JY JZ Y0 Y1 Y2 Y3 Y4 Y5 Y6 Y7 Y8 Y9 Ya Yb Yc Yd Ye Yf Yg Yh Yi Yj Yk Yl Ym Yn Yo Yp Yq ial Yr Ys Yt Yu Yv Yw Yx Yy ires iresL ires1 Yz YA YB YC YD YE bin2 YF YG YH YI YJ YK YL YM YN YO YP YQ YR YS YT YU un1 shOk eqL eq1 fillL putAt IHeap.load1 IHeap.loadL IHeap.storeL YV YW YX YY YZ B0 B1 B2 B3 B4 B5 B6 B7 B8 B9 Ba Bb Bc Bd Be Bf Bg Bh Bi Bj Bk Bl Bm Bn Bo Bp
set_option linter.unusedSimpArgs false
set_option linter.unusedVariables false
open Go

def ax1 : Cmd := ⟨1, 5, 1, 100, 0, 0, 0, 0⟩
def ax2 : Cmd := ⟨1, 6, 2, 0, 0, 0, 0, 0⟩
def ax3 : Cmd := ⟨1, 7, 4, 4, 0, 0, 0, 20⟩
def aS0 : Mst := mNew [1, 2, 3] [9]
def aS1 : Mst := (mDoC aS0 ax1).1
def aS2 : Mst := (mDoC aS1 ax2).1
def aS3 : Mst := (mDoC aS2 ax3).1
theorem okC1 : okX ax1 ∧ okC ax1 = true := ⟨⟨⟨by decide, by decide⟩, ⟨by decide, by decide⟩, ⟨by decide, by decide⟩, ⟨by decide, by decide⟩, ⟨by decide, by decide⟩, ⟨by decide, by decide⟩, ⟨by decide, by decide⟩, ⟨by decide, by decide⟩⟩, by decide⟩
theorem okC2 : okX ax2 ∧ okC ax2 = true := ⟨⟨⟨by decide, by decide⟩, ⟨by decide, by decide⟩, ⟨by decide, by decide⟩, ⟨by decide, by decide⟩, ⟨by decide, by decide⟩, ⟨by decide, by decide⟩, ⟨by decide, by decide⟩, ⟨by decide, by decide⟩⟩, by decide⟩
theorem okC3 : okX ax3 ∧ okC ax3 = true := ⟨⟨⟨by decide, by decide⟩, ⟨by decide, by decide⟩, ⟨by decide, by decide⟩, ⟨by decide, by decide⟩, ⟨by decide, by decide⟩, ⟨by decide, by decide⟩, ⟨by decide, by decide⟩, ⟨by decide, by decide⟩⟩, by decide⟩
theorem ans1 : (mDoC aS0 ax1).2 = ansB [0, 1] 0 := by kernel_rfl
theorem ans1' : mDoC aS1 ax1 = (aS1, ansB [0, 1] 0) := by kernel_rfl
theorem ans2 : (mDoC aS1 ax2).2 = ansB [] 0 := by kernel_rfl
theorem ans3 : (mDoC aS2 ax3).2 = ansB [1] 0 := by kernel_rfl
theorem decX : decC [120] = none := by kernel_rfl
theorem aSpot : imGet aS3.i 4 = (⟨0, 0, 20, 1⟩, true) := by kernel_rfl
theorem aList : wh (fun x => decide (x.st = 2)) 0 aS3.s = [0] := by kernel_rfl
theorem aEp : aS3.g.e = 1 := by kernel_rfl
theorem mDo_C (S : Mst) {x : Cmd} (h : okX x ∧ okC x = true) : mDo S (encC x) = mDoC S x := by unfold mDo; rw [decC_enc h.1 h.2]
theorem encC_len {x : Cmd} (h : okX x) : (encC x).length ≤ 80 := by rw [← encInts_l]; exact encInts_short h.all
theorem bdNew {L S : List Int} (h : Apart (L ++ S)) : Bnd 0 (mNew L S) :=
  ⟨by simp [mNew], by simp [mNew], by simp [mNew], fun k => by simp [mNew, spot0], by simp [mNew], by simp [mNew], by simp [mNew], ⟨⟨by simp [mNew], by simp [mNew]⟩, fun y hy => h.1 y (by simp only [mNew] at hy; simp [hy])⟩, ⟨fun k => ⟨List.Pairwise.nil, by simp [mNew], by simp [mNew]⟩⟩, List.Pairwise.nil⟩
theorem Grow.slD' {H H' : IHeap} {v : Value} {l : List Int} (h : Grow H' H.next 1 v (l.map rowI)) : SlD (fun b => H.next ≤ b ∧ b < H'.next) H' 1 v (l.map rowI) := h.slD

section
variable (c : Ctx) (hc : MgC c) (hL : HasLaw28 c) (h01 : HasRef01 c) {H : IHeap} {K : Value → IHeap → Prop}

include hc hL in
theorem text_ok {x : Cmd} (hx : okX x ∧ okC x = true) (hK : ∀ H', H.le H' → K (strV (encC x)) H') : c.C (c.F n_hurdlelaw28_text) [cmdV x] H K := by
  refine c.enter hL.hurdlelaw28_text rfl ?_
  simp -implicitDefEqProofs [c_hurdlelaw28_text, cmdV]
  refine call_of (Encode_ok c hc.mg hc.cd (x := x) hx.1 fun H' k => ?_)
  have k2 := (H.le_alloc (.cells (cmdL x) false)).trans k
  simp -implicitDefEqProofs [hx.2]
  exact hK _ k2

include hc hL h01 in
theorem awake28 (hK : ∀ H', K (.bool true) H') : c.C (c.F n_hurdlelaw28_awake) [] H K := by
  refine c.enter hL.hurdlelaw28_awake rfl ?_
  have b0 : Bnd 0 aS0 := bdNew (by rw [← apart_iff]; rfl)
  have b1 : Bnd 1 aS1 := by have := b0.do (s := encC ax1) (by omega); rw [mDo_C _ okC1] at this; exact this
  have b2 : Bnd 2 aS2 := by have := b1.do (s := encC ax2) (by omega); rw [mDo_C _ okC2] at this; exact this
  have b3 : Bnd 3 aS3 := by have := b2.do (s := encC ax3) (by omega); rw [mDo_C _ okC3] at this; exact this
  have e1 := encC_len okC1.1
  have e2 := encC_len okC2.1
  have e3 := encC_len okC3.1
  have oz : okI 0 := ⟨by decide, by decide⟩
  have oo : okI 1 := ⟨by decide, by decide⟩
  have r1 : rdAns (ansB [0, 1] 0) = (0, [0, 1], 0) := ansB_rd (by omega) (by simp; exact ⟨oz, oo⟩) (by simp)
  have r2 : rdAns (ansB [] 0) = (0, [], 0) := ansB_rd (by omega) (by simp) (by simp)
  have r3 : rdAns (ansB [1] 0) = (0, [1], 0) := ansB_rd (by omega) (by simp; exact oo) (by simp)
  have r4 : rdAns (ansB [] 3) = (3, [], 0) := ansB_rd (by omega) (by simp) (by simp)
  have l1 : (ansB [0, 1] 0).length ≤ 1000000 := by have := ansB_len (l := [0, 1]) (e := 0) (by simp; exact ⟨oz, oo⟩) (by simp); omega
  have l2 : (ansB [] 0).length ≤ 1000000 := by have := ansB_len (l := []) (e := 0) (by simp) (by simp); omega
  have l3 : (ansB [1] 0).length ≤ 1000000 := by have := ansB_len (l := [1]) (e := 0) (by simp; exact oo) (by simp); omega
  have l4 : (ansB [] 3).length ≤ 1000000 := by have := ansB_len (l := []) (e := 3) (by simp) (by simp); omega
  obtain ⟨HA, hHA⟩ : ∃ X : IHeap, X = (H.alloc (.cells [.int .i64 1, .int .i64 2, .int .i64 3] false)).alloc (.cells [.int .i64 9] false) := ⟨_, rfl⟩
  have nA : HA.next = H.next + 2 := by rw [hHA]; rfl
  have gA1 : HA.get H.next = some (.cells (([1, 2, 3] : List Int).map iV) false) := by rw [hHA, YV, YX, if_neg (by omega), YV, if_pos rfl]; rfl
  have gA2 : HA.get (H.next + 1) = some (.cells (([9] : List Int).map iV) false) := by rw [hHA, YV, YX, if_pos rfl]; rfl
  simp -implicitDefEqProofs [c_hurdlelaw28_awake, ← hHA]
  refine call_of (mgNew c hc (L := [1, 2, 3]) (S := [9]) (tight_of (by omega) gA1 (by simp)) (tight_of (by omega) gA2 (by simp)) (by simp) (by simp) (fun H1 k1 hn => absurd ⟨by decide, by decide, by rw [← apart_iff]; rfl⟩ hn) fun _ _ _ w p q H1 k1 m1 hw => ?_)
  simp -implicitDefEqProofs [nilOf]
  refine call_of (mgNew c hc (L := []) (S := []) (SlW.nil _ 1) (SlW.nil _ 1) (by simp) (by simp) (fun H2 k2 hn => ?_) fun h2 _ _ _ _ _ _ _ _ _ => absurd h2 (by decide))
  have m2 := m1.le k2
  obtain ⟨H3, hH3⟩ : ∃ X : IHeap, X = (H2.alloc (.cells [.int .i64 0, .int .i64 0, .int .i64 0, .int .i64 0, .int .i64 0, .int .i64 0, .int .i64 0, .int .i64 0] false)).set H2.next (.cells [.int .i64 1, .int .i64 5, .int .i64 1, .int .i64 100, .int .i64 0, .int .i64 0, .int .i64 0, .int .i64 0] false) := ⟨_, rfl⟩
  have k3 : H2.le H3 := by rw [hH3]; exact (H2.le_alloc _).set (Nat.le_refl _) _
  have n3 : H3.next = H2.next + 1 := by rw [hH3]; rfl
  have gb3 : H3.get H2.next = some (.cells [.int .i64 1, .int .i64 5, .int .i64 1, .int .i64 100, .int .i64 0, .int .i64 0, .int .i64 0, .int .i64 0] false) := by rw [hH3, YW, if_pos rfl]
  have m3 : MgO w H3 p q aS0 := m2.le k3
  have wz := m2.zero (Nat.le_refl H2.next)
  simp -implicitDefEqProofs [nilOf, ← hH3, gb3]
  refine call_of (text_ok c hc hL okC1 fun H4 k4 => ?_)
  have m4 := m3.le k4
  have gb4 := (k4.get _ (by omega)).trans gb3
  have n4 := k4.next
  simp -implicitDefEqProofs []
  refine call_of (mgDo c hc m4 b0 (by omega) (by omega) fun w5 H5 s5 m5 => ?_)
  rw [mDo_C _ okC1] at m5 ⊢
  rw [ans1]
  have m5 : MgO w5 H5 p q aS1 := m5
  have n5 := s5.fr.next
  have gb5 := (s5.fr.get H2.next (by omega) (fun e => e wz)).trans gb4
  simp -implicitDefEqProofs [gb5]
  refine call_of (text_ok c hc hL okC1 fun H6 k6 => ?_)
  have m6 := m5.le k6
  have n6 := k6.next
  simp -implicitDefEqProofs []
  refine call_of (mgDo c hc m6 b1 (by omega) (by omega) fun w7 H7 s7 m7 => ?_)
  rw [mDo_C _ okC1, ans1'] at m7 ⊢
  have m7 : MgO w7 H7 p q aS1 := m7
  have n7 := s7.fr.next
  simp -implicitDefEqProofs []
  refine call_of (Answer_ok c hc.mg hc.cd l1 fun v8 H8 k8 gr8 => ?_)
  rw [r1] at gr8 ⊢
  have m8 := m7.le k8
  have d8 : SlD (fun b => H7.next ≤ b ∧ b < H8.next) H8 1 v8 (([0, 1] : List Int).map rowI) := gr8.slD
  have n8 := k8.next
  have z8 : ∀ b, H7.next ≤ b ∧ b < H8.next → w7 b = 0 := fun b hb => m7.zero hb.1
  simp -implicitDefEqProofs []
  refine call_of (text_ok c hc hL okC2 fun H9 k9 => ?_)
  have m9 := m8.le k9
  have n9 := k9.next
  simp -implicitDefEqProofs []
  refine call_of (mgDo c hc m9 b1 (by omega) (by omega) fun w10 H10 s10 m10 => ?_)
  rw [mDo_C _ okC2] at m10 ⊢
  rw [ans2]
  have m10 : MgO w10 H10 p q aS2 := m10
  have d10 := d8.sg ((Sg.le k9).trans s10) z8
  have q10 := (Sg.le (w := w7) k9).trans s10
  have n10 := s10.fr.next
  simp -implicitDefEqProofs []
  refine call_of (Answer_ok c hc.mg hc.cd l2 fun v11 H11 k11 gr11 => ?_)
  rw [r2] at gr11 ⊢
  have m11 := m10.le k11
  have q11 := q10.trans (Sg.le k11)
  have n11 := k11.next
  simp -implicitDefEqProofs []
  refine call_of (text_ok c hc hL okC3 fun H12 k12 => ?_)
  have m12 := m11.le k12
  have n12 := k12.next
  simp -implicitDefEqProofs []
  refine call_of (mgDo c hc m12 b2 (by omega) (by omega) fun w13 H13 s13 m13 => ?_)
  rw [mDo_C _ okC3] at m13 ⊢
  rw [ans3]
  have m13 : MgO w13 H13 p q aS3 := m13
  have q13 := (q11.trans (Sg.le k12)).trans s13
  have n13 := s13.fr.next
  simp -implicitDefEqProofs []
  refine call_of (Answer_ok c hc.mg hc.cd l3 fun v14 H14 k14 gr14 => ?_)
  rw [r3] at gr14 ⊢
  have m14 := m13.le k14
  have q14 := q13.trans (Sg.le k14)
  have d14 : SlD (fun b => H13.next ≤ b ∧ b < H14.next) H14 1 v14 (([1] : List Int).map rowI) := gr14.slD
  have z14 : ∀ b, H13.next ≤ b ∧ b < H14.next → w13 b = 0 := fun b hb => m13.zero hb.1
  have n14 := k14.next
  simp -implicitDefEqProofs []
  refine call_of (mgDo c hc (s := [120]) m14 b3 (by omega) (by simp) fun w15 H15 s15 m15 => ?_)
  have eX : mDo aS3 [120] = (aS3, ansB [] 3) := by unfold mDo; rw [decX]
  rw [eX] at m15 ⊢
  have m15 : MgO w15 H15 p q aS3 := m15
  have n15 := s15.fr.next
  simp -implicitDefEqProofs []
  refine call_of (Answer_ok c hc.mg hc.cd l4 fun v16 H16 k16 gr16 => ?_)
  rw [r4]
  have m16 := m15.le k16
  have n16 := k16.next
  simp -implicitDefEqProofs []
  refine call_of (mgSpot c hc (i := 4) m16 fun H17 k17 => ?_)
  rw [aSpot]
  have m17 := m16.le k17
  have n17 := k17.next
  obtain ⟨H18, hH18⟩ : ∃ X : IHeap, X = (H17.alloc (.cells [.int .i64 0, .int .i64 0, .int .i64 0, .int .i64 0] false)).set H17.next (.cells [.int .i64 0, .int .i64 0, .int .i64 20, .int .i64 1] false) := ⟨_, rfl⟩
  have k18 : H17.le H18 := by rw [hH18]; exact (H17.le_alloc _).set (Nat.le_refl _) _
  have n18 : H18.next = H17.next + 1 := by rw [hH18]; rfl
  have gs18 : H18.get H17.next = some (.cells [.int .i64 0, .int .i64 0, .int .i64 20, .int .i64 1] false) := by rw [hH18, YW, if_pos rfl]
  have q18 := ((((q14.trans s15).trans (Sg.le k16)).trans (Sg.le k17)).trans (Sg.le k18))
  have d18 := d8.sg q18 z8
  have q18' := ((((s15).trans (Sg.le k16)).trans (Sg.le k17)).trans (Sg.le k18))
  have d18' := d14.sg q18' z14
  have m18 := m17.le k18
  have k19 := H18.le_alloc (.cells [.int .i64 0, .int .i64 1] false)
  simp -implicitDefEqProofs [spotV, ← hH18, gs18, strV, str2]
  refine call_of (refInts01_ok c h01 (l := [0, 1]) (m := [0, 1]) (d18.1.le k19) (two_of (b := H18.next) (by simp [YX]) (by rw [YV, if_pos rfl])) (by simp) ?_)
  have k20 := (H18.alloc (.cells [.int .i64 0, .int .i64 1] false)).le_alloc (.cells [.int .i64 1] false)
  simp -implicitDefEqProofs []
  refine call_of (refInts01_ok c h01 (l := [1]) (m := [1]) ((d18'.1.le k19).le k20) (one_of' (b := H18.next + 1) (by simp [YX]) (by rw [YV, if_pos (by simp [YX])])) (by simp) ?_)
  simp -implicitDefEqProofs []
  have kk := (k19.trans k20)
  have m20 := m18.le kk
  have u1 : ¬ H17.next = H18.next + 1 := by omega
  have u2 : ¬ H17.next = H18.next := by omega
  simp -implicitDefEqProofs [u1, u2, gs18]
  refine call_of (mgStripes c hc (st := 2) m20 fun v21 H21 k21 s21 => ?_)
  rw [aList] at s21
  have m21 := m20.le k21
  have k22 := H21.le_alloc (.cells [.int .i64 0] false)
  simp -implicitDefEqProofs []
  refine call_of (refInts01_ok c h01 (l := [0]) (m := [0]) (s21.1.le k22) (one_of' (b := H21.next) (by simp [YX]) (by rw [YV, if_pos rfl])) (by simp) ?_)
  simp -implicitDefEqProofs []
  refine call_of (mgEpoch c hc (m21.le k22) ?_)
  simp -implicitDefEqProofs [aEp]
  exact hK _
end
end Go.Proofs.YtndndcdblfejnaaGreatRI
