/- Stripes that are known: which there are. / Stripes that are known: a fragment moves, a stripe begins. / Stripes that are known: a stripe begins. -/
import Derived.Test.YtndndcdblfejnaaGreatRSmDM
namespace Go.Proofs.YtndndcdblfejnaaGreatRI
attribute [local simp] J0 J1 J2 J3 J4 J5 J6 J7 J8 J9 Ja Jb Jc Jd Je Jf Jg Jh Ji Jj Jk Jl Jm Jn Jo Jp Jq Jr Js Jt Ju Jv Jw Jx Jy Jz JA JB JC JD JE JF JG JH JI JJ JK JL JM JN JO JP JQ JR JS stillI IOp.kind JT JU JV JW JX JY JZ Y0 Y1 Y2 Y3 Y4 Y5 Y6 Y7 Y8 Y9 Ya Yb Yc Yd Ye Yf Yg Yh Yi Yj Yk Yl Ym Yn Yo Yp Yq ial Yr Ys Yt Yu Yv Yw Yx Yy ires iresL ires1 Yz YA YB YC YD YE bin2 YF YG YH YI YJ YK YL YM YN YO YP YQ YR YS YT YU un1 shOk eqL eq1 fillL putAt IHeap.load1 IHeap.loadL IHeap.storeL YV YW YX YY YZ B0 B1 B2 B3 B4 B5 B6 B7 B8 B9 Ba Bb Bc Bd Be Bf Bg Bh Bi Bj Bk Bl Bm Bn Bo Bp
set_option linter.unusedSimpArgs false
set_option linter.unusedVariables false
open Go

theorem wh_le (f : St → Bool) (L : List St) (n : Nat) : (wh f n L).length ≤ L.length := by rw [wh_len]; exact List.countP_le_length

theorem one_ofS {H : IHeap} {b : Nat} {x : Int} (hb : b < H.next) (hg : H.get b = some (.cells [.int .i64 x] false)) : SlW H 1 (.slice (some ⟨b, 0, none⟩) 1 1) ([x].map rowI) :=
  ⟨slr_ints (l := [x]) hb hg (by simp [iV]) (by simp), _, _, rfl, .inr ⟨_, _, rfl⟩, .inl ⟨by unfold UNK; omega, by simp⟩⟩

section
variable (c : Ctx) (hc : HasSmap c) {H : IHeap} {K : Value → IHeap → Prop}
include hc

theorem which_ok {p q : Nat} {bs : Nat → Nat} {L : List St} (f : St → Bool) {g : FuncId} {cap : Value} (h : IsS H p q bs L)
    (hf : ∀ (i : Nat) (x : St) (v : Value) (H' : IHeap) (K' : Value → IHeap → Prop), H.le H' → L[i]? = some x → SlW H' 1 v (x.sv.map rowI) → (∀ H'', H'.le H'' → K' (.bool (f x)) H'') → c.C g [stV i x v, cap] H' K')
    (hK : ∀ v H', H.le H' → SlW H' 1 v ((wh f 0 L).map rowI) → (∀ S : List Nat, (∀ b ∈ S, b < H.next) → Far H' v S) → K v H') : c.C (c.F n_smap_Map_which) [.pointer (some ⟨p, 0, none⟩), .func (.func g) #[] #[cap]] H K := by
  refine c.enter hc.smap_Map_which rfl ?_
  obtain ⟨a, cp, hu⟩ := h.u
  have hlen := h.len
  simp -implicitDefEqProofs [c_smap_Map_which, nilOf, hu]
  refine loop_nat c.mono (fun k T H' => ∃ i : Nat, i ≤ L.length ∧ k = L.length - i ∧ T 1 = .func (.func g) #[] #[cap] ∧ T 13 = .slice a L.length cp ∧ T 14 = .int .i64 L.length ∧ T 15 = .int .i64 i ∧ H.le H' ∧ Grow H' H.next 1 (T 5) ((wh f 0 (L.take i)).map rowI)) L.length ?_ ?_
  · refine ⟨0, by omega, rfl, ?_⟩
    simp -implicitDefEqProofs []
    exact ⟨IHeap.le_refl _, by simp [wh, Grow]⟩
  · rintro k T H' ⟨i, hi, rfl, t1, t13, t14, t15, hle, hgr⟩
    by_cases hil : i < L.length
    · have hil' : (i : Int) < (L.length : Int) := by omega
      have hx : L[i]? = some L[i] := List.getElem?_eq_getElem hil
      obtain ⟨x, hxe⟩ : ∃ x, x = L[i] := ⟨_, rfl⟩
      rw [← hxe] at hx
      obtain ⟨g1, g2, hrow, hbd, hq, hpq⟩ := h.at hx
      have e := hu.symm.trans g1
      simp only [Option.some.injEq, IObj.cells.injEq, List.cons.injEq, Value.slice.injEq, and_true, true_and] at e
      obtain ⟨rfl, rfl⟩ := e
      have hxo := St.may_iff.1 (h.ok x (List.mem_of_getElem? hx)).may
      obtain ⟨cs, hcs⟩ : ∃ cs, cs = (rowsB bs L).flatten := ⟨_, rfl⟩
      rw [← hcs] at g2 hrow hbd
      have hsl := (h.le hle).sl hx
      simp only [rowSt, slS] at hrow
      simp only [slS] at hsl
      have g2' := (hle.get q hq).trans g2
      have hw : IntKind.i64.wrap ((i : Int) + 1) = (i : Int) + 1 := wrap64 (by omega) (by omega)
      simp -implicitDefEqProofs [t1, t13, t14, t15, hil, hil', g2', hrow, hbd]
      obtain ⟨HA, hHA⟩ : ∃ HA : IHeap, HA = (H'.alloc (.cells [.int .i64 0, .int .i64 0, .int .i64 0, .int .i64 0, .int .i64 0, .slice none 0 0] false)).set H'.next (.cells [.int .i64 i, .int .i64 x.st, .int .i64 x.ow, .int .i64 x.ep, .int .i64 x.le, .slice (some ⟨bs i, 0, none⟩) x.sv.length (UNK + 1)] false) := ⟨_, rfl⟩
      rw [← hHA]
      have kA : H'.le HA := by rw [hHA]; exact (H'.le_alloc _).set (Nat.le_refl _) _
      have nA : HA.next = H'.next + 1 := by rw [hHA]; rfl
      have gA : HA.get H'.next = some (.cells [.int .i64 i, .int .i64 x.st, .int .i64 x.ow, .int .i64 x.ep, .int .i64 x.le, .slice (some ⟨bs i, 0, none⟩) x.sv.length (UNK + 1)] false) := by rw [hHA, YW, if_pos rfl]
      refine call_of (hf i x _ HA _ (hle.trans kA) hx (hsl.le kA) fun HB kB => ?_)
      have nn := hle.next
      have nB := kB.next
      have gB := (kB.get H'.next (by omega)).trans gA
      have kAB := kA.trans kB
      have htk : L.take (i + 1) = L.take i ++ [x] := by rw [List.take_add_one, hx]; rfl
      have hwl := wh_le f (L.take i) 0
      have hsn := wh_snoc f (L.take i) 0 x
      rw [← htk, Nat.zero_add, List.length_take, Nat.min_eq_left hi] at hsn
      rw [List.length_take] at hwl
      by_cases hfx : f x = true
      · rw [hfx] at hsn ⊢
        rw [if_pos rfl] at hsn
        have kC := HB.le_alloc (.cells [.int .i64 i] false)
        obtain ⟨f4, v4, H4, e4, gr4, k4⟩ := app_ok (H := HB.alloc (.cells [.int .i64 i] false)) (l := [(i : Int)]) (old := wh f 0 (L.take i)) (B := H.next) (one_ofS (b := HB.next) (Nat.lt_succ_self _) (by rw [YV, if_pos rfl])) (hgr.le (kAB.trans kC)) (by simp only [YX]; omega) (by simp) (by omega)
        rw [← hsn] at gr4
        simp only [List.length_singleton, List.map_singleton, iV] at f4 e4
        have gC := gB
        have hne : H'.next ≠ HB.next := by omega
        simp -implicitDefEqProofs [t1, t13, t14, t15, gB, hne, lenOfI, f4, e4, hw]
        have k5 : H.le H4 := (((hle.trans kAB).trans kC).keep (Nat.le_refl _) |>.trans k4).le (Nat.le_refl _)
        exact ⟨L.length - (i + 1), by omega, i + 1, by omega, rfl, by simp, k5, gr4⟩
      · rw [if_neg hfx, List.append_nil] at hsn
        have hfx' : f x = false := by simpa using hfx
        rw [hfx']
        simp -implicitDefEqProofs [t1, t13, t14, t15, hw]
        refine ⟨L.length - (i + 1), by omega, i + 1, by omega, rfl, by simp, hle.trans kAB, ?_⟩
        rw [hsn]; exact hgr.le kAB
    · have hil' : ¬ (i : Int) < (L.length : Int) := by omega
      rw [List.take_of_length_le (by omega)] at hgr
      simp -implicitDefEqProofs [t1, t13, t14, t15, hil, hil']
      exact hK _ _ hle hgr.slw fun S hS => Grow.far hgr (Nat.le_refl _) hS

theorem SList_ok {p q : Nat} {bs : Nat → Nat} {L : List St} {st : Int} (h : IsS H p q bs L)
    (hK : ∀ v H', H.le H' → SlW H' 1 v ((wh (fun x => decide (x.st = st)) 0 L).map rowI) → K v H') : c.C (c.F n_smap_Map_List) [.pointer (some ⟨p, 0, none⟩), .int .i64 st] H K := by
  refine c.enter hc.smap_Map_List rfl ?_
  simp -implicitDefEqProofs [c_smap_Map_List]
  have kA := H.le_alloc (.cells [.int .i64 st] false)
  refine call_of (which_ok c hc (fun x => decide (x.st = st)) (h.le kA) (fun i x v H' K' hl hx hv hK' => ?_) fun v H' hl hv _ => ?_)
  · refine c.enter hc.smap_Map_List_F1 rfl ?_
    have g := (hl.get H.next (by simp [YX])).trans (by rw [YV, if_pos rfl])
    have nn := hl.next
    simp only [YX] at nn
    have hne : ¬ H.next = H'.next := by omega
    obtain ⟨a, cp, rfl⟩ := hv.len
    simp -implicitDefEqProofs [c_smap_Map_List_F1, stV, g, hne]
    exact hK' _ (H'.le_alloc _)
  · obtain ⟨a, cp, rfl⟩ := hv.len
    simp -implicitDefEqProofs []
    have := hK _ _ (kA.trans hl) hv
    simpa using this

theorem SOn_ok {p q : Nat} {bs : Nat → Nat} {L : List St} {sr : Int} (h : IsS H p q bs L)
    (hK : ∀ v H', H.le H' → SlW H' 1 v ((wh (fun x => decide (x.st ≠ 3) && decide (sr ∈ x.sv)) 0 L).map rowI) → K v H') : c.C (c.F n_smap_Map_On) [.pointer (some ⟨p, 0, none⟩), .int .i64 sr] H K := by
  refine c.enter hc.smap_Map_On rfl ?_
  simp -implicitDefEqProofs [c_smap_Map_On]
  have kA := H.le_alloc (.cells [.int .i64 sr] false)
  refine call_of (which_ok c hc (fun x => decide (x.st ≠ 3) && decide (sr ∈ x.sv)) (h.le kA) (fun i x v H' K' hl hx hv hK' => ?_) fun v H' hl hv _ => ?_)
  · refine c.enter hc.smap_Map_On_F1 rfl ?_
    have g := (hl.get H.next (by simp [YX])).trans (by rw [YV, if_pos rfl])
    have nn := hl.next
    simp only [YX] at nn
    have hne : ¬ H.next = H'.next := by omega
    have hxo := St.may_iff.1 (h.ok x (List.mem_of_getElem? hx)).may
    have hv2 := hv
    obtain ⟨a, cp, rfl⟩ := hv.len
    simp only [List.length_map] at hv2
    have kB : ∀ y, H'.le (H'.alloc y) := fun y => H'.le_alloc y
    by_cases h3 : x.st = 3
    · simp -implicitDefEqProofs [c_smap_Map_On_F1, stV, g, hne, h3]
      simpa [h3] using hK' _ (kB _)
    · simp -implicitDefEqProofs [c_smap_Map_On_F1, stV, g, hne, h3, List.length_map]
      refine call_of (Contains_ok c hc (hv2.le (kB _)) (by omega) ?_)
      simp -implicitDefEqProofs []
      simpa [h3] using hK' _ (kB _)
  · obtain ⟨a, cp, rfl⟩ := hv.len
    simp -implicitDefEqProofs []
    have := hK _ _ (kA.trans hl) hv
    simpa using this

omit hc in
def freeS (ow : Int) (x : St) : St := if isOf ow x then { x with st := 3 } else x
omit hc in
theorem drop_fold (ow : Int) : ∀ (L pre : List St), (wh (isOf ow) pre.length L).foldl (fun M id => (SFree M id).1) (pre ++ L) = pre ++ L.map (freeS ow)
  | [], pre => by simp [wh]
  | x :: L, pre => by
    simp only [wh, List.map_cons]
    by_cases hf : isOf ow x = true
    · rw [if_pos hf, List.foldl_cons]
      have e : (SFree (pre ++ x :: L) (pre.length : Int)).1 = (pre ++ [freeS ow x]) ++ L := by
        have hg : getS (pre ++ x :: L) (pre.length : Int) = some x := by
          unfold getS
          rw [if_neg (by omega)]
          simp
        have h1 : ¬ x.st = 3 := by simp only [isOf, Bool.and_eq_true, decide_eq_true_eq] at hf; omega
        unfold SFree
        rw [hg]
        simp only
        rw [if_neg h1]
        simp only [Int.toNat_natCast, freeS, if_pos hf]
        rw [List.set_append_right _ _ (Nat.le_refl _)]
        simp
      rw [e]
      have := drop_fold ow L (pre ++ [freeS ow x])
      rw [List.length_append, List.length_singleton] at this
      rw [this]; simp
    · rw [if_neg hf]
      have e : freeS ow x = x := by simp [freeS, hf]
      have := drop_fold ow L (pre ++ [x])
      rw [List.length_append, List.length_singleton] at this
      rw [e]
      simpa using this
omit hc in
theorem SDrop_fold (L : List St) (ow : Int) : (SDrop L ow).1 = (wh (isOf ow) 0 L).foldl (fun M id => (SFree M id).1) L := by
  have := drop_fold ow L []
  simp only [List.length_nil, List.nil_append] at this
  rw [this]; rfl

end
end Go.Proofs.YtndndcdblfejnaaGreatRI
namespace Go.Proofs.YtndndcdblfejnaaGreatRI
attribute [local simp] J0 J1 J2 J3 J4 J5 J6 J7 J8 J9 Ja Jb Jc Jd Je Jf Jg Jh Ji Jj Jk Jl Jm Jn Jo Jp Jq Jr Js Jt Ju Jv Jw Jx Jy Jz JA JB JC JD JE JF JG JH JI JJ JK JL JM JN JO JP JQ JR JS stillI IOp.kind JT JU JV JW JX JY JZ Y0 Y1 Y2 Y3 Y4 Y5 Y6 Y7 Y8 Y9 Ya Yb Yc Yd Ye Yf Yg Yh Yi Yj Yk Yl Ym Yn Yo Yp Yq ial Yr Ys Yt Yu Yv Yw Yx Yy ires iresL ires1 Yz YA YB YC YD YE bin2 YF YG YH YI YJ YK YL YM YN YO YP YQ YR YS YT YU un1 shOk eqL eq1 fillL putAt IHeap.load1 IHeap.loadL IHeap.storeL YV YW YX YY YZ B0 B1 B2 B3 B4 B5 B6 B7 B8 B9 Ba Bb Bc Bd Be Bf Bg Bh Bi Bj Bk Bl Bm Bn Bo Bp
set_option linter.unusedSimpArgs false
set_option linter.unusedVariables false
open Go

theorem rowsB_same {bs : Nat → Nat} {L : List St} {i : Nat} {x : St} (hx : L[i]? = some x) {sv : List Int} (hl : sv.length = x.sv.length) : rowsB bs (L.set i { x with sv := sv }) = rowsB bs L := by
  apply List.ext_getElem?
  intro k
  simp only [rowsB, List.getElem?_mapIdx, List.getElem?_set]
  by_cases hk : i = k
  · subst hk
    rw [if_pos rfl, if_pos (List.getElem?_eq_some_iff.1 hx).1, hx]
    simp [rowSt, hl]
  · rw [if_neg hk]
theorem IsS.mv {H : IHeap} {p q : Nat} {bs : Nat → Nat} {L : List St} {i : Nat} {x : St} {sv : List Int} (h : IsS H p q bs L) (hx : L[i]? = some x) (hl : sv.length = x.sv.length) (hy : St.ok { x with sv := sv }) :
    IsS (H.set (bs i) (.cells (sv.map iV) false)) p q bs (L.set i { x with sv := sv }) := by
  obtain ⟨b1, b2, b3, b4⟩ := h.bl i x hx
  obtain ⟨g1, g2, _, _, q1, q2⟩ := h.at hx
  have hi := (List.getElem?_eq_some_iff.1 hx).1
  have ho := opn_set (y := { x with sv := sv }) hx
  have ho2 : opn (L.set i { x with sv := sv }) = opn L := by
    have : isOpen { x with sv := sv } = isOpen x := rfl
    rw [this] at ho; omega
  refine ⟨h.lt, h.ltq, ⟨_, by rw [YW, if_neg (Ne.symm b3), ho2]; exact g1, .inr ⟨fun e => by have := congrArg List.length e; rw [List.length_set] at this; simp only [List.length_nil] at this; omega, q2, by rw [List.length_set], by rw [YW, if_neg (Ne.symm b4), rowsB_same hx hl]; exact g2⟩⟩, fun z hz => ?_, by rw [List.length_set]; exact h.len, fun k z hz => ?_, fun a b ha hb => h.inj a b (by simpa using ha) (by simpa using hb)⟩
  · rcases List.mem_or_eq_of_mem_set hz with h1 | rfl
    · exact h.ok z h1
    · exact hy
  · by_cases hk : k = i
    · subst hk
      have : z = { x with sv := sv } := by
        rw [List.getElem?_set, if_pos rfl, if_pos hi] at hz
        injection hz with hz; exact hz.symm
      subst this
      exact ⟨b1, by rw [YW, if_pos rfl], b3, b4⟩
    · rw [List.getElem?_set, if_neg (Ne.symm hk)] at hz
      obtain ⟨c1, c2, c3, c4⟩ := h.bl k z hz
      have hne : ¬ bs k = bs i := fun e => hk (h.inj k i (List.getElem?_eq_some_iff.1 hz).1 hi e)
      exact ⟨c1, by rw [YW, if_neg hne]; exact c2, c3, c4⟩
theorem nodup_get {l : List Int} : l.Nodup ↔ ∀ i j : Nat, i < j → j < l.length → l[i]? ≠ l[j]? := by
  unfold List.Nodup
  rw [List.pairwise_iff_getElem]
  constructor
  · intro h i j hij hj e
    rw [List.getElem?_eq_getElem hj, List.getElem?_eq_getElem (by omega)] at e
    exact h i j (by omega) hj hij (by simpa using e)
  · intro h i j hi hj hij e
    exact h i j hij hj (by rw [List.getElem?_eq_getElem hj, List.getElem?_eq_getElem hi, e])
theorem apart_set {l : List Int} {n : Nat} {s : Int} (h : Apart l) (h0 : 0 ≤ s) (h1 : s ≤ 63) (hs : ∀ j, j < l.length → l[j]? = some s → j = n) : Apart (l.set n s) := by
  refine ⟨fun x hx => ?_, ?_⟩
  · rcases List.mem_or_eq_of_mem_set hx with h2 | rfl
    · exact h.1 x h2
    · omega
  · rw [nodup_get]
    intro i j hij hj
    simp only [List.length_set] at hj
    have hnd := nodup_get.1 h.2 i j hij hj
    rw [List.getElem?_set, List.getElem?_set]
    by_cases hi : n = i
    · subst hi
      rw [if_pos rfl, if_pos (by omega), if_neg (by omega)]
      intro e
      have := hs j hj e.symm
      omega
    · rw [if_neg hi]
      by_cases hjn : n = j
      · subst hjn
        rw [if_pos rfl, if_pos hj]
        intro e
        have := hs i (by omega) e
        omega
      · rw [if_neg hjn]; exact hnd
theorem atI_uniq {l : List Int} {s : Int} (hnd : l.Nodup) {j : Nat} (hj : l[j]? = some s) : atI l s = j := by
  obtain ⟨hjl, e⟩ := List.getElem?_eq_some_iff.1 hj
  have hm : s ∈ l := by rw [← e]; exact List.getElem_mem _
  obtain ⟨i, hi, e1, e2⟩ := atI_mem hm
  rw [e1]
  have : i = j := by
    refine Classical.byContradiction fun hne => ?_
    have hq := nodup_get.1 hnd
    rcases Nat.lt_or_gt_of_ne hne with h | h
    · exact hq i j h hjl (by rw [List.getElem?_eq_getElem hi, hj, e2])
    · exact hq j i h hi (by rw [List.getElem?_eq_getElem hi, hj, e2])
  omega

section
variable (c : Ctx) (hc : HasSmap c) {H : IHeap} {K : Value → IHeap → Prop}
include hc

theorem SMove_ok {p q : Nat} {bs : Nat → Nat} {L : List St} {id ix sr : Int} (h : IsS H p q bs L) (hK : ∀ H', IHeap.upd (foot p q bs L) H H' → H'.next = H.next → IsS H' p q bs (SMove L id ix sr).1 → foot p q bs (SMove L id ix sr).1 = foot p q bs L → K (.int .i64 (SMove L id ix sr).2) H') :
    c.C (c.F n_smap_Map_Move) [.pointer (some ⟨p, 0, none⟩), .int .i64 id, .int .i64 ix, .int .i64 sr] H K := by
  refine c.enter hc.smap_Map_Move rfl ?_
  simp -implicitDefEqProofs [c_smap_Map_Move]
  unfold SMove at hK
  refine call_of (at_okS c hc h (fun hg => ?_) fun x hg => ?_)
  · rw [hg] at hK
    simp only at hK
    by_cases h1 : ix < 0
    · rw [if_pos (.inl h1)] at hK
      simp -implicitDefEqProofs [nilOf, h1]
      exact hK _ (IHeap.upd_refl _ _) rfl h rfl
    · by_cases h2 : 8 ≤ ix
      · rw [if_pos (.inr (.inl h2))] at hK
        simp -implicitDefEqProofs [nilOf, h1, h2]
        exact hK _ (IHeap.upd_refl _ _) rfl h rfl
      · by_cases h3 : sr < 0
        · rw [if_pos (.inr (.inr (.inl h3)))] at hK
          simp -implicitDefEqProofs [nilOf, h1, h2, h3]
          exact hK _ (IHeap.upd_refl _ _) rfl h rfl
        · by_cases h4 : 63 < sr
          · have h4' : 64 ≤ sr := by omega
            rw [if_pos (.inr (.inr (.inr h4)))] at hK
            simp -implicitDefEqProofs [nilOf, h1, h2, h3, h4']
            exact hK _ (IHeap.upd_refl _ _) rfl h rfl
          · have h4' : ¬ 64 ≤ sr := by omega
            rw [if_neg (by omega)] at hK
            simp -implicitDefEqProofs [nilOf, h1, h2, h3, h4']
            exact hK _ (IHeap.upd_refl _ _) rfl h rfl
  · rw [hg] at hK
    simp only at hK
    obtain ⟨i0, i1, hx⟩ := getS_some hg
    obtain ⟨g1, g2, hrow, hbd, hq, hpq⟩ := h.at hx
    obtain ⟨cs, hcs⟩ : ∃ cs, cs = (rowsB bs L).flatten := ⟨_, rfl⟩
    rw [← hcs] at g2 hrow hbd
    have r1 := row_get hrow 1 (by omega)
    have r5 := row_get hrow 5 (by omega)
    simp only [rowSt, List.getElem?_cons_succ, List.getElem?_cons_zero, slS] at r1 r5
    have hsl := h.sl hx
    simp only [slS] at hsl
    have hxo := h.ok x (List.mem_of_getElem? hx)
    have hxm := St.may_iff.1 hxo.may
    by_cases h1 : ix < 0
    · rw [if_pos (.inl h1)] at hK
      simp -implicitDefEqProofs [nilOf, g2, r5, h1]
      exact hK _ (IHeap.upd_refl _ _) rfl h rfl
    · by_cases h2 : (x.sv.length : Int) ≤ ix
      · rw [if_pos (.inr (.inl h2))] at hK
        simp -implicitDefEqProofs [nilOf, g2, r5, h1, h2]
        exact hK _ (IHeap.upd_refl _ _) rfl h rfl
      · by_cases h3 : sr < 0
        · rw [if_pos (.inr (.inr (.inl h3)))] at hK
          simp -implicitDefEqProofs [nilOf, g2, r5, h1, h2, h3]
          exact hK _ (IHeap.upd_refl _ _) rfl h rfl
        · by_cases h4 : 63 < sr
          · have h4' : 64 ≤ sr := by omega
            rw [if_pos (.inr (.inr (.inr h4)))] at hK
            simp -implicitDefEqProofs [nilOf, g2, r5, h1, h2, h3, h4']
            exact hK _ (IHeap.upd_refl _ _) rfl h rfl
          · have h4' : ¬ 64 ≤ sr := by omega
            rw [if_neg (by omega)] at hK
            simp -implicitDefEqProofs [nilOf, g2, r5, h1, h2, h3, h4']
            refine call_of (Index_okS c hc hsl (by omega) ?_)
            by_cases h5 : 0 ≤ atI x.sv sr
            · by_cases h6 : atI x.sv sr = ix
              · rw [if_neg (by simp [h6])] at hK
                have h1p : 0 ≤ ix := by omega
                by_cases h7 : x.st = 3
                · rw [if_pos h7] at hK
                  simp -implicitDefEqProofs [h5, h6, g2, r1, h7, h1p]
                  exact hK _ (IHeap.upd_refl _ _) rfl h rfl
                · rw [if_neg h7] at hK
                  obtain ⟨b1, b2, b3, b4⟩ := h.bl _ x hx
                  have hix : ix.toNat < x.sv.length := by omega
                  have hst : ix.toNat + 1 ≤ x.sv.length := by omega
                  have h2' : ix < (x.sv.length : Int) := by omega
                  have h1' : 0 ≤ ix := by omega
                  have hput' : List.take ix.toNat (List.map iV x.sv) ++ Value.int .i64 sr :: List.drop (ix.toNat + 1) (List.map iV x.sv) = (x.sv.map iV).set ix.toNat (iV sr) := by
                    have : putAt (List.map iV x.sv) ix.toNat [.int .i64 sr] = List.take ix.toNat (List.map iV x.sv) ++ Value.int .i64 sr :: List.drop (ix.toNat + 1) (List.map iV x.sv) := by simp [putAt]
                    rw [← this, putAt_iV hix sr, List.map_set]
                  simp -implicitDefEqProofs [h5, h6, g2, r1, r5, h7, b2, hst, h2', h1', hput', boundsI, natI]
                  rw [← List.map_set]
                  refine hK _ ((IHeap.upd_refl _ _).set (.inr (b_foot i1)) _) rfl (h.mv hx (by simp) ⟨?_, hxo.s1, hxo.s3, hxo.ep⟩) (foot_set ..)
                  rw [St.may_iff]
                  refine ⟨hxm.1, hxm.2.1, hxm.2.2.1, hxm.2.2.2.1, hxm.2.2.2.2.1, by simp only [List.length_set]; exact hxm.2.2.2.2.2.1, by simp only [List.length_set]; exact hxm.2.2.2.2.2.2.1, apart_set hxm.2.2.2.2.2.2.2 (by omega) (by omega) fun j hj e => ?_⟩
                  have := atI_uniq hxm.2.2.2.2.2.2.2.2 e
                  omega
              · rw [if_pos ⟨h5, h6⟩] at hK
                simp -implicitDefEqProofs [h5, h6]
                exact hK _ (IHeap.upd_refl _ _) rfl h rfl
            · rw [if_neg (fun hh => h5 hh.1)] at hK
              by_cases h7 : x.st = 3
              · rw [if_pos h7] at hK
                simp -implicitDefEqProofs [h5, g2, r1, h7]
                exact hK _ (IHeap.upd_refl _ _) rfl h rfl
              · rw [if_neg h7] at hK
                obtain ⟨b1, b2, b3, b4⟩ := h.bl _ x hx
                have hix : ix.toNat < x.sv.length := by omega
                have hst : ix.toNat + 1 ≤ x.sv.length := by omega
                have h2' : ix < (x.sv.length : Int) := by omega
                have h1' : 0 ≤ ix := by omega
                have hput' : List.take ix.toNat (List.map iV x.sv) ++ Value.int .i64 sr :: List.drop (ix.toNat + 1) (List.map iV x.sv) = (x.sv.map iV).set ix.toNat (iV sr) := by
                  have : putAt (List.map iV x.sv) ix.toNat [.int .i64 sr] = List.take ix.toNat (List.map iV x.sv) ++ Value.int .i64 sr :: List.drop (ix.toNat + 1) (List.map iV x.sv) := by simp [putAt]
                  rw [← this, putAt_iV hix sr, List.map_set]
                simp -implicitDefEqProofs [h5, g2, r1, r5, h7, b2, hst, h2', h1', hput', boundsI, natI]
                rw [← List.map_set]
                refine hK _ ((IHeap.upd_refl _ _).set (.inr (b_foot i1)) _) rfl (h.mv hx (by simp) ⟨?_, hxo.s1, hxo.s3, hxo.ep⟩) (foot_set ..)
                rw [St.may_iff]
                refine ⟨hxm.1, hxm.2.1, hxm.2.2.1, hxm.2.2.2.1, hxm.2.2.2.2.1, by simp only [List.length_set]; exact hxm.2.2.2.2.2.1, by simp only [List.length_set]; exact hxm.2.2.2.2.2.2.1, apart_set hxm.2.2.2.2.2.2.2 (by omega) (by omega) fun j hj e => ?_⟩
                have hm : sr ∈ x.sv := List.mem_of_getElem? e
                exfalso
                have h9 : ¬ atI x.sv sr < 0 := fun hlt => atI_neg.1 hlt hm
                omega

end
end Go.Proofs.YtndndcdblfejnaaGreatRI
namespace Go.Proofs.YtndndcdblfejnaaGreatRI
attribute [local simp] J0 J1 J2 J3 J4 J5 J6 J7 J8 J9 Ja Jb Jc Jd Je Jf Jg Jh Ji Jj Jk Jl Jm Jn Jo Jp Jq Jr Js Jt Ju Jv Jw Jx Jy Jz JA JB JC JD JE JF JG JH JI JJ JK JL JM JN JO JP JQ JR JS stillI IOp.kind JT JU JV JW JX JY JZ Y0 Y1 Y2 Y3 Y4 Y5 Y6 Y7 Y8 Y9 Ya Yb Yc Yd Ye Yf Yg Yh Yi Yj Yk Yl Ym Yn Yo Yp Yq ial Yr Ys Yt Yu Yv Yw Yx Yy ires iresL ires1 Yz YA YB YC YD YE bin2 YF YG YH YI YJ YK YL YM YN YO YP YQ YR YS YT YU un1 shOk eqL eq1 fillL putAt IHeap.load1 IHeap.loadL IHeap.storeL YV YW YX YY YZ B0 B1 B2 B3 B4 B5 B6 B7 B8 B9 Ba Bb Bc Bd Be Bf Bg Bh Bi Bj Bk Bl Bm Bn Bo Bp
set_option linter.unusedSimpArgs false
set_option linter.unusedVariables false
open Go

section
variable (c : Ctx) (hc : HasSmap c) {H : IHeap} {K : Value → IHeap → Prop}
include hc

theorem SBegin_ok {p q : Nat} {bs : Nat → Nat} {L : List St} {ow ep le : Int} {sv : List Int} {u : Value} (h : IsS H p q bs L) (hu : SlW H 1 u (sv.map rowI)) (hsv : sv.length ≤ 1000000) (hep : ep < 9223372036854775808)
    (hK : ∀ q' bs' H', IHeap.upd (foot p q bs L) H H' → IsS H' p q' bs' (SBegin L ow ep le sv).1 → (∀ b ∈ foot p q' bs' (SBegin L ow ep le sv).1, b ∈ foot p q bs L ∨ H.next ≤ b) → K (.tuple #[.int .i64 (SBegin L ow ep le sv).2.1, .int .i64 (SBegin L ow ep le sv).2.2]) H') :
    c.C (c.F n_smap_Map_Begin) [.pointer (some ⟨p, 0, none⟩), .int .i64 ow, .int .i64 ep, .int .i64 le, u] H K := by
  refine c.enter hc.smap_Map_Begin rfl ?_
  have hlen := h.len
  have hop : opn L ≤ 4096 := Nat.le_trans (opn_le L) h.len
  simp -implicitDefEqProofs [c_smap_Map_Begin]
  refine call_of (Clone_ok c hc hu hsv fun v1 H1 k1 w1 _ own => ?_)
  have w1' := w1
  obtain ⟨a1, c1, rfl⟩ := w1.len
  simp only [List.length_map] at w1' own
  simp -implicitDefEqProofs [nilOf, List.length_map]
  obtain ⟨HA, hHA⟩ : ∃ X : IHeap, X = (H1.alloc (.cells [.int .i64 0, .int .i64 0, .int .i64 0, .int .i64 0, .int .i64 0, .slice none 0 0] false)).set H1.next (.cells [.int .i64 0, .int .i64 1, .int .i64 ow, .int .i64 ep, .int .i64 le, .slice a1 sv.length c1] false) := ⟨_, rfl⟩
  rw [← hHA]
  have kA : H1.le HA := by rw [hHA]; exact (H1.le_alloc _).set (Nat.le_refl _) _
  have nA : HA.next = H1.next + 1 := by rw [hHA]; rfl
  have gA : HA.get H1.next = some (.cells [.int .i64 0, .int .i64 1, .int .i64 ow, .int .i64 ep, .int .i64 le, .slice a1 sv.length c1] false) := by rw [hHA, YW, if_pos rfl]
  refine call_of (may_okS c hc (x := ⟨1, ow, ep, le, sv⟩) (w1'.le kA) (by simp only; omega) fun HB kB => ?_)
  have nB := kB.next
  have n1 := k1.next
  have k13 := (k1.trans kA).trans kB
  have gB := (kB.get H1.next (by omega)).trans gA
  unfold SBegin at hK
  cases hm : St.may ⟨1, ow, ep, le, sv⟩ with
  | false =>
    rw [if_pos hm] at hK
    simp -implicitDefEqProofs []
    exact hK q bs _ (k13.upd _) (h.le k13) fun b hb => .inl hb
  | true =>
    rw [if_neg (by rw [hm]; simp)] at hK
    have h3 := h.le k13
    obtain ⟨u0, hg, hrep⟩ := h3.rep
    have hua : ∃ a cp, u0 = .slice a L.length cp := by
      rcases hrep with ⟨rfl, rfl⟩ | ⟨_, _, rfl, _⟩
      · exact ⟨_, _, rfl⟩
      · exact ⟨_, _, rfl⟩
    obtain ⟨a, cp, rfl⟩ := hua
    by_cases hf : 256 ≤ opn L ∨ 4096 ≤ L.length
    · rw [if_pos hf] at hK
      by_cases hf1 : 256 ≤ opn L
      · have hf1' : (256 : Int) ≤ (opn L : Int) := by omega
        simp -implicitDefEqProofs [hg, hf1, hf1']
        exact hK q bs _ (k13.upd _) h3 fun b hb => .inl hb
      · have hf1' : ¬ (256 : Int) ≤ (opn L : Int) := by omega
        have hf2 : 4096 ≤ L.length := by omega
        have hf2' : (4096 : Int) ≤ (L.length : Int) := by omega
        simp -implicitDefEqProofs [hg, hf1, hf1', hf2, hf2']
        exact hK q bs _ (k13.upd _) h3 fun b hb => .inl hb
    · rw [if_neg hf] at hK
      have hf1 : ¬ 256 ≤ opn L := by omega
      have hf2 : ¬ 4096 ≤ L.length := by omega
      have hf1' : ¬ (256 : Int) ≤ (opn L : Int) := by omega
      have hf2' : ¬ (4096 : Int) ≤ (L.length : Int) := by omega
      have hxm := St.may_iff.1 hm
      simp only at hxm
      obtain ⟨b, hb1, hb2, e1, hb3⟩ := own (by rintro rfl; simp at hxm)
      simp only [slS, Value.slice.injEq, true_and] at e1
      obtain ⟨rfl, rfl⟩ := e1
      have hpn : p ≠ H1.next := by have := h.lt; omega
      have hw : IntKind.i64.wrap ((opn L : Int) + 1) = (opn L : Int) + 1 := wrap64 (by omega) (by omega)
      obtain ⟨HC, hHC⟩ : ∃ X : IHeap, X = (HB.set H1.next (.cells [.int .i64 L.length, .int .i64 1, .int .i64 ow, .int .i64 ep, .int .i64 le, .slice (some ⟨b, 0, none⟩) sv.length (UNK + 1)] false)).alloc (.cells [.int .i64 L.length, .int .i64 1, .int .i64 ow, .int .i64 ep, .int .i64 le, .slice (some ⟨b, 0, none⟩) sv.length (UNK + 1)] false) := ⟨_, rfl⟩
      have kC : H.le HC := by rw [hHC]; exact (k13.set (by omega) _).alloc _
      have nC : HC.next = HB.next + 1 := by rw [hHC]; rfl
      have gC : HC.get HB.next = some (.cells [.int .i64 L.length, .int .i64 1, .int .i64 ow, .int .i64 ep, .int .i64 le, .slice (some ⟨b, 0, none⟩) sv.length (UNK + 1)] false) := by rw [hHC, YV, YY, if_pos rfl]
      have gC1 : HC.get H1.next = some (.cells [.int .i64 L.length, .int .i64 1, .int .i64 ow, .int .i64 ep, .int .i64 le, .slice (some ⟨b, 0, none⟩) sv.length (UNK + 1)] false) := by rw [hHC, YV, YY, if_neg (by omega), YW, if_pos rfl]
      have f1 : firstI HC 6 1 (.slice (some ⟨HB.next, 0, none⟩) 1 1) = some [.int .i64 L.length, .int .i64 1, .int .i64 ow, .int .i64 ep, .int .i64 le, .slice (some ⟨b, 0, none⟩) sv.length (UNK + 1)] := by simp [firstI, IHeap.loadL, gC]
      have h4 := h.le kC
      have hgC : HC.get p = _ := (kC.get p h.lt).trans ((k13.get p h.lt).symm.trans hg)
      obtain ⟨H5, e5, g5, n5, u5, z5⟩ := push_ok (H := HC) (q := q) (size := 6) (bytes := 64) (u := .slice a L.length cp) (rows := rowsB bs L) (new := rowSt L.length ⟨1, ow, ep, le, sv⟩ (slS b sv.length)) (by
        rcases hrep with ⟨r1, r2⟩ | ⟨r1, r2, r3, r4⟩
        · left; subst r1; exact ⟨rfl, r2⟩
        · right
          refine ⟨fun e => r1 (by have := congrArg List.length e; rw [rowsB_len] at this; simpa using this), by rw [rowsB_len]; exact r3, (kC.get q h.ltq).trans ((k13.get q h.ltq).symm.trans r4)⟩) (rowsB_six bs L) (by omega) (by omega) rfl rfl (by rw [rowsB_len]; omega) (by rw [rowsB_len]; omega)
      rw [rowsB_len] at e5
      simp only [rowSt, slS] at e5
      have gp5 : H5.get p = _ := (by
        rcases hrep with ⟨r1, r2⟩ | ⟨r1, r2, r3, r4⟩
        · subst r1; exact (z5 rfl).get p (Nat.lt_of_lt_of_le h.lt kC.next)
        · exact u5.get p (Nat.lt_of_lt_of_le h.lt kC.next) (by simpa using r2) : H5.get p = HC.get p).trans hgC
      have gx5 : H5.get H1.next = _ := (u5.get H1.next (by omega) (by have := h.ltq; simp; omega)).trans gC1
      simp -implicitDefEqProofs [hg, hf1, hf1', hf2, hf2', gB, hpn, ← hHC, lenOfI, f1, e5, gp5, gx5, Ne.symm hpn, hw]
      have hin5 : ∀ b', b' < HC.next → b' ≠ p → b' ≠ q → H5.get b' = HC.get b' := fun b' h1 h2 h3 => u5.get b' h1 (by simpa using h3)
      have hon : opn (L ++ [⟨1, ow, ep, le, sv⟩]) = opn L + 1 := by unfold opn; rw [List.countP_append]; rfl
      have hpl := h.lt
      have hql := h.ltq
      have hcn := kC.next
      simp only at hK
      have hrs := rowsB_snoc bs L ⟨1, ow, ep, le, sv⟩ b
      have hcast : ((opn L : Int) + 1) = ((opn L + 1 : Nat) : Int) := by omega
      rw [hcast]
      refine hK HC.next (fun i => if i = L.length then b else bs i) _ ?_ ⟨?_, ?_, ⟨.slice (some ⟨HC.next, 0, none⟩) (L.length + 1) (UNK + 6), ?_, .inr ⟨by simp, by omega, by simp, ?_⟩⟩, ?_, ?_, ?_, ?_⟩ ?_
      · refine (((IHeap.le.upd kC _).trans ⟨u5.next, fun b' h1 h2 => u5.get b' h1 fun hm => h2 (by simp only [List.mem_singleton] at hm; rw [hm]; exact q_foot _ _ _ _)⟩).set (.inr (p_foot _ _ _ _)) _).set (.inr (p_foot _ _ _ _)) _
      · simp only [YY]; omega
      · simp only [YY]; omega
      · rw [YW, if_pos rfl, hon]
      · rw [YW, if_neg (by omega), YW, if_neg (by omega), g5, hrs]
      · intro z hz
        rcases List.mem_append.1 hz with h1 | h1
        · exact h.ok z h1
        · simp only [List.mem_singleton] at h1
          subst h1
          exact ⟨hm, by simp, by simp, hep⟩
      · simp only [List.length_append, List.length_singleton]; omega
      · intro i x hx
        simp only [YY]
        by_cases hi : i < L.length
        · rw [List.getElem?_append_left hi] at hx
          obtain ⟨c1, c2, c3, c4⟩ := h.bl i x hx
          rw [if_neg (by omega)]
          refine ⟨by omega, ?_, c3, by omega⟩
          rw [YW, if_neg c3, YW, if_neg c3, hin5 _ (by omega) c3 c4, kC.get _ c1]
          exact c2
        · have hi2 : i = L.length := by
            have := (List.getElem?_eq_some_iff.1 hx).1
            simp only [List.length_append, List.length_singleton] at this; omega
          subst hi2
          rw [List.getElem?_append_right (Nat.le_refl _)] at hx
          simp only [Nat.sub_self, List.getElem?_cons_zero, Option.some.injEq] at hx
          subst hx
          rw [if_pos rfl]
          have hb5 : HC.get b = H1.get b := by
            rw [hHC, YV, YY, if_neg (by omega), YW, if_neg (by omega), kB.get b (by omega), kA.get b hb2]
          refine ⟨by omega, ?_, by omega, by omega⟩
          rw [YW, if_neg (by omega), YW, if_neg (by omega), hin5 b (by omega) (by omega) (by omega), hb5]
          exact hb3
      · intro i j hi hj
        simp only [List.length_append, List.length_singleton] at hi hj
        have hbl : ∀ k, k < L.length → bs k < H.next := fun k hk => (h.bl k L[k] (List.getElem?_eq_getElem hk)).1
        split <;> split
        · intro _; omega
        · intro e; have := hbl j (by omega); omega
        · intro e; have := hbl i (by omega); omega
        · exact h.inj i j (by omega) (by omega)
      · intro b' hb'
        rw [mem_foot] at hb'
        rcases hb' with rfl | rfl | ⟨i, hi, rfl⟩
        · exact .inl (p_foot _ _ _ _)
        · right; omega
        · simp only [List.length_append, List.length_singleton] at hi
          split
          · right; omega
          · left; exact b_foot (by omega)

end
end Go.Proofs.YtndndcdblfejnaaGreatRI
