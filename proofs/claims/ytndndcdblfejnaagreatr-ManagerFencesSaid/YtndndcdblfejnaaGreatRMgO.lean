/- Managers: New, what may be asked; begin, free, close, grant, drop. / Managers: commit, free, fail, close, grant, drop. / Managers: commit, move, swap. / Managers: move, swap. -/
import Derived.Test.YtndndcdblfejnaaGreatRMgJ
namespace Go.Proofs.YtndndcdblfejnaaGreatRI
attribute [local simp] J0 J1 J2 J3 J4 J5 J6 J7 J8 J9 Ja Jb Jc Jd Je Jf Jg Jh Ji Jj Jk Jl Jm Jn Jo Jp Jq Jr Js Jt Ju Jv Jw Jx Jy Jz JA JB JC JD JE JF JG JH JI JJ JK JL JM JN JO JP JQ JR JS stillI IOp.kind JT JU JV JW JX JY JZ Y0 Y1 Y2 Y3 Y4 Y5 Y6 Y7 Y8 Y9 Ya Yb Yc Yd Ye Yf Yg Yh Yi Yj Yk Yl Ym Yn Yo Yp Yq ial Yr Ys Yt Yu Yv Yw Yx Yy ires iresL ires1 Yz YA YB YC YD YE bin2 YF YG YH YI YJ YK YL YM YN YO YP YQ YR YS YT YU un1 shOk eqL eq1 fillL putAt IHeap.load1 IHeap.loadL IHeap.storeL YV YW YX YY YZ B0 B1 B2 B3 B4 B5 B6 B7 B8 B9 Ba Bb Bc Bd Be Bf Bg Bh Bi Bj Bk Bl Bm Bn Bo Bp
set_option linter.unusedSimpArgs false
set_option linter.unusedVariables false
open Go

section
variable (c : Ctx) (hc : MgC c) {H : IHeap} {K : Value → IHeap → Prop}

include hc in
theorem mgNew {L S : List Int} {u v : Value} (hu : SlW H 1 u (L.map rowI)) (hv : SlW H 1 v (S.map rowI)) (hL : L.length ≤ 1000000000) (hS : S.length ≤ 1000000000)
    (h0 : ∀ H', H.le H' → ¬ (2 ≤ L.length ∧ L.length ≤ 8 ∧ Apart (L ++ S)) → K (.pointer none) H')
    (h1 : 2 ≤ L.length → L.length ≤ 8 → Apart (L ++ S) → ∀ w p q H', H.le H' → MgO w H' p q (mNew L S) → (∀ b, w b ≠ 0 → H.next ≤ b) → K (.pointer (some ⟨p, 0, none⟩)) H') : c.C (c.F n_manager_New) [u, v] H K := by
  refine c.enter hc.mg.manager_New rfl ?_
  simp -implicitDefEqProofs [c_manager_New]
  refine call_of (gNew c hc hu hv hL hS (fun H1 k1 hn => ?_) fun a1 a2 a3 pg H1 k1 i1 => ?_)
  · simp -implicitDefEqProofs [nilOf]
    exact h0 _ k1 hn
  · simp -implicitDefEqProofs [nilOf]
    refine call_of (sNew c hc fun ps H2 k2 i2 => ?_)
    simp -implicitDefEqProofs []
    refine call_of (INew_ok c hc.im fun H3 k3 n3 i3 => ?_)
    simp -implicitDefEqProofs []
    refine call_of (uNew c hc fun pu H4 k4 i4 => ?_)
    simp -implicitDefEqProofs []
    refine call_of (LeNew_ok c hc.im fun pl H5 k5 n5 i5 => ?_)
    simp -implicitDefEqProofs []
    refine call_of (ReNew_ok c hc.re fun pr H6 k6 n6 i6 => ?_)
    simp -implicitDefEqProofs []
    have b1 := k1.next
    have b2 := k2.next
    have b3 := k3.next
    have b4 := k4.next
    have b5 := k5.next
    have b6 := k6.next
    obtain ⟨H7, hH7⟩ : ∃ X : IHeap, X = H6.alloc (.cells (mgL ⟨pg, ps, H2.next, pu, pl, pr⟩ 0) false) := ⟨_, rfl⟩
    have k7 : H6.le H7 := by rw [hH7]; exact H6.le_alloc _
    have b7 : H7.next = H6.next + 1 := by rw [hH7]; rfl
    obtain ⟨w, hw⟩ : ∃ w : Nat → Nat, w = fun b => if b < H.next then 0 else if b < H1.next then 2 else if b < H2.next then 3 else if b < H3.next then 4 else if b < H4.next then 5 else if b < H5.next then 6 else if b < H6.next then 7 else if b = H6.next then 1 else 0 := ⟨_, rfl⟩
    have wl : ∀ b, w b ≠ 0 → H.next ≤ b ∧ b < H7.next := fun b hb => by
      rw [hw] at hb
      simp only at hb
      repeat' split at hb
      all_goals omega
    have w2 : ∀ b, Gw (fun _ => False) H H1 b → w b = 2 := fun b hb => by
      have := Gw.no b hb
      rw [hw]; simp only
      rw [if_neg (by omega), if_pos (by omega)]
    have w3 : ∀ b, Gw (fun _ => False) H1 H2 b → w b = 3 := fun b hb => by
      have := Gw.no b hb
      rw [hw]; simp only
      rw [if_neg (by omega), if_neg (by omega), if_pos (by omega)]
    have w4 : ∀ b, Gw (fun _ => False) H2 H3 b → w b = 4 := fun b hb => by
      have := Gw.no b hb
      rw [hw]; simp only
      rw [if_neg (by omega), if_neg (by omega), if_neg (by omega), if_pos (by omega)]
    have w5 : ∀ b, Gw (fun _ => False) H3 H4 b → w b = 5 := fun b hb => by
      have := Gw.no b hb
      rw [hw]; simp only
      rw [if_neg (by omega), if_neg (by omega), if_neg (by omega), if_neg (by omega), if_pos (by omega)]
    have w6 : ∀ b, Gw (fun _ => False) H4 H5 b → w b = 6 := fun b hb => by
      have := Gw.no b hb
      rw [hw]; simp only
      rw [if_neg (by omega), if_neg (by omega), if_neg (by omega), if_neg (by omega), if_neg (by omega), if_pos (by omega)]
    have w7 : ∀ b, Gw (fun _ => False) H5 H6 b → w b = 7 := fun b hb => by
      have := Gw.no b hb
      rw [hw]; simp only
      rw [if_neg (by omega), if_neg (by omega), if_neg (by omega), if_neg (by omega), if_neg (by omega), if_neg (by omega), if_pos (by omega)]
    have w1 : w H6.next = 1 := by
      rw [hw]; simp only
      rw [if_neg (by omega), if_neg (by omega), if_neg (by omega), if_neg (by omega), if_neg (by omega), if_neg (by omega), if_neg (by omega)]
      simp
    have hl : ∀ k, k ≠ 0 → ∀ b, w b = k → b < H7.next := fun k hk b hb => (wl b (by rw [hb]; exact hk)).2
    have fin := h1 a1 a2 a3 w H6.next ⟨pg, ps, H2.next, pu, pl, pr⟩ H7 (((((((k1.trans k2).trans k3).trans k4).trans k5).trans k6).trans k7))
      ⟨fun b hb => (wl b hb).2, w1, by rw [hH7, YV, if_pos rfl]; rfl,
        (i1.fr ((((((k2.trans k3).trans k4).trans k5).trans k6).trans k7).fr fun _ => False) fun _ _ h => h).weak w2 (hl 2 (by decide)),
        (i2.fr (((((k3.trans k4).trans k5).trans k6).trans k7).fr fun _ => False) fun _ _ h => h).weak w3 (hl 3 (by decide)),
        (i3.fr ((((k4.trans k5).trans k6).trans k7).fr fun _ => False) fun _ _ h => h).weak w4 (hl 4 (by decide)),
        (i4.fr (((k5.trans k6).trans k7).fr fun _ => False) fun _ _ h => h).weak w5 (hl 5 (by decide)),
        (i5.fr ((k6.trans k7).fr fun _ => False) fun _ _ h => h).weak w6 (hl 6 (by decide)),
        (i6.fr (k7.fr fun _ => False) fun _ _ h => h).weak w7 (hl 7 (by decide))⟩ fun b hb => (wl b hb).1
    rw [hH7] at fin
    exact fin
theorem MgO.gets {w : Nat → Nat} {p : Nat} {q : Pts} {S : Mst} (h : MgO w H p q S) : H.get p = some (.cells [.pointer (some ⟨q.g, 0, none⟩), .pointer (some ⟨q.s, 0, none⟩), .pointer (some ⟨q.i, 0, none⟩), .pointer (some ⟨q.u, 0, none⟩), .pointer (some ⟨q.l, 0, none⟩), .pointer (some ⟨q.r, 0, none⟩), .int .i64 S.gone] false) := h.get
include hc in
theorem mgServers {w : Nat → Nat} {p : Nat} {q : Pts} {S : Mst} (h : MgO w H p q S) (hK : ∀ v H', H.le H' → SlW H' 1 v (S.g.L.map rowI) → K v H') : c.C (c.F n_manager_Manager_Servers) [.pointer (some ⟨p, 0, none⟩)] H K := by
  refine c.enter hc.mg.manager_Manager_Servers rfl ?_
  have g := h.gets
  simp -implicitDefEqProofs [c_manager_Manager_Servers, nilOf, g]
  refine call_of (gServers c hc h.g fun v H' k s => ?_)
  simp -implicitDefEqProofs []
  exact hK v H' k s
include hc in
theorem mgEpoch {w : Nat → Nat} {p : Nat} {q : Pts} {S : Mst} (h : MgO w H p q S) (hK : K (.int .i64 S.g.e) H) : c.C (c.F n_manager_Manager_Epoch) [.pointer (some ⟨p, 0, none⟩)] H K := by
  refine c.enter hc.mg.manager_Manager_Epoch rfl ?_
  have g := h.gets
  simp -implicitDefEqProofs [c_manager_Manager_Epoch, nilOf, g]
  refine call_of (gEpoch c hc h.g ?_)
  simp -implicitDefEqProofs []
  exact hK
include hc in
theorem mgStripes {w : Nat → Nat} {p : Nat} {q : Pts} {S : Mst} {st : Int} (h : MgO w H p q S) (hK : ∀ v H', H.le H' → SlW H' 1 v ((wh (fun x => decide (x.st = st)) 0 S.s).map rowI) → K v H') : c.C (c.F n_manager_Manager_Stripes) [.pointer (some ⟨p, 0, none⟩), .int .i64 st] H K := by
  refine c.enter hc.mg.manager_Manager_Stripes rfl ?_
  have g := h.gets
  simp -implicitDefEqProofs [c_manager_Manager_Stripes, nilOf, g]
  refine call_of (sList c hc h.s fun v H' k s => ?_)
  simp -implicitDefEqProofs []
  exact hK v H' k s
include hc in
theorem mgSpot {w : Nat → Nat} {p : Nat} {q : Pts} {S : Mst} {i : Int} (h : MgO w H p q S) (hK : ∀ H', H.le H' → K (.tuple #[spotV (imGet S.i i).1, .bool (imGet S.i i).2]) H') : c.C (c.F n_manager_Manager_Spot) [.pointer (some ⟨p, 0, none⟩), .int .i64 i] H K := by
  refine c.enter hc.mg.manager_Manager_Spot rfl ?_
  have g := h.gets
  have hlp := h.lp
  have hne : p ≠ H.next := by omega
  have ka := H.le_alloc (.cells [.int .i64 0, .int .i64 0, .int .i64 0, .int .i64 0] false)
  simp -implicitDefEqProofs [c_manager_Manager_Spot, nilOf, g, hne]
  refine call_of (IGet_ok c hc.im (h.le ka).i fun H' k => ?_)
  have gz := (k.get H.next (by simp [YX])).trans (by rw [YV, if_pos rfl])
  simp -implicitDefEqProofs [spotV, gz]
  have k2 := (ka.trans k).set (Nat.le_refl _) (.cells [.int .i64 (imGet S.i i).1.seg, .int .i64 (imGet S.i i).1.fr, .int .i64 (imGet S.i i).1.le, .int .i64 (imGet S.i i).1.ver] false)
  exact hK _ k2
include hc in
theorem mgStripe {w : Nat → Nat} {p : Nat} {q : Pts} {S : Mst} {i : Int} (h : MgO w H p q S) (h0 : getS S.s i = none → ∀ H', H.le H' → K (.tuple #[stV 0 ⟨0, 0, 0, 0, []⟩ (.slice none 0 0), .bool false]) H')
    (h1 : ∀ x v H', getS S.s i = some x → H.le H' → SlW H' 1 v (x.sv.map rowI) → K (.tuple #[stV i.toNat x v, .bool true]) H') : c.C (c.F n_manager_Manager_Stripe) [.pointer (some ⟨p, 0, none⟩), .int .i64 i] H K := by
  refine c.enter hc.mg.manager_Manager_Stripe rfl ?_
  have g := h.gets
  have hlp := h.lp
  have hne : p ≠ H.next := by omega
  have ka := H.le_alloc (.cells [.int .i64 0, .int .i64 0, .int .i64 0, .int .i64 0, .int .i64 0, .slice none 0 0] false)
  simp -implicitDefEqProofs [c_manager_Manager_Stripe, nilOf, g, hne]
  refine call_of (sGet c hc (h.le ka).s (fun hn H' k => ?_) fun x v H' hx k sv far => ?_)
  · have gz := (k.get H.next (by simp [YX])).trans (by rw [YV, if_pos rfl])
    simp -implicitDefEqProofs [stV, gz]
    exact h0 hn _ ((ka.trans k).set (Nat.le_refl _) _)
  · have gz := (k.get H.next (by simp [YX])).trans (by rw [YV, if_pos rfl])
    obtain ⟨j, rfl⟩ : ∃ j : Nat, i = j := ⟨i.toNat, by have := (getS_some hx).1; omega⟩
    have sv' := sv
    obtain ⟨a, cap, rfl⟩ := sv'.len
    rw [Int.toNat_natCast] at h1 ⊢
    simp -implicitDefEqProofs [stV, gz]
    have k2 := (ka.trans k).set (Nat.le_refl _) (.cells [.int .i64 (j : Nat), .int .i64 x.st, .int .i64 x.ow, .int .i64 x.ep, .int .i64 x.le, .slice a (x.sv.map rowI).length cap] false)
    have u2 : IHeap.upd [H.next] H' (H'.set H.next (.cells [.int .i64 (j : Nat), .int .i64 x.st, .int .i64 x.ow, .int .i64 x.ep, .int .i64 x.le, .slice a (x.sv.map rowI).length cap] false)) := (IHeap.upd_refl _ _).set (.inr (by simp)) _
    have fin := h1 x _ _ hx k2 (sv.upd (far [H.next] (by simp [YX])).off u2)
    simpa [stV] using fin
/-- What a command does. -/
def CmdOk (c : Ctx) (f : FuncId) (m : Mst → Cmd → Told) : Prop := ∀ (H : IHeap) (K : Value → IHeap → Prop) (w : Nat → Nat) (p n : Nat) (q : Pts) (S : Mst) (x : Cmd), MgO w H p q S → Bnd n S → n ≤ 100000 → okX x →
  (∀ w' H' v, Sg w H w' H' → MgO w' H' p q (m S x).1 → SlR H' 1 v ((m S x).2.1.map rowI) → K (.tuple #[v, .int .i64 (m S x).2.2]) H') → c.C f [.pointer (some ⟨p, 0, none⟩), cmdV x] H K
theorem two_of {b : Nat} {x y : Int} (hb : b < H.next) (hg : H.get b = some (.cells [.int .i64 x, .int .i64 y] false)) : SlR H 1 (.slice (some ⟨b, 0, none⟩) 2 2) ([x, y].map rowI) := (tight_of (l := [x, y]) hb hg (by simp)).1
theorem one_of' {b : Nat} {x : Int} (hb : b < H.next) (hg : H.get b = some (.cells [.int .i64 x] false)) : SlR H 1 (.slice (some ⟨b, 0, none⟩) 1 1) ([x].map rowI) := (tight_of (l := [x]) hb hg (by simp)).1
theorem nil_of (H : IHeap) : SlR H 1 (.slice none 0 0) (([] : List Int).map rowI) := (SlW.nil H 1).1

include hc in
theorem cBegin : CmdOk c (c.F n_manager_Manager_begin) mBegin := by
  intro H K w p n q S x h hb hn hx hK
  refine c.enter hc.mg.manager_Manager_begin rfl ?_
  have hlp := h.lp
  have hne : p ≠ H.next := by omega
  have he := hb.e
  obtain ⟨HA, hHA⟩ : ∃ X : IHeap, X = H.alloc (.cells (cmdL x) false) := ⟨_, rfl⟩
  have ka : H.le HA := by rw [hHA]; exact H.le_alloc _
  have na : HA.next = H.next + 1 := by rw [hHA]; rfl
  have ga : HA.get H.next = some (.cells [.int .i64 x.cl, .int .i64 x.sq, .int .i64 x.kd, .int .i64 x.a, .int .i64 x.b, .int .i64 x.c, .int .i64 x.d, .int .i64 x.e] false) := by rw [hHA, YV, if_pos rfl]; rfl
  have hA := h.le ka
  have g := hA.gets
  unfold cmdL at hHA
  simp -implicitDefEqProofs [c_manager_Manager_begin, cmdV, ← hHA, g, ga]
  refine dcall_of c.mono (gEpoch c hc hA.g ?_)
  simp -implicitDefEqProofs [g, ga]
  refine dcall_of c.mono (gServers c hc hA.g fun v H1 k1 s1 => ?_)
  have h1 := hA.le k1
  have g1 := h1.gets
  have ga1 := (k1.get _ (by omega)).trans ga
  simp -implicitDefEqProofs [g1, ga1]
  refine dcall_of c.mono (sBegin c hc h1.s s1 (by have := h1.g.ok.eight; omega) (by omega) fun H2 f2 i2 => ?_)
  have h2 := h1.to_s f2 i2
  have g2 := h2.gets
  have st := (Sg.le (w := w) (ka.trans k1)).trans (Sg.nw (by decide) f2)
  simp -implicitDefEqProofs [g2]
  refine call_of (gEpoch c hc h2.g ?_)
  simp -implicitDefEqProofs []
  have k3 := H2.le_alloc (.cells [.int .i64 (mBegin S x).2.1.head!, .int .i64 S.g.e] false)
  exact hK _ _ _ (st.trans (Sg.le k3)) (h2.le k3) (two_of (by simp [YX]) (by rw [YV, if_pos rfl]))
end
end Go.Proofs.YtndndcdblfejnaaGreatRI
namespace Go.Proofs.YtndndcdblfejnaaGreatRI
attribute [local simp] J0 J1 J2 J3 J4 J5 J6 J7 J8 J9 Ja Jb Jc Jd Je Jf Jg Jh Ji Jj Jk Jl Jm Jn Jo Jp Jq Jr Js Jt Ju Jv Jw Jx Jy Jz JA JB JC JD JE JF JG JH JI JJ JK JL JM JN JO JP JQ JR JS stillI IOp.kind JT JU JV JW JX JY JZ Y0 Y1 Y2 Y3 Y4 Y5 Y6 Y7 Y8 Y9 Ya Yb Yc Yd Ye Yf Yg Yh Yi Yj Yk Yl Ym Yn Yo Yp Yq ial Yr Ys Yt Yu Yv Yw Yx Yy ires iresL ires1 Yz YA YB YC YD YE bin2 YF YG YH YI YJ YK YL YM YN YO YP YQ YR YS YT YU un1 shOk eqL eq1 fillL putAt IHeap.load1 IHeap.loadL IHeap.storeL YV YW YX YY YZ B0 B1 B2 B3 B4 B5 B6 B7 B8 B9 Ba Bb Bc Bd Be Bf Bg Bh Bi Bj Bk Bl Bm Bn Bo Bp
set_option linter.unusedSimpArgs false
set_option linter.unusedVariables false
open Go

section
variable (c : Ctx) (hc : MgC c)

theorem MgO.set {H : IHeap} {w : Nat → Nat} {p b : Nat} {q : Pts} {S : Mst} (h : MgO w H p q S) (hb : w b = 0) (o : IObj) : MgO w (H.set b o) p q S := by
  have f : Fr (fun x => x = b) H (H.set b o) := ((IHeap.le_refl H).fr (fun x => x = b)).set (i := b) (.inl rfl) _
  have hp : p ≠ b := fun e => by have := h.own; rw [e, hb] at this; cases this
  have d : ∀ k : Nat, k ≠ 0 → ∀ x, w x = k → ¬ x = b := fun k hk x hx e => by rw [e, hb] at hx; exact hk hx.symm
  exact ⟨h.lt, h.own, by rw [YW, if_neg hp]; exact h.get, h.g.fr f (d 2 (by decide)), h.s.fr f (d 3 (by decide)), h.i.fr f (d 4 (by decide)), h.u.fr f (d 5 (by decide)), h.l.fr f (d 6 (by decide)), h.r.fr f (d 7 (by decide))⟩
theorem Sg.set {H H1 : IHeap} {w w1 : Nat → Nat} {b : Nat} (h : Sg w H w1 H1) (hb : H.next ≤ b) (o : IObj) : Sg w H w1 (H1.set b o) := ⟨h.fr.set (.inr hb) o, h.gw⟩
theorem MgO.zero {H : IHeap} {w : Nat → Nat} {p b : Nat} {q : Pts} {S : Mst} (h : MgO w H p q S) (hb : H.next ≤ b) : w b = 0 := Classical.byContradiction fun z => by have := h.lt b z; omega
theorem cmd_box {H : IHeap} {w : Nat → Nat} {p : Nat} {q : Pts} {S : Mst} (h : MgO w H p q S) (x : Cmd) : ∃ HA : IHeap, HA = H.alloc (.cells [.int .i64 x.cl, .int .i64 x.sq, .int .i64 x.kd, .int .i64 x.a, .int .i64 x.b, .int .i64 x.c, .int .i64 x.d, .int .i64 x.e] false) ∧ H.le HA ∧ HA.next = H.next + 1 ∧
    HA.get H.next = some (.cells [.int .i64 x.cl, .int .i64 x.sq, .int .i64 x.kd, .int .i64 x.a, .int .i64 x.b, .int .i64 x.c, .int .i64 x.d, .int .i64 x.e] false) ∧ MgO w HA p q S ∧ p ≠ H.next := by
  have hlp := h.lp
  exact ⟨_, rfl, H.le_alloc _, rfl, by rw [YV, if_pos rfl], h.le (H.le_alloc _), by omega⟩

include hc in
theorem cFree : CmdOk c (c.F n_manager_Manager_free) mFree := by
  intro H K w p n q S x h hb hn hx hK
  refine c.enter hc.mg.manager_Manager_free rfl ?_
  obtain ⟨HA, hHA, ka, na, ga, hA, hne⟩ := cmd_box h x
  have g := hA.gets
  unfold mFree at hK
  simp -implicitDefEqProofs [c_manager_Manager_free, cmdV, ← hHA, g, ga]
  refine dcall_of c.mono (sFree c hc hA.s fun H1 f1 i1 => ?_)
  have h1 := hA.to_s f1 i1
  have g1 := h1.gets
  have ga1 := (f1.get H.next (by omega) (fun e => by have e : w H.next = 3 := e; have := h.lt H.next (by rw [e]; decide); omega)).trans ga
  have s1 := (Sg.le (w := w) ka).trans (Sg.nw (by decide) f1)
  by_cases h0 : (SFree S.s x.a).2 = 0
  · rw [if_pos h0] at hK
    simp -implicitDefEqProofs [g1, ga1, h0]
    refine dcall_of c.mono (uDrop c hc (L := S.u) h1.u (by have := hb.ul; omega) fun H2 f2 i2 => ?_)
    have h2 := h1.to_u f2 i2
    simp -implicitDefEqProofs [h0]
    rw [h0] at hK
    exact hK _ _ _ (s1.trans (Sg.nw (by decide) f2)) h2 (nil_of H2)
  · rw [if_neg h0] at hK
    simp -implicitDefEqProofs [g1, ga1, h0]
    exact hK _ _ _ s1 h1 (nil_of H1)

include hc in
theorem cClose : CmdOk c (c.F n_manager_Manager_close) mClose := by
  intro H K w p n q S x h hb hn hx hK
  refine c.enter hc.mg.manager_Manager_close rfl ?_
  obtain ⟨HA, hHA, ka, na, ga, hA, hne⟩ := cmd_box h x
  have g := hA.gets
  have he := hb.e
  unfold mClose at hK
  simp -implicitDefEqProofs [c_manager_Manager_close, cmdV, ← hHA, g, ga]
  refine dcall_of c.mono (gDone c hc hA.g (by omega) fun H1 f1 i1 => ?_)
  have h1 := hA.to_g f1 i1
  have g1 := h1.gets
  have s1 := (Sg.le (w := w) ka).trans (Sg.nw (by decide) f1)
  simp -implicitDefEqProofs [g1]
  refine call_of (gEpoch c hc h1.g ?_)
  simp -implicitDefEqProofs []
  have k3 := H1.le_alloc (.cells [.int .i64 (S.g.done x.a).1.e] false)
  exact hK _ _ _ (s1.trans (Sg.le k3)) (h1.le k3) (one_of' (by simp [YX]) (by rw [YV, if_pos rfl]))

include hc in
theorem cFail : CmdOk c (c.F n_manager_Manager_fail) mFail := by
  intro H K w p n q S x h hb hn hx hK
  refine c.enter hc.mg.manager_Manager_fail rfl ?_
  obtain ⟨HA, hHA, ka, na, ga, hA, hne⟩ := cmd_box h x
  have g := hA.gets
  have he := hb.e
  unfold mFail at hK
  simp -implicitDefEqProofs [c_manager_Manager_fail, cmdV, ← hHA, g, ga]
  refine dcall_of c.mono (gFail c hc hA.g (by omega) fun H1 f1 i1 => ?_)
  have h1 := hA.to_g f1 i1
  have g1 := h1.gets
  have ga1 := (f1.get H.next (by omega) (fun e => by have e : w H.next = 2 := e; have := h.lt H.next (by rw [e]; decide); omega)).trans ga
  have s1 := (Sg.le (w := w) ka).trans (Sg.nw (by decide) f1)
  by_cases h0 : (S.g.fail x.a x.b).2 = 0
  · rw [if_pos h0] at hK
    obtain ⟨s2, h2⟩ := h1.gone x.a
    obtain ⟨HG, hHG⟩ : ∃ X : IHeap, X = H1.set p (.cells (mgL q x.a) false) := ⟨_, rfl⟩
    rw [← hHG] at s2 h2
    have g2 := h2.gets
    unfold mgL ptV at hHG
    simp -implicitDefEqProofs [g1, ga1, h0, ← hHG, g2]
    refine call_of (gEpoch c hc h2.g ?_)
    simp -implicitDefEqProofs [h0]
    rw [h0] at hK
    have k3 := HG.le_alloc (.cells [.int .i64 (S.g.fail x.a x.b).1.e] false)
    exact hK _ _ _ ((s1.trans s2).trans (Sg.le k3)) (h2.le k3) (one_of' (by simp [YX]) (by rw [YV, if_pos rfl]))
  · rw [if_neg h0] at hK
    simp -implicitDefEqProofs [g1, ga1, h0]
    refine call_of (gEpoch c hc h1.g ?_)
    simp -implicitDefEqProofs []
    have k3 := H1.le_alloc (.cells [.int .i64 (S.g.fail x.a x.b).1.e] false)
    exact hK _ _ _ (s1.trans (Sg.le k3)) (h1.le k3) (one_of' (by simp [YX]) (by rw [YV, if_pos rfl]))

include hc in
theorem cDrop : CmdOk c (c.F n_manager_Manager_drop) mDrop := by
  intro H K w p n q S x h hb hn hx hK
  refine c.enter hc.mg.manager_Manager_drop rfl ?_
  obtain ⟨HA, hHA, ka, na, ga, hA, hne⟩ := cmd_box h x
  have g := hA.gets
  unfold mDrop at hK
  simp -implicitDefEqProofs [c_manager_Manager_drop, cmdV, ← hHA, g, ga]
  refine dcall_of c.mono (LeDrop_ok c hc.im hc.ki hA.l fun H1 f1 i1 => ?_)
  have h1 := hA.to_l f1 (i1.weak (fun b hb => .inl hb) (Gw.lt (fun b hb => hA.lt b (by rw [hb]; decide)) f1.next))
  have s1 := (Sg.le (w := w) ka).trans (Sg.nw (by decide) f1)
  simp -implicitDefEqProofs []
  exact hK _ _ _ s1 h1 (nil_of H1)

include hc in
theorem cGrant : CmdOk c (c.F n_manager_Manager_grant) mGrant := by
  intro H K w p n q S x h hb hn hx hK
  refine c.enter hc.mg.manager_Manager_grant rfl ?_
  obtain ⟨HA, hHA, ka, na, ga, hA, hne⟩ := cmd_box h x
  have g := hA.gets
  unfold mGrant at hK
  have kb := HA.le_alloc (.cells [.int .i64 0, .int .i64 0, .int .i64 0, .int .i64 0] false)
  obtain ⟨HB, hHB⟩ : ∃ X : IHeap, X = HA.alloc (.cells [.int .i64 0, .int .i64 0, .int .i64 0, .int .i64 0] false) := ⟨_, rfl⟩
  rw [← hHB] at kb
  have nb : HB.next = H.next + 2 := by rw [hHB, YX]; omega
  have gb : HB.get (H.next + 1) = some (.cells [.int .i64 0, .int .i64 0, .int .i64 0, .int .i64 0] false) := by rw [hHB, YV, if_pos (by omega)]
  have hB := hA.le kb
  simp -implicitDefEqProofs [c_manager_Manager_grant, cmdV, ← hHA, g, ga, ← hHB, na]
  refine dcall_of c.mono (LeGrant_ok c hc.im hc.ki hB.l ⟨hb.lt.1, by have := hb.lt.2; omega⟩ (fun k y hy => ⟨(hb.lu k y hy).1, (hb.lu k y hy).2.1⟩) fun H1 f1 i1 => ?_)
  have h1 := hB.to_l f1 (i1.weak (fun b hb => .inl hb) (Gw.lt (fun b hb => hB.lt b (by rw [hb]; decide)) f1.next))
  have s1 := (Sg.le (w := w) (ka.trans kb)).trans (Sg.nw (by decide) f1)
  have gb1 := (f1.get (H.next + 1) (by omega) (fun e => by have e : w (H.next + 1) = 6 := e; have := h.lt (H.next + 1) (by rw [e]; decide); omega)).trans gb
  have n1 := f1.next
  obtain ⟨y, hy⟩ : ∃ y, y = (leGrant S.l x.a x.cl x.b x.c).2.1 := ⟨_, rfl⟩
  rw [← hy] at hK ⊢
  simp -implicitDefEqProofs [leaseV, gb1]
  have hw0 : nw w 6 HB H1 (H.next + 1) = 0 := by rw [nw_old (by omega)]; exact h.zero (by omega)
  have h2 := h1.set hw0 (.cells [.int .i64 y.ino, .int .i64 y.cl, .int .i64 y.un, .int .i64 y.tk] false)
  have s2 := s1.set (b := H.next + 1) (by omega) (.cells [.int .i64 y.ino, .int .i64 y.cl, .int .i64 y.un, .int .i64 y.tk] false)
  obtain ⟨H2, hH2⟩ : ∃ X : IHeap, X = H1.set (H.next + 1) (.cells [.int .i64 y.ino, .int .i64 y.cl, .int .i64 y.un, .int .i64 y.tk] false) := ⟨_, rfl⟩
  have n2 : H2.next = H1.next := by rw [hH2]; rfl
  rw [← hH2] at h2 s2 ⊢
  have k3 := H2.le_alloc (.cells [.int .i64 y.tk, .int .i64 y.un] false)
  have fin := hK _ _ (.slice (some ⟨H2.next, 0, none⟩) 2 2) (s2.trans (Sg.le k3)) (h2.le k3) (two_of (by simp [YX]) (by rw [YV, if_pos rfl]))
  rw [n2] at fin
  exact fin
end
end Go.Proofs.YtndndcdblfejnaaGreatRI
namespace Go.Proofs.YtndndcdblfejnaaGreatRI
attribute [local simp] J0 J1 J2 J3 J4 J5 J6 J7 J8 J9 Ja Jb Jc Jd Je Jf Jg Jh Ji Jj Jk Jl Jm Jn Jo Jp Jq Jr Js Jt Ju Jv Jw Jx Jy Jz JA JB JC JD JE JF JG JH JI JJ JK JL JM JN JO JP JQ JR JS stillI IOp.kind JT JU JV JW JX JY JZ Y0 Y1 Y2 Y3 Y4 Y5 Y6 Y7 Y8 Y9 Ya Yb Yc Yd Ye Yf Yg Yh Yi Yj Yk Yl Ym Yn Yo Yp Yq ial Yr Ys Yt Yu Yv Yw Yx Yy ires iresL ires1 Yz YA YB YC YD YE bin2 YF YG YH YI YJ YK YL YM YN YO YP YQ YR YS YT YU un1 shOk eqL eq1 fillL putAt IHeap.load1 IHeap.loadL IHeap.storeL YV YW YX YY YZ B0 B1 B2 B3 B4 B5 B6 B7 B8 B9 Ba Bb Bc Bd Be Bf Bg Bh Bi Bj Bk Bl Bm Bn Bo Bp
set_option linter.unusedSimpArgs false
set_option linter.unusedVariables false
open Go

section
variable (c : Ctx) (hc : MgC c)

include hc in
theorem cCommit : CmdOk c (c.F n_manager_Manager_commit) mCommit := by
  intro H K w p n q S x h hb hn hx hK
  refine c.enter hc.mg.manager_Manager_commit rfl ?_
  obtain ⟨HA, hHA, ka, na, ga, hA, hne⟩ := cmd_box h x
  have g := hA.gets
  have kb := HA.le_alloc (.cells [.int .i64 0, .int .i64 0, .int .i64 0, .int .i64 0, .int .i64 0, .slice none 0 0] false)
  obtain ⟨HB, hHB⟩ : ∃ X : IHeap, X = HA.alloc (.cells [.int .i64 0, .int .i64 0, .int .i64 0, .int .i64 0, .int .i64 0, .slice none 0 0] false) := ⟨_, rfl⟩
  rw [← hHB] at kb
  have nb : HB.next = H.next + 2 := by rw [hHB, YX]; omega
  have gb : HB.get (H.next + 1) = some (.cells [.int .i64 0, .int .i64 0, .int .i64 0, .int .i64 0, .int .i64 0, .slice none 0 0] false) := by rw [hHB, YV, if_pos (by omega)]
  have hB := hA.le kb
  have gcB := (kb.get H.next (by omega)).trans ga
  simp -implicitDefEqProofs [c_manager_Manager_commit, cmdV, ← hHA, g, ga, ← hHB, na]
  refine dcall_of c.mono (sGet c hc (id := x.a) hB.s (fun hg H1 k1 => ?_) fun y v H1 hg k1 sv far => ?_)
  · have h1 := hB.le k1
    have g1 := h1.gets
    have gb1 := (k1.get _ (by omega)).trans gb
    have n1 := k1.next
    have hne2 : p ≠ H.next + 1 := by have := h.lp; omega
    have gc1 := (k1.get _ (by omega)).trans gcB
    obtain ⟨H2, hH2⟩ : ∃ X : IHeap, X = H1.set (H.next + 1) (.cells [.int .i64 0, .int .i64 0, .int .i64 0, .int .i64 0, .int .i64 0, .slice none 0 0] false) := ⟨_, rfl⟩
    have n2 : H2.next = H1.next := by rw [hH2]; rfl
    have h2 : MgO w H2 p q S := by rw [hH2]; exact h1.set (h.zero (by omega)) _
    have s2 : Sg w H w H2 := by rw [hH2]; exact (Sg.le ((ka.trans kb).trans k1)).set (by omega) _
    have g2 := h2.gets
    have gc2 : H2.get H.next = some (.cells [.int .i64 x.cl, .int .i64 x.sq, .int .i64 x.kd, .int .i64 x.a, .int .i64 x.b, .int .i64 x.c, .int .i64 x.d, .int .i64 x.e] false) := by rw [hH2, YW, if_neg (by omega)]; exact gc1
    have e0 : SCommit S.s x.a x.cl = (S.s, 7) := by unfold SCommit; rw [hg]
    have hfe : fenced S x = false := by unfold fenced; rw [hg]
    unfold mCommit at hK
    rw [if_neg (by rw [hfe]; simp), e0] at hK
    rw [if_neg (by simp)] at hK
    unfold stV
    simp -implicitDefEqProofs [gb1, gc1, g1, ← hH2, g2, gc2]
    refine dcall_of c.mono (sCommit c hc h2.s fun H3 f3 i3 => ?_)
    have h3 := h2.to_s f3 i3
    rw [e0] at h3 ⊢
    simp -implicitDefEqProofs []
    exact hK _ _ _ (s2.trans (Sg.nw (by decide) f3)) h3 (nil_of H3)
  · obtain ⟨j, hj⟩ : ∃ j : Nat, x.a = j := ⟨x.a.toNat, by have := (getS_some hg).1; omega⟩
    have h1 := hB.le k1
    have g1 := h1.gets
    have gb1 := (k1.get _ (by omega)).trans gb
    have n1 := k1.next
    have hne2 : p ≠ H.next + 1 := by have := h.lp; omega
    have gc1 := (k1.get _ (by omega)).trans gcB
    obtain ⟨a, cap, rfl⟩ := sv.len
    obtain ⟨H2, hH2⟩ : ∃ X : IHeap, X = H1.set (H.next + 1) (.cells [.int .i64 x.a, .int .i64 y.st, .int .i64 y.ow, .int .i64 y.ep, .int .i64 y.le, .slice a (y.sv.map rowI).length cap] false) := ⟨_, rfl⟩
    have n2 : H2.next = H1.next := by rw [hH2]; rfl
    have h2 : MgO w H2 p q S := by rw [hH2]; exact h1.set (h.zero (by omega)) _
    have s2 : Sg w H w H2 := by rw [hH2]; exact (Sg.le ((ka.trans kb).trans k1)).set (by omega) _
    have g2 := h2.gets
    have gc2 : H2.get H.next = some (.cells [.int .i64 x.cl, .int .i64 x.sq, .int .i64 x.kd, .int .i64 x.a, .int .i64 x.b, .int .i64 x.c, .int .i64 x.d, .int .i64 x.e] false) := by rw [hH2, YW, if_neg (by omega)]; exact gc1
    have gs2 : H2.get (H.next + 1) = some (.cells [.int .i64 x.a, .int .i64 y.st, .int .i64 y.ow, .int .i64 y.ep, .int .i64 y.le, .slice a (y.sv.map rowI).length cap] false) := by rw [hH2, YW, if_pos rfl]
    have hle : lenS S x.a = y.le := by unfold lenS; rw [hg]
    have hfe : fenced S x = (decide (y.st = 1) && (decide (y.ow = x.cl) && decide (y.ep ≠ S.g.e))) := by unfold fenced; rw [hg]
    unfold mCommit at hK
    rw [hle] at hK
    have etn : ((x.a.toNat : Nat) : Int) = x.a := by omega
    unfold stV
    rw [etn]
    obtain ⟨sl, hsl⟩ : ∃ sl, sl = (y.sv.map rowI).length := ⟨_, rfl⟩
    rw [← hsl] at gs2 hH2 ⊢
    simp -implicitDefEqProofs [gb1, gc1, g1, hne2, ← hH2, g2, gc2, gs2]
    by_cases b1 : y.st = 1
    · by_cases b2 : y.ow = x.cl
      · by_cases b3 : y.ep = S.g.e
        · rw [if_neg (by rw [hfe]; simp [b3])] at hK
          simp -implicitDefEqProofs [b1, b2, gs2, g2, gc2]
          refine dcall_of c.mono (gEpoch c hc h2.g ?_)
          simp -implicitDefEqProofs [gs2, b3, g2, gc2]
          refine dcall_of c.mono (sCommit c hc h2.s fun H3 f3 i3 => ?_)
          have h3 := h2.to_s f3 i3
          have g3 := h3.gets
          have gc3 := (f3.get H.next (by omega) (fun e => by have e : w H.next = 3 := e; have := h.lt H.next (by rw [e]; decide); omega)).trans gc2
          have gs3 := (f3.get (H.next + 1) (by omega) (fun e => by have e : w (H.next + 1) = 3 := e; have := h.lt (H.next + 1) (by rw [e]; decide); omega)).trans gs2
          have s3 := s2.trans (Sg.nw (by decide) f3)
          by_cases c0 : (SCommit S.s x.a x.cl).2 = 0
          · by_cases c1 : 0 < y.le
            · rw [if_pos ⟨c0, c1⟩] at hK
              simp -implicitDefEqProofs [c0, gs3, gc3, c1, g3]
              refine dcall_of c.mono (uAdd c hc (L := S.u) (x := ⟨x.a, y.le, y.le, 0⟩) h3.u (by have := hb.ul; omega) fun H4 f4 i4 => ?_)
              have h4 := h3.to_u f4 i4
              simp -implicitDefEqProofs [c0]
              rw [c0] at hK
              exact hK _ _ _ (s3.trans (Sg.nw (by decide) f4)) h4 (nil_of H4)
            · rw [if_neg (fun z => c1 z.2)] at hK
              simp -implicitDefEqProofs [c0, gs3, gc3, c1, g3]
              rw [c0] at hK
              exact hK _ _ _ s3 h3 (nil_of H3)
          · rw [if_neg (fun z => c0 z.1)] at hK
            simp -implicitDefEqProofs [c0, gs3, gc3, g3]
            exact hK _ _ _ s3 h3 (nil_of H3)
        · rw [if_pos (by rw [hfe]; simp [b1, b2, b3])] at hK
          simp -implicitDefEqProofs [b1, b2, gs2, g2, gc2]
          refine dcall_of c.mono (gEpoch c hc h2.g ?_)
          simp -implicitDefEqProofs [gs2, b3]
          exact hK _ _ _ s2 h2 (nil_of H2)
      · rw [if_neg (by rw [hfe]; simp [b2])] at hK
        simp -implicitDefEqProofs [b1, b2, gs2, g2, gc2]
        refine dcall_of c.mono (sCommit c hc h2.s fun H3 f3 i3 => ?_)
        have h3 := h2.to_s f3 i3
        have g3 := h3.gets
        have gc3 := (f3.get H.next (by omega) (fun e => by have e : w H.next = 3 := e; have := h.lt H.next (by rw [e]; decide); omega)).trans gc2
        have gs3 := (f3.get (H.next + 1) (by omega) (fun e => by have e : w (H.next + 1) = 3 := e; have := h.lt (H.next + 1) (by rw [e]; decide); omega)).trans gs2
        have s3 := s2.trans (Sg.nw (by decide) f3)
        by_cases c0 : (SCommit S.s x.a x.cl).2 = 0
        · by_cases c1 : 0 < y.le
          · rw [if_pos ⟨c0, c1⟩] at hK
            simp -implicitDefEqProofs [c0, gs3, gc3, c1, g3]
            refine dcall_of c.mono (uAdd c hc (L := S.u) (x := ⟨x.a, y.le, y.le, 0⟩) h3.u (by have := hb.ul; omega) fun H4 f4 i4 => ?_)
            have h4 := h3.to_u f4 i4
            simp -implicitDefEqProofs [c0]
            rw [c0] at hK
            exact hK _ _ _ (s3.trans (Sg.nw (by decide) f4)) h4 (nil_of H4)
          · rw [if_neg (fun z => c1 z.2)] at hK
            simp -implicitDefEqProofs [c0, gs3, gc3, c1, g3]
            rw [c0] at hK
            exact hK _ _ _ s3 h3 (nil_of H3)
        · rw [if_neg (fun z => c0 z.1)] at hK
          simp -implicitDefEqProofs [c0, gs3, gc3, g3]
          exact hK _ _ _ s3 h3 (nil_of H3)
    · rw [if_neg (by rw [hfe]; simp [b1])] at hK
      simp -implicitDefEqProofs [b1, gs2, g2, gc2]
      refine dcall_of c.mono (sCommit c hc h2.s fun H3 f3 i3 => ?_)
      have h3 := h2.to_s f3 i3
      have g3 := h3.gets
      have gc3 := (f3.get H.next (by omega) (fun e => by have e : w H.next = 3 := e; have := h.lt H.next (by rw [e]; decide); omega)).trans gc2
      have gs3 := (f3.get (H.next + 1) (by omega) (fun e => by have e : w (H.next + 1) = 3 := e; have := h.lt (H.next + 1) (by rw [e]; decide); omega)).trans gs2
      have s3 := s2.trans (Sg.nw (by decide) f3)
      by_cases c0 : (SCommit S.s x.a x.cl).2 = 0
      · by_cases c1 : 0 < y.le
        · rw [if_pos ⟨c0, c1⟩] at hK
          simp -implicitDefEqProofs [c0, gs3, gc3, c1, g3]
          refine dcall_of c.mono (uAdd c hc (L := S.u) (x := ⟨x.a, y.le, y.le, 0⟩) h3.u (by have := hb.ul; omega) fun H4 f4 i4 => ?_)
          have h4 := h3.to_u f4 i4
          simp -implicitDefEqProofs [c0]
          rw [c0] at hK
          exact hK _ _ _ (s3.trans (Sg.nw (by decide) f4)) h4 (nil_of H4)
        · rw [if_neg (fun z => c1 z.2)] at hK
          simp -implicitDefEqProofs [c0, gs3, gc3, c1, g3]
          rw [c0] at hK
          exact hK _ _ _ s3 h3 (nil_of H3)
      · rw [if_neg (fun z => c0 z.1)] at hK
        simp -implicitDefEqProofs [c0, gs3, gc3, g3]
        exact hK _ _ _ s3 h3 (nil_of H3)
end
end Go.Proofs.YtndndcdblfejnaaGreatRI
namespace Go.Proofs.YtndndcdblfejnaaGreatRI
attribute [local simp] J0 J1 J2 J3 J4 J5 J6 J7 J8 J9 Ja Jb Jc Jd Je Jf Jg Jh Ji Jj Jk Jl Jm Jn Jo Jp Jq Jr Js Jt Ju Jv Jw Jx Jy Jz JA JB JC JD JE JF JG JH JI JJ JK JL JM JN JO JP JQ JR JS stillI IOp.kind JT JU JV JW JX JY JZ Y0 Y1 Y2 Y3 Y4 Y5 Y6 Y7 Y8 Y9 Ya Yb Yc Yd Ye Yf Yg Yh Yi Yj Yk Yl Ym Yn Yo Yp Yq ial Yr Ys Yt Yu Yv Yw Yx Yy ires iresL ires1 Yz YA YB YC YD YE bin2 YF YG YH YI YJ YK YL YM YN YO YP YQ YR YS YT YU un1 shOk eqL eq1 fillL putAt IHeap.load1 IHeap.loadL IHeap.storeL YV YW YX YY YZ B0 B1 B2 B3 B4 B5 B6 B7 B8 B9 Ba Bb Bc Bd Be Bf Bg Bh Bi Bj Bk Bl Bm Bn Bo Bp
set_option linter.unusedSimpArgs false
set_option linter.unusedVariables false
open Go

section
variable (c : Ctx) (hc : MgC c)

include hc in
theorem cMove : CmdOk c (c.F n_manager_Manager_move) mMove := by
  intro H K w p n q S x h hb hn hx hK
  refine c.enter hc.mg.manager_Manager_move rfl ?_
  obtain ⟨HA, hHA, ka, na, ga, hA, hne⟩ := cmd_box h x
  have g := hA.gets
  have kb := HA.le_alloc (.cells [.int .i64 0, .int .i64 0, .int .i64 0, .int .i64 0, .int .i64 0, .slice none 0 0] false)
  obtain ⟨HB, hHB⟩ : ∃ X : IHeap, X = HA.alloc (.cells [.int .i64 0, .int .i64 0, .int .i64 0, .int .i64 0, .int .i64 0, .slice none 0 0] false) := ⟨_, rfl⟩
  rw [← hHB] at kb
  have nb : HB.next = H.next + 2 := by rw [hHB, YX]; omega
  have gb : HB.get (H.next + 1) = some (.cells [.int .i64 0, .int .i64 0, .int .i64 0, .int .i64 0, .int .i64 0, .slice none 0 0] false) := by rw [hHB, YV, if_pos (by omega)]
  have hB := hA.le kb
  have gcB := (kb.get H.next (by omega)).trans ga
  unfold mMove at hK
  simp -implicitDefEqProofs [c_manager_Manager_move, cmdV, ← hHA, g, ga, ← hHB, na]
  refine dcall_of c.mono (sGet c hc (id := x.c) hB.s (fun hg H1 k1 => ?_) fun y v H1 hg k1 sv far => ?_)
  · have h1 := hB.le k1
    have g1 := h1.gets
    have gb1 := (k1.get _ (by omega)).trans gb
    have n1 := k1.next
    have gc1 := (k1.get _ (by omega)).trans gcB
    obtain ⟨H2, hH2⟩ : ∃ X : IHeap, X = H1.set (H.next + 1) (.cells [.int .i64 0, .int .i64 0, .int .i64 0, .int .i64 0, .int .i64 0, .slice none 0 0] false) := ⟨_, rfl⟩
    have n2 : H2.next = H1.next := by rw [hH2]; rfl
    have h2 : MgO w H2 p q S := by rw [hH2]; exact h1.set (h.zero (by omega)) _
    have s2 : Sg w H w H2 := by rw [hH2]; exact (Sg.le ((ka.trans kb).trans k1)).set (by omega) _
    have g2 := h2.gets
    have gc2 : H2.get H.next = some (.cells [.int .i64 x.cl, .int .i64 x.sq, .int .i64 x.kd, .int .i64 x.a, .int .i64 x.b, .int .i64 x.c, .int .i64 x.d, .int .i64 x.e] false) := by rw [hH2, YW, if_neg (by omega)]; exact gc1
    have gs2 : H2.get (H.next + 1) = some (.cells [.int .i64 0, .int .i64 0, .int .i64 0, .int .i64 0, .int .i64 0, .slice none 0 0] false) := by rw [hH2, YW, if_pos rfl]
    have e0 : isCom S x.c = false := by unfold isCom; rw [hg]
    unfold stV
    simp -implicitDefEqProofs [gb1, ← hH2, g2, gc2, gs2, -J5]
    by_cases d1 : x.d < 0
    · rw [if_pos (.inl d1)] at hK
      simp -implicitDefEqProofs [gc2, gs2, d1]
      exact hK _ _ _ s2 h2 (nil_of H2)
    by_cases d2 : x.e < 0
    · rw [if_pos (.inr (.inl d2))] at hK
      simp -implicitDefEqProofs [gc2, gs2, d1, d2]
      exact hK _ _ _ s2 h2 (nil_of H2)
    · rw [if_neg (by rintro (z | z | z); exact d1 z; exact d2 z; rw [e0] at z; cases z.1), if_pos e0] at hK
      simp -implicitDefEqProofs [gc2, gs2, d1, d2]
      exact hK _ _ _ s2 h2 (nil_of H2)
  · obtain ⟨j, hj⟩ : ∃ j : Nat, x.c = j := ⟨x.c.toNat, by have := (getS_some hg).1; omega⟩
    have h1 := hB.le k1
    have g1 := h1.gets
    have gb1 := (k1.get _ (by omega)).trans gb
    have n1 := k1.next
    have hne2 : p ≠ H.next + 1 := by have := h.lp; omega
    have gc1 := (k1.get _ (by omega)).trans gcB
    obtain ⟨a, cap, rfl⟩ := sv.len
    obtain ⟨sl, hsl⟩ : ∃ sl, sl = (y.sv.map rowI).length := ⟨_, rfl⟩
    rw [← hsl]
    obtain ⟨H2, hH2⟩ : ∃ X : IHeap, X = H1.set (H.next + 1) (.cells [.int .i64 x.c, .int .i64 y.st, .int .i64 y.ow, .int .i64 y.ep, .int .i64 y.le, .slice a sl cap] false) := ⟨_, rfl⟩
    have n2 : H2.next = H1.next := by rw [hH2]; rfl
    have h2 : MgO w H2 p q S := by rw [hH2]; exact h1.set (h.zero (by omega)) _
    have s2 : Sg w H w H2 := by rw [hH2]; exact (Sg.le ((ka.trans kb).trans k1)).set (by omega) _
    have g2 := h2.gets
    have gc2 : H2.get H.next = some (.cells [.int .i64 x.cl, .int .i64 x.sq, .int .i64 x.kd, .int .i64 x.a, .int .i64 x.b, .int .i64 x.c, .int .i64 x.d, .int .i64 x.e] false) := by rw [hH2, YW, if_neg (by omega)]; exact gc1
    have gs2 : H2.get (H.next + 1) = some (.cells [.int .i64 x.c, .int .i64 y.st, .int .i64 y.ow, .int .i64 y.ep, .int .i64 y.le, .slice a sl cap] false) := by rw [hH2, YW, if_pos rfl]
    have hle : lenS S x.c = y.le := by unfold lenS; rw [hg]
    have hco : isCom S x.c = decide (y.st = 2) := by unfold isCom; rw [hg]
    have hyo := (StB.len c hc h.s).2 y (List.mem_of_getElem? (getS_some hg).2.2)
    have hym := St.may_iff.1 hyo.may
    rw [hle, hco] at hK
    have etn : ((x.c.toNat : Nat) : Int) = x.c := by omega
    unfold stV
    rw [etn]
    simp -implicitDefEqProofs [gb1, gc1, g1, hne2, ← hH2, g2, gc2, gs2, -J5]
    by_cases d1 : x.d < 0
    · rw [if_pos (.inl d1)] at hK
      simp -implicitDefEqProofs [gc2, gs2, d1]
      exact hK _ _ _ s2 h2 (nil_of H2)
    by_cases d2 : x.e < 0
    · rw [if_pos (.inr (.inl d2))] at hK
      simp -implicitDefEqProofs [gc2, gs2, d1, d2]
      exact hK _ _ _ s2 h2 (nil_of H2)
    by_cases d3 : y.st = 2
    · have hxd := hx.d
      have hw : IntKind.i64.wrap (y.le - x.d) = y.le - x.d := wrap64 (by unfold okI at hxd; omega) (by unfold okI at hxd; omega)
      by_cases d4 : y.le < x.d
      · rw [if_pos (.inr (.inr ⟨by simp [d3], .inl d4⟩))] at hK
        simp -implicitDefEqProofs [gc2, gs2, d1, d2, d3, d4]
        exact hK _ _ _ s2 h2 (nil_of H2)
      by_cases d5 : y.le - x.d < x.e
      · rw [if_pos (.inr (.inr ⟨by simp [d3], .inr d5⟩))] at hK
        simp -implicitDefEqProofs [gc2, gs2, d1, d2, d3, d4, hw, d5]
        exact hK _ _ _ s2 h2 (nil_of H2)
      rw [if_neg (by rintro (z | z | z); exact d1 z; exact d2 z; rcases z.2 with z | z; exact d4 z; exact d5 z), if_neg (by simp [d3])] at hK
      have kd := H2.le_alloc (.cells [.int .i64 0, .int .i64 0, .int .i64 0, .int .i64 0] false)
      obtain ⟨HD, hHD⟩ : ∃ X : IHeap, X = H2.alloc (.cells [.int .i64 0, .int .i64 0, .int .i64 0, .int .i64 0] false) := ⟨_, rfl⟩
      rw [← hHD] at kd
      have nd : HD.next = H2.next + 1 := by rw [hHD]; rfl
      have gd : HD.get H2.next = some (.cells [.int .i64 0, .int .i64 0, .int .i64 0, .int .i64 0] false) := by rw [hHD, YV, if_pos rfl]
      have hD := h2.le kd
      have hp2 := h2.lp
      simp -implicitDefEqProofs [gc2, gs2, d1, d2, d3, d4, hw, d5, g2, ← hHD]
      refine dcall_of c.mono (IGet_ok c hc.im (i := x.a) hD.i fun H3 k3 => ?_)
      have h3 := hD.le k3
      have n3 := k3.next
      have gd3 := (k3.get H2.next (by omega)).trans gd
      have gc3 := ((kd.trans k3).get H.next (by omega)).trans gc2
      obtain ⟨z, hz⟩ : ∃ z, z = imGet S.i x.a := ⟨_, rfl⟩
      rw [← hz] at hK ⊢
      obtain ⟨H4, hH4⟩ : ∃ X : IHeap, X = H3.set H2.next (.cells [.int .i64 z.1.seg, .int .i64 z.1.fr, .int .i64 z.1.le, .int .i64 z.1.ver] false) := ⟨_, rfl⟩
      have n4 : H4.next = H3.next := by rw [hH4]; rfl
      have h4 : MgO w H4 p q S := by rw [hH4]; exact h3.set (h.zero (by omega)) _
      have s4 : Sg w H w H4 := by rw [hH4]; exact (s2.trans (Sg.le (kd.trans k3))).set (by omega) _
      have g4 := h4.gets
      have gc4 : H4.get H.next = some (.cells [.int .i64 x.cl, .int .i64 x.sq, .int .i64 x.kd, .int .i64 x.a, .int .i64 x.b, .int .i64 x.c, .int .i64 x.d, .int .i64 x.e] false) := by rw [hH4, YW, if_neg (by omega)]; exact gc3
      have gz4 : H4.get H2.next = some (.cells [.int .i64 z.1.seg, .int .i64 z.1.fr, .int .i64 z.1.le, .int .i64 z.1.ver] false) := by rw [hH4, YW, if_pos rfl]
      unfold spotV
      simp -implicitDefEqProofs [gd3, ← hH4, g4, gc4]
      refine dcall_of c.mono (IMove_ok c hc.im (i := x.a) (v := x.b) (x := ⟨x.c, x.d, x.e, 0⟩) h4.i (fun k => ⟨(hb.i k).1, by have := (hb.i k).2; omega⟩) fun H5 f5 i5 => ?_)
      have h5 := h4.to_i f5 (i5.weak (fun b hb => .inl hb) (Gw.lt (fun b hb => h4.lt b (by rw [hb]; decide)) f5.next))
      have s5 := s4.trans (Sg.nw (by decide) f5)
      have g5 := h5.gets
      have n5 := f5.next
      have gz5 := (f5.get H2.next (by omega) (fun e => by have e : w H2.next = 4 := e; rw [h.zero (by omega)] at e; cases e)).trans gz4
      obtain ⟨t, ht⟩ : ∃ t, t = imMove S.i x.a x.b ⟨x.c, x.d, x.e, 0⟩ := ⟨_, rfl⟩
      rw [← ht] at hK h5 ⊢
      simp -implicitDefEqProofs []
      by_cases t0 : t.2.2 = 0
      · by_cases t1 : z.2 = true
        · rw [if_pos ⟨t0, t1⟩] at hK
          simp -implicitDefEqProofs [t0, t1, g5, gz5]
          refine dcall_of c.mono (uDead c hc (L := S.u) h5.u (by have := hb.ul; omega) hb.uo fun H6 f6 i6 => ?_)
          have h6 := h5.to_u f6 i6
          simp -implicitDefEqProofs [t0]
          rw [t0] at hK
          have k7 := H6.le_alloc (.cells [.int .i64 t.2.1] false)
          exact hK _ _ _ ((s5.trans (Sg.nw (by decide) f6)).trans (Sg.le k7)) (h6.le k7) (one_of' (by simp [YX]) (by rw [YV, if_pos rfl]))
        · rw [if_neg (fun e => t1 e.2)] at hK
          have t1' : z.2 = false := by simpa using t1
          simp -implicitDefEqProofs [t0, t1', g5, gz5]
          rw [t0] at hK
          have k7 := H5.le_alloc (.cells [.int .i64 t.2.1] false)
          exact hK _ _ _ (s5.trans (Sg.le k7)) (h5.le k7) (one_of' (by simp [YX]) (by rw [YV, if_pos rfl]))
      · rw [if_neg (fun e => t0 e.1)] at hK
        simp -implicitDefEqProofs [t0, g5, gz5]
        have k7 := H5.le_alloc (.cells [.int .i64 t.2.1] false)
        exact hK _ _ _ (s5.trans (Sg.le k7)) (h5.le k7) (one_of' (by simp [YX]) (by rw [YV, if_pos rfl]))
    · rw [if_neg (by rintro (z | z | z); exact d1 z; exact d2 z; exact d3 (by simpa using z.1)), if_pos (by simp [d3])] at hK
      simp -implicitDefEqProofs [gc2, gs2, d1, d2, d3]
      exact hK _ _ _ s2 h2 (nil_of H2)
end
end Go.Proofs.YtndndcdblfejnaaGreatRI
