/- Managers: one that is none; bytes. -/
import Derived.Test.YtndndcdblfejnaaGreatRMgV
namespace Go.Proofs.YtndndcdblfejnaaGreatRI
attribute [local simp] J0 J1 J2 J3 J4 J5 J6 J7 J8 J9 Ja Jb Jc Jd Je Jf Jg Jh Ji Jj Jk Jl Jm Jn Jo Jp Jq Jr Js Jt Ju Jv Jw Jx Jy Jz JA JB JC JD JE JF JG JH JI JJ JK JL JM JN JO JP JQ JR JS stillI IOp.kind JT JU JV JW JX JY JZ Y0 Y1 Y2 Y3 Y4 Y5 Y6 Y7 Y8 Y9 Ya Yb Yc Yd Ye Yf Yg Yh Yi Yj Yk Yl Ym Yn Yo Yp Yq ial Yr Ys Yt Yu Yv Yw Yx Yy ires iresL ires1 Yz YA YB YC YD YE bin2 YF YG YH YI YJ YK YL YM YN YO YP YQ YR YS YT YU un1 shOk eqL eq1 fillL putAt IHeap.load1 IHeap.loadL IHeap.storeL YV YW YX YY YZ B0 B1 B2 B3 B4 B5 B6 B7 B8 B9 Ba Bb Bc Bd Be Bf Bg Bh Bi Bj Bk Bl Bm Bn Bo Bp
set_option linter.unusedSimpArgs false
set_option linter.unusedVariables false
open Go

theorem takeMany_len {α : Type} (one : Rd → Rd × α) : ∀ (k : Nat) (acc : List α) (r : Rd), (takeMany one k acc r).2.length ≤ acc.length + k
  | 0, acc, r => by simp [takeMany]
  | k + 1, acc, r => by
    rw [takeMany]
    split
    · simp
    · rename_i s a _
      have := takeMany_len one k (acc ++ [a]) (some s)
      simp only [List.length_append, List.length_singleton] at this; omega
theorem takeList_len {α : Type} {one : Rd → Rd × α} {r : Rd} (h : (rdS r).length ≤ 1000000) : (takeList one r).2.length ≤ 1000000000 := by
  have h1 := takeInt_le h
  unfold takeList
  rcases hx : takeInt r with ⟨x, n⟩
  rw [hx] at h1
  cases x with
  | none => simp
  | some s =>
    simp only [rdS] at h1 ⊢
    split
    · simp
    · have := takeMany_len one n.toNat [] (some s)
      simp only [List.length_nil] at this; omega
section
variable (c : Ctx) (hc : MgC c) (h3 : HasRef03 c) (hL : HasLaw28 c) (h01 : HasRef01 c) (hA : ∀ H K, (∀ H', K (.bool true) H') → c.C (c.F n_hurdlelaw28_awake) [] H K) {H : IHeap} {K : Value → IHeap → Prop}

include hL h01 in
theorem RSame28 {i st ow ep le : Int} {sv : List Int} {u v : Value} (hu : SlR H 1 u (sv.map rowI)) (hv : SlR H 1 v (sv.map rowI)) (hl : sv.length ≤ 1000000) (hK : ∀ H', H.le H' → K (.bool true) H') :
    c.C (c.F n_hurdleref24_Same) [.agg #[.int .i64 i, .int .i64 st, .int .i64 ow, .int .i64 ep, .int .i64 le, u], .agg #[.int .i64 i, .int .i64 st, .int .i64 ow, .int .i64 ep, .int .i64 le, v]] H K := by
  refine c.enter hL.hurdleref24_Same rfl ?_
  have hu2 := hu
  have hv2 := hv
  obtain ⟨a1, c1, rfl, _⟩ := hu
  obtain ⟨a2, c2, rfl, _⟩ := hv
  simp only [List.length_map] at hu2 hv2 ⊢
  have kB : ∀ y z, H.le ((H.alloc y).alloc z) := fun y z => (H.le_alloc y).alloc z
  simp -implicitDefEqProofs [c_hurdleref24_Same]
  refine call_of (refInts01_ok c h01 (hu2.le (kB _ _)) (hv2.le (kB _ _)) (by omega) ?_)
  simp -implicitDefEqProofs []
  exact hK _ (kB _ _)
include hc in
theorem mgDo_none {s : Value} (hK : ∀ H', H.le H' → K (strV (ansB [] 1)) H') : c.C (c.F n_manager_Manager_Do) [.pointer none, s] H K := by
  refine c.enter hc.mg.manager_Manager_Do rfl ?_
  simp -implicitDefEqProofs [c_manager_Manager_Do, nilOf]
  refine call_of (answer_ok c hc.mg hc.cd (l := []) (nil_of _) (fun _ h => by cases h) (by simp) (by omega) fun H3 k3 => ?_)
  simp -implicitDefEqProofs []
  exact hK H3 k3
include hc in
theorem mgServers_none (hK : K (.slice none 0 0) H) : c.C (c.F n_manager_Manager_Servers) [.pointer none] H K := by
  refine c.enter hc.mg.manager_Manager_Servers rfl ?_
  simp -implicitDefEqProofs [c_manager_Manager_Servers, nilOf]
  exact hK
include hc in
theorem mgEpoch_none (hK : K (.int .i64 0) H) : c.C (c.F n_manager_Manager_Epoch) [.pointer none] H K := by
  refine c.enter hc.mg.manager_Manager_Epoch rfl ?_
  simp -implicitDefEqProofs [c_manager_Manager_Epoch, nilOf]
  exact hK
include hc in
theorem mgStripes_none {n : Value} (hK : K (.slice none 0 0) H) : c.C (c.F n_manager_Manager_Stripes) [.pointer none, n] H K := by
  refine c.enter hc.mg.manager_Manager_Stripes rfl ?_
  simp -implicitDefEqProofs [c_manager_Manager_Stripes, nilOf]
  exact hK
include hc in
theorem mgSpot_none {n : Value} (hK : ∀ H', H.le H' → K (.tuple #[.agg #[.int .i64 0, .int .i64 0, .int .i64 0, .int .i64 0], .bool false]) H') : c.C (c.F n_manager_Manager_Spot) [.pointer none, n] H K := by
  refine c.enter hc.mg.manager_Manager_Spot rfl ?_
  simp -implicitDefEqProofs [c_manager_Manager_Spot, nilOf]
  exact hK _ ((H.le_alloc _).set (Nat.le_refl _) _)
include hc in
theorem mgStripe_none {n : Value} (hK : ∀ H', H.le H' → K (.tuple #[.agg #[.int .i64 0, .int .i64 0, .int .i64 0, .int .i64 0, .int .i64 0, .slice none 0 0], .bool false]) H') : c.C (c.F n_manager_Manager_Stripe) [.pointer none, n] H K := by
  refine c.enter hc.mg.manager_Manager_Stripe rfl ?_
  simp -implicitDefEqProofs [c_manager_Manager_Stripe, nilOf]
  exact hK _ ((H.le_alloc _).set (Nat.le_refl _) _)

include hc hL h01 hA in
theorem none_ok28 {s : List UInt8} {n : Int} (hK : ∀ H', K (.bool true) H') : c.C (c.F n_hurdlelaw28_ManagerNone) [strV s, .int .i64 n] H K := by
  refine c.enter hL.hurdlelaw28_ManagerNone rfl ?_
  by_cases h5 : 5000 < s.length
  · have h5I : (5000 : Int) < (s.length : Int) := by omega
    simp -implicitDefEqProofs [c_hurdlelaw28_ManagerNone, strV, h5, h5I]
    refine call_of (hA _ _ fun H' => ?_)
    simp -implicitDefEqProofs []
    exact hK _
  · have h5I : ¬ (5000 : Int) < (s.length : Int) := by omega
    have r1 : rdAns (ansB [] 1) = (1, [], 0) := ansB_rd (by omega) (by simp) (by simp)
    have l1 : (ansB [] 1).length ≤ 1000000 := by have := ansB_len (l := []) (e := 1) (by simp) (by simp); omega
    simp -implicitDefEqProofs [c_hurdlelaw28_ManagerNone, strV, h5, h5I]
    refine call_of (mgDo_none c hc fun H1 k1 => ?_)
    simp -implicitDefEqProofs []
    refine call_of (Answer_ok c hc.mg hc.cd l1 fun v2 H2 k2 g2 => ?_)
    rw [r1] at g2 ⊢
    have hv2 : ∃ a cap, v2 = .slice a 0 cap := by obtain ⟨a, cap, e, _⟩ := g2.slr; exact ⟨a, cap, e⟩
    obtain ⟨a2, cap2, rfl⟩ := hv2
    simp -implicitDefEqProofs []
    refine call_of (mgStripe_none c hc fun H3 k3 => ?_)
    obtain ⟨H4, hH4⟩ : ∃ X : IHeap, X = (H3.alloc (.cells [.int .i64 0, .int .i64 0, .int .i64 0, .int .i64 0, .int .i64 0, .slice none 0 0] false)).set H3.next (.cells [.int .i64 0, .int .i64 0, .int .i64 0, .int .i64 0, .int .i64 0, .slice none 0 0] false) := ⟨_, rfl⟩
    have n4 : H4.next = H3.next + 1 := by rw [hH4]; rfl
    have g4 : H4.get H3.next = some (.cells [.int .i64 0, .int .i64 0, .int .i64 0, .int .i64 0, .int .i64 0, .slice none 0 0] false) := by rw [hH4, YW, if_pos rfl]
    simp -implicitDefEqProofs [← hH4]
    refine call_of (mgSpot_none c hc fun H5 k5 => ?_)
    have g5 := (k5.get _ (by omega)).trans g4
    have n5 := k5.next
    obtain ⟨H6, hH6⟩ : ∃ X : IHeap, X = (H5.alloc (.cells [.int .i64 0, .int .i64 0, .int .i64 0, .int .i64 0] false)).set H5.next (.cells [.int .i64 0, .int .i64 0, .int .i64 0, .int .i64 0] false) := ⟨_, rfl⟩
    have k6 : H5.le H6 := by rw [hH6]; exact (H5.le_alloc _).set (Nat.le_refl _) _
    have n6 : H6.next = H5.next + 1 := by rw [hH6]; rfl
    have g6 := (k6.get _ (by omega)).trans g5
    have g6' : H6.get H5.next = some (.cells [.int .i64 0, .int .i64 0, .int .i64 0, .int .i64 0] false) := by rw [hH6, YW, if_pos rfl]
    simp -implicitDefEqProofs [← hH6, g6]
    refine call_of (RSame28 c hL h01 (sv := []) (nil_of H6) (nil_of H6) (by simp) fun H7 k7 => ?_)
    have g7 := (k7.get _ (by omega)).trans g6'
    simp -implicitDefEqProofs [g7]
    refine call_of (mgServers_none c hc ?_)
    simp -implicitDefEqProofs []
    refine call_of (mgEpoch_none c hc ?_)
    simp -implicitDefEqProofs []
    refine call_of (mgStripes_none c hc ?_)
    simp -implicitDefEqProofs []
    refine call_of (hA _ _ fun H' => ?_)
    simp -implicitDefEqProofs []
    exact hK _

include hc h3 hL h01 hA in
theorem bytes_ok28 {x : Cmd} {s : List UInt8} (hx : okX x) (hK : ∀ H', K (.bool true) H') : c.C (c.F n_hurdlelaw28_ManagerBytes) [cmdV x, strV s] H K := by
  refine c.enter hL.hurdlelaw28_ManagerBytes rfl ?_
  by_cases h5 : 5000 < s.length
  · have h5I : (5000 : Int) < (s.length : Int) := by omega
    simp -implicitDefEqProofs [c_hurdlelaw28_ManagerBytes, strV, cmdV, h5, h5I]
    refine call_of (hA _ _ fun H' => ?_)
    simp -implicitDefEqProofs []
    exact hK _
  · have h5I : ¬ (5000 : Int) < (s.length : Int) := by omega
    obtain ⟨HA, hHA⟩ : ∃ X : IHeap, X = H.alloc (.cells [.int .i64 x.cl, .int .i64 x.sq, .int .i64 x.kd, .int .i64 x.a, .int .i64 x.b, .int .i64 x.c, .int .i64 x.d, .int .i64 x.e] false) := ⟨_, rfl⟩
    have nA : HA.next = H.next + 1 := by rw [hHA]; rfl
    have gA : HA.get H.next = some (.cells [.int .i64 x.cl, .int .i64 x.sq, .int .i64 x.kd, .int .i64 x.a, .int .i64 x.b, .int .i64 x.c, .int .i64 x.d, .int .i64 x.e] false) := by rw [hHA, YV, if_pos rfl]
    simp -implicitDefEqProofs [c_hurdlelaw28_ManagerBytes, strV, cmdV, h5, h5I, ← hHA, gA]
    refine call_of (Encode_ok c hc.mg hc.cd hx fun H1 k1 => ?_)
    have g1 := (k1.get _ (by omega)).trans gA
    have n1 := k1.next
    simp -implicitDefEqProofs [g1]
    refine call_of (rEncode_ok c h3 hL hx fun H2 k2 => ?_)
    have g2 := (k2.get _ (by omega)).trans g1
    have n2 := k2.next
    simp -implicitDefEqProofs []
    refine call_of (Decode_ok c hc.mg hc.cd (s := s) (by omega) fun H3 k3 => ?_)
    have g3 := (k3.get _ (by omega)).trans g2
    have n3 := k3.next
    obtain ⟨d, hd⟩ : ∃ d, d = (decC s).getD cmd0 := ⟨_, rfl⟩
    obtain ⟨f, hf⟩ : ∃ f : Int, f = if (decC s).isSome = true then 0 else 3 := ⟨_, rfl⟩
    rw [← hd, ← hf]
    obtain ⟨H4, hH4⟩ : ∃ X : IHeap, X = (H3.alloc (.cells [.int .i64 0, .int .i64 0, .int .i64 0, .int .i64 0, .int .i64 0, .int .i64 0, .int .i64 0, .int .i64 0] false)).set H3.next (.cells [.int .i64 d.cl, .int .i64 d.sq, .int .i64 d.kd, .int .i64 d.a, .int .i64 d.b, .int .i64 d.c, .int .i64 d.d, .int .i64 d.e] false) := ⟨_, rfl⟩
    have k4 : H3.le H4 := by rw [hH4]; exact (H3.le_alloc _).set (Nat.le_refl _) _
    have n4 : H4.next = H3.next + 1 := by rw [hH4]; rfl
    have gd4 : H4.get H3.next = some (.cells [.int .i64 d.cl, .int .i64 d.sq, .int .i64 d.kd, .int .i64 d.a, .int .i64 d.b, .int .i64 d.c, .int .i64 d.d, .int .i64 d.e] false) := by rw [hH4, YW, if_pos rfl]
    have g4 := (k4.get _ (by omega)).trans g3
    simp -implicitDefEqProofs [cmdV, ← hH4]
    refine call_of (rDecode_ok c h3 hL (s := s) (by omega) fun H5 k5 => ?_)
    have g5 := (k5.get _ (by omega)).trans g4
    have gd5 := (k5.get _ (by omega)).trans gd4
    have n5 := k5.next
    rw [← hd, ← hf]
    obtain ⟨H6, hH6⟩ : ∃ X : IHeap, X = (H5.alloc (.cells [.int .i64 0, .int .i64 0, .int .i64 0, .int .i64 0, .int .i64 0, .int .i64 0, .int .i64 0, .int .i64 0] false)).set H5.next (.cells [.int .i64 d.cl, .int .i64 d.sq, .int .i64 d.kd, .int .i64 d.a, .int .i64 d.b, .int .i64 d.c, .int .i64 d.d, .int .i64 d.e] false) := ⟨_, rfl⟩
    have k6 : H5.le H6 := by rw [hH6]; exact (H5.le_alloc _).set (Nat.le_refl _) _
    have n6 : H6.next = H5.next + 1 := by rw [hH6]; rfl
    have gf6 : H6.get H5.next = some (.cells [.int .i64 d.cl, .int .i64 d.sq, .int .i64 d.kd, .int .i64 d.a, .int .i64 d.b, .int .i64 d.c, .int .i64 d.d, .int .i64 d.e] false) := by rw [hH6, YW, if_pos rfl]
    have g6 := (k6.get _ (by omega)).trans g5
    have gd6 := (k6.get _ (by omega)).trans gd5
    simp -implicitDefEqProofs [cmdV, ← hH6]
    refine call_of (Answer_ok c hc.mg hc.cd (s := s) (by omega) fun v7 H7 k7 gr7 => ?_)
    have n7 := k7.next
    have dv := gr7.slD
    have g7 := (k7.get _ (by omega)).trans g6
    have gd7 := (k7.get _ (by omega)).trans gd6
    have gf7 := (k7.get _ (by omega)).trans gf6
    simp -implicitDefEqProofs []
    refine call_of (rAnswer_ok c h3 hL (s := s) (by omega) fun v8 H8 k8 su => ?_)
    have n8 := k8.next
    have g8 := (k8.get _ (by omega)).trans g7
    have gd8 := (k8.get _ (by omega)).trans gd7
    have gf8 := (k8.get _ (by omega)).trans gf7
    have hll : (rdAns s).2.1.length ≤ 1000000000 := by
      unfold rdAns
      split
      · refine takeList_len ?_
        cases s with
        | nil => simp [takeByte, rdS]
        | cons b t => simp only [List.length_cons] at h5; simp only [takeByte, rdS]; omega
      · simp
    by_cases ho : okC x = true
    · have hdx := decC_enc hx ho
      have hlx := encC_len hx
      simp -implicitDefEqProofs [ho]
      refine call_of (Decode_ok c hc.mg hc.cd (s := encC x) (by omega) fun H9 k9 => ?_)
      have n9 := k9.next
      have g9 := (k9.get _ (by omega)).trans g8
      have gd9 := (k9.get _ (by omega)).trans gd8
      have gf9 := (k9.get _ (by omega)).trans gf8
      rw [hdx]
      obtain ⟨Ha, hHa⟩ : ∃ X : IHeap, X = (H9.alloc (.cells [.int .i64 0, .int .i64 0, .int .i64 0, .int .i64 0, .int .i64 0, .int .i64 0, .int .i64 0, .int .i64 0] false)).set H9.next (.cells [.int .i64 x.cl, .int .i64 x.sq, .int .i64 x.kd, .int .i64 x.a, .int .i64 x.b, .int .i64 x.c, .int .i64 x.d, .int .i64 x.e] false) := ⟨_, rfl⟩
      have ka : H9.le Ha := by rw [hHa]; exact (H9.le_alloc _).set (Nat.le_refl _) _
      have na : Ha.next = H9.next + 1 := by rw [hHa]; rfl
      have gea : Ha.get H9.next = some (.cells [.int .i64 x.cl, .int .i64 x.sq, .int .i64 x.kd, .int .i64 x.a, .int .i64 x.b, .int .i64 x.c, .int .i64 x.d, .int .i64 x.e] false) := by rw [hHa, YW, if_pos rfl]
      have ga := (ka.get _ (by omega)).trans g9
      have gd := (ka.get _ (by omega)).trans gd9
      have gf := (ka.get _ (by omega)).trans gf9
      have kv := ((k8.trans k9).trans ka)
      have ku := k9.trans ka
      simp -implicitDefEqProofs [Option.getD_some, Option.isSome_some, cmdV, ← hHa, gea, ga]
      simp -implicitDefEqProofs [gd, gf, str2, strV]
      refine call_of (refInts01_ok c h01 (l := (rdAns s).2.1) (m := (rdAns s).2.1) (dv.1.le kv) (su.le ku) hll ?_)
      simp -implicitDefEqProofs []
      refine call_of (hA _ _ fun H' => ?_)
      simp -implicitDefEqProofs []
      exact hK _
    · have gd := gd8
      have gf := gf8
      have kv := k8
      have ku := IHeap.le_refl H8
      simp -implicitDefEqProofs [ho]
      simp -implicitDefEqProofs [gd, gf, str2, strV]
      refine call_of (refInts01_ok c h01 (l := (rdAns s).2.1) (m := (rdAns s).2.1) (dv.1.le kv) (su.le ku) hll ?_)
      simp -implicitDefEqProofs []
      refine call_of (hA _ _ fun H' => ?_)
      simp -implicitDefEqProofs []
      exact hK _
end
end Go.Proofs.YtndndcdblfejnaaGreatRI
